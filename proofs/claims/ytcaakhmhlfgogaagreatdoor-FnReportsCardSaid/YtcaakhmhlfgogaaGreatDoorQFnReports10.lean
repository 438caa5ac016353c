/-
  Parts of the proof, put together by program.
-/
import Derived.Test.YtcaakhmhlfgogaaGreatDoorQFnReports9
set_option linter.defProp false
set_option linter.unusedVariables false
set_option maxRecDepth 100000
set_option linter.unusedSimpArgs false
set_option linter.unusedSectionVars false
open Go renaming Value→vL,World→wD,Program→pG
namespace Go.Sh
open Rep (rep)
variable {F G:List Nat}{b o:Nat}{cs:List vL}{w:wD}
structure sP where
 a:dM
 b:dM
 c:dM
 d:dM
 I:kB
def sP.ext_iff{x y:sP}:x=y↔(x.a=y.a/\x.b=y.b/\x.c=y.c/\x.d=y.d/\x.I=y.I):=⟨λh=>by rw[h];exact⟨rfl,rfl,rfl,rfl,rfl⟩,λh=>by obtain⟨h0,h1,h2,h3,h4⟩:=h;cases x;cases y;simp only at h0 h1 h2 h3 h4;simp only[h0,h1,h2,h3,h4]⟩
instance:Rep sP:=Rep.via λx=>(x.a,x.b,x.c,x.d,x.I)
instance:aV sP:=⟨⟨(aV.zv:dM),(aV.zv:dM),(aV.zv:dM),(aV.zv:dM),(aV.zv:kB)⟩,aV.zc (dM×dM×dM×dM×kB),λw=>aV.zr (α:=dM×dM×dM×dM×kB) w⟩
def zxn{γ:Type}{H:List Nat->wD->γ->Prop}{x:sP}{upd:sP->γ}(h:bT H F w b o G x upd) :
   ∃G1,bT H F w b (o+0) G1 x.a (λy=>upd ⟨y,x.b,x.c,x.d,x.I⟩):=by
 have h':bT H F w b o G (x.a,x.b,x.c,x.d,x.I) (λp:dM×dM×dM×dM×kB=>upd ⟨p.1,p.2.1,p.2.2.1,p.2.2.2.1,p.2.2.2.2⟩):=⟨h.here,h.sub,λw' G' _ hc hO hs=>h.back w' G' _ hc hO hs⟩;obtain⟨_,h'⟩:=h'.fst;exact⟨_,h'⟩
def zxo{γ:Type}{H:List Nat->wD->γ->Prop}{x:sP}{upd:sP->γ}(h:bT H F w b o G x upd) :
   ∃G1,bT H F w b (o+1) G1 x.b (λy=>upd ⟨x.a,y,x.c,x.d,x.I⟩):=by
 have h':bT H F w b o G (x.a,x.b,x.c,x.d,x.I) (λp:dM×dM×dM×dM×kB=>upd ⟨p.1,p.2.1,p.2.2.1,p.2.2.2.1,p.2.2.2.2⟩):=⟨h.here,h.sub,λw' G' _ hc hO hs=>h.back w' G' _ hc hO hs⟩;obtain⟨_,h'⟩:=h'.snd;obtain⟨G1,h'⟩:=h'.fst;exact⟨_,h'⟩
def zxp{γ:Type}{H:List Nat->wD->γ->Prop}{x:sP}{upd:sP->γ}(h:bT H F w b o G x upd) :
   ∃G1,bT H F w b (o+2) G1 x.c (λy=>upd ⟨x.a,x.b,y,x.d,x.I⟩):=by
 have h':bT H F w b o G (x.a,x.b,x.c,x.d,x.I) (λp:dM×dM×dM×dM×kB=>upd ⟨p.1,p.2.1,p.2.2.1,p.2.2.2.1,p.2.2.2.2⟩):=⟨h.here,h.sub,λw' G' _ hc hO hs=>h.back w' G' _ hc hO hs⟩;obtain⟨_,h'⟩:=h'.snd;obtain⟨G1,h'⟩:=h'.snd;obtain⟨_,h'⟩:=h'.fst;exact⟨_,h'⟩
def Wi{γ:Type}{H:List Nat->wD->γ->Prop}{x:sP}{upd:sP->γ}(h:bT H F w b o G x upd) :
   ∃G1,bT H F w b (o+3) G1 x.d (λy=>upd ⟨x.a,x.b,x.c,y,x.I⟩):=by
 have h':bT H F w b o G (x.a,x.b,x.c,x.d,x.I) (λp:dM×dM×dM×dM×kB=>upd ⟨p.1,p.2.1,p.2.2.1,p.2.2.2.1,p.2.2.2.2⟩):=⟨h.here,h.sub,λw' G' _ hc hO hs=>h.back w' G' _ hc hO hs⟩;obtain⟨_,h'⟩:=h'.snd;obtain⟨G1,h'⟩:=h'.snd;obtain⟨_,h'⟩:=h'.snd;obtain⟨_,h'⟩:=h'.fst;exact⟨_,h'⟩
def UI{γ:Type}{H:List Nat->wD->γ->Prop}{x:sP}{upd:sP->γ}(h:bT H F w b o G x upd) :
   ∃G1,bT H F w b (o+4) G1 x.I (λy=>upd ⟨x.a,x.b,x.c,x.d,y⟩):=by
 have h':bT H F w b o G (x.a,x.b,x.c,x.d,x.I) (λp:dM×dM×dM×dM×kB=>upd ⟨p.1,p.2.1,p.2.2.1,p.2.2.2.1,p.2.2.2.2⟩):=⟨h.here,h.sub,λw' G' _ hc hO hs=>h.back w' G' _ hc hO hs⟩;obtain⟨_,h'⟩:=h'.snd;obtain⟨G1,h'⟩:=h'.snd;obtain⟨_,h'⟩:=h'.snd;obtain⟨_,h'⟩:=h'.snd;exact⟨_,h'⟩
def qj{x:sP}(h:rep F w cs x):∃F0 c0 F1 c1 F2 c2 F3 c3 F4 c4,F=(F0++(F1++(F2++(F3++F4))))/\cs=(c0++(c1++(c2++(c3++c4))))/\rep F0 w c0 x.a/\rep F1 w c1 x.b/\rep F2 w c2 x.c/\rep F3 w c3 x.d/\rep F4 w c4 x.I:=by
 obtain⟨F0,_,c0,_,rfl,rfl,h0,h⟩:=h;obtain⟨F1,_,c1,_,rfl,rfl,h1,h⟩:=h;obtain⟨F2,_,c2,_,rfl,rfl,h2,h⟩:=h;obtain⟨F3,_,c3,_,rfl,rfl,h3,h⟩:=h;exact⟨_,_,_,_,_,_,_,_,_,_,rfl,rfl,h0,h1,h2,h3,h⟩
end Go.Sh
namespace Go.Proofs.YtcaakhmhlfgogaaGreatDoor
open Go Go.Sh Go.Proofs
open Rep (rep)
variable {W0 w:wD}{s:ByteArray}{v0:vL}
def Pe(t:aD):Prop:=∀{w W:wD}{v:vL},Is W v t->aB W w->wT t<=1048576 ->
 aJ tp 129 [v] w λr w'=>aB w w'/\eG w.heap.size w' r t
def fz{t:aD}(ih:∀ x∈t.kids,Pe x):Pe t:=by
 intro _ _ _ h e _;have hkl:t.kids.length<=1048576:=by have:=VK t;have:=WY t.kids;omega
 have gf:∀x∈t.kids,wT x<=1048576:=λx hx=>by have:=VK t;have:=WY t.kids;have:=Vw wT hx;omega
 refine co (g:=kf [] [(3,523816,[3,9])] []) Tryz.func129 ?_;refine iR h e λ_ g5 hA=>?_;have hs1:=g5.size;refine rK BZ λw2 D g9=>?_;have hg2:=g9.lt;refine aE pF<|aL pE (sK hA) D λ_ h7=>aX mY h7 ?_
 refine bV t.kids.length (λk us w'=>∃v3 hi,us=[v3,iV k]/\k<=t.kids.length/\hi<=w'.heap.size/\w2.heap.size<=hi/\aB w2 w'/\bQ w2.heap.size hi 67 w' v3 (t.kids.take k)) 0 (z0 _)
     ⟨.slice none 0 0,w2.heap.size,rfl,z0 _,lr _,iD _,xx,uC _ _ _ _⟩ ?_
 rintro k m _ w5 _ ⟨v3,hi,hu,_,_,_,C,r5⟩;obtain⟨gg,gh⟩:=dQ hu;rw[gg,gh];have hs5:=C.size;refine bM<|br (λ_=>?_) λ_=>?_
 ·have hk:k<t.kids.length:=oo;refine bC mY dK h7 hk λ_ _ g0=>aL dK g0 xx λ_ gi=>mB BZ rfl dK rfl gi xx λw6 g1 gj _=>?_;have hs6:=g1.size;refine aL dK gj xx λ_ gl=>(ih _ (cY hk) gl xx (gf _ (cY hk))).mono ?_;rintro _ _ ⟨g2,g3⟩;have hs7:=g2.size;refine oS (α:=aD) mY dK RH V7 dD (r5.ext xx) oo g3.toI oo oo (by rw[eB,fY];omega) (by rw[fY];omega) λgn w8 gb r8=>?_;have hs8:=gb.size;refine aU<|⟨m-1,oo,k+1,oo,gn,w8.heap.size,rfl,oo,lr _,oo,aB.xI xx gb oo,?_⟩;rwa[<-tk hk]at r8
 have hk:t.kids.length<=k:=oo;refine aE BK<|aS aG (EQ hA) xx λgp=>aE CC<|aS aG (DO hA) xx λgq=>aE yZ<|eV cG (AU hA) xx λg4=>?_;have r5:=r5.own;rw[iO hk]at r5
 have gc:aK w2.heap.size hi w5 (.agg #[iV t.kind,iV t.num,.string t.name,v3]) t:=by
   have:=FT gp gq g4 r5;rwa[aD.eta]at this
 obtain⟨a,n,cap,q1⟩:=UB r5;subst q1;refine fI (cells:=#[iV t.kind,iV t.num,.string t.name,.slice a n cap]) kK<|tA dK rfl (g9.ext C) rfl gc λw6 gd gr=>AX gr dK<|⟨aB.xI xx gd oo,(gc.chg gd oo).own.mono oo⟩
def Vp(t:aD):Pe t:=aD.ind (λt ih{_ _ _}=>fz ih) t
def U6{l:(List ByteArray)} (h0:Is W0 v0 l)(e0:aB W0 w)  :
   aJ tp 128 [v0,.string s] w λr w'=>aB w w'/\(r=iV (plc s l)):=by
 refine co (g:=kf [] [] []) Tryz.func128 ?_;refine(Mk h0 e0).mM λ_ y1=>?_;refine⟨y1,?_⟩;rfl
structure ZD(g bs:Nat)(c0 c1 c2:vL)(G L P:List ByteArray)(w:wD):Prop where
 m0:∃F,aZ F w c0 G/\∀b∈F,b<bs/\b≠g
 m1:∃F,aZ F w c1 L/\∀b∈F,b<bs/\b≠g
 m2:∃F,aZ F w c2 P/\∀b∈F,b<bs/\b≠g
structure mJ(W:wD)(g bs:Nat)(c0 c1 c2 ve:vL)(G L P:List ByteArray)(I:List bH)(F:List Nat)(w:wD):Prop where
 oat:∃rv,nL F w g 0 (⟨⟨c0⟩,⟨c1⟩,⟨c2⟩,⟨ve⟩,⟨rv,I⟩⟩:sP)
 nm:ZD g bs c0 c1 c2 G L P w
 old:aB W w
 gW:W.heap.size<=g
 gb:g<bs
 Wb:bs<=w.heap.size
 Fb:∀c∈F,bs<=c
section
variable {W w w':wD}{g bs:Nat}{c0 c1 c2 ve:vL}{G L P:List ByteArray}{I:List bH}{F F':List Nat}
def ZD.keep(h:ZD g bs c0 c1 c2 G L P w)(hk:∀ b,b<bs->b≠g->b<w.heap.size->w'.heap[b]?=w.heap[b]?):ZD g bs c0 c1 c2 G L P w':=by
 obtain⟨⟨F0,a0,b0⟩,⟨F1,a1,b1⟩,⟨F2,a2,b2⟩⟩:=h;exact⟨⟨F0,a0.keep λb hb=>hk b (b0 b hb).1 (b0 b hb).2 (a0.lt b hb),b0⟩,⟨F1,a1.keep λb hb=>hk b (b1 b hb).1 (b1 b hb).2 (a1.lt b hb),b1⟩,⟨F2,a2.keep λb hb=>hk b (b2 b hb).1 (b2 b hb).2 (a2.lt b hb),b2⟩⟩
def mJ.lt(h:mJ W g bs c0 c1 c2 ve G L P I F w):g<w.heap.size/\(∀c∈F,c<w.heap.size)/\g∉F/\∀c∈F,W.heap.size<=c:=by
 obtain⟨_,h2⟩:=h.oat;have:=h2.lts;have h6:=h.gb;have h7:=h.gW;exact⟨this g ss,λc hc=>this c (by simp[hc]),λhm=>by have:=h.Fb g hm;omega,λc hc=>by have:=h.Fb c hc;omega⟩
def mJ.ext(h:mJ W g bs c0 c1 c2 ve G L P I F w)(hx:aB w w'):mJ W g bs c0 c1 c2 ve G L P I F w':=by
 obtain⟨rv,h2⟩:=h.oat;exact⟨⟨rv,h2.ext hx⟩,h.nm.keep λ_ _ _ hb=>hx.heap hb,h.old.trans hx,h.gW,h.gb,eH h.Wb hx.size,h.Fb⟩
def mJ.turn{I':List bH}{rv:vL}(h:mJ W g bs c0 c1 c2 ve G L P I F w)(hc:cH (g :: F) w w')(hO:nL F' w' g 0 (⟨⟨c0⟩,⟨c1⟩,⟨c2⟩,⟨ve⟩,⟨rv,I'⟩⟩:sP))(hF:∀ c∈F',c∈F\/w.heap.size<=c):mJ W g bs c0 c1 c2 ve G L P I' F' w':=by
 have hb:=h.Wb;have h1:=h.gW;have h2:=h.gb;refine⟨⟨rv,hO⟩,h.nm.keep λb _ g0 g1=>hc.block b g1 λhm=>?_,h.old.chgL hc λc C=>?_,h1,h2,eH hb hc.size,λc C=>(hF c C).elim (h.Fb c) λh=>oo⟩
 ·rcases bF.1 hm with e|hm
  ·exact g0 e
  have:=h.Fb b hm;omega
 rcases bF.1 C with rfl|C
 ·exact h1
 have:=h.Fb c C;omega
def Q6{j:Nat}{cj:vL}{l:List ByteArray}(h:mJ W g bs c0 c1 c2 ve G L P I F w)(hj:(j=0/\cj=c0/\l=G)\/(j=1/\cj=c1/\l=L)\/(j=2/\cj=c2/\l=P)) :
   w.rangeAt g (0+j) [cj]/\Is w cj l:=by
 obtain⟨_,hO⟩:=h.oat;obtain⟨⟨_,a0,_⟩,⟨_,a1,_⟩,⟨_,a2,_⟩⟩:=h.nm;rcases hj with⟨rfl,rfl,rfl⟩|⟨rfl,rfl,rfl⟩|⟨rfl,rfl,rfl⟩
 ·obtain⟨G1,hL⟩:=zxn (bT.var hO);obtain⟨cs,⟨_,rfl,_⟩,hr,_⟩:=hL.here;exact⟨hr,a0.is⟩
 ·obtain⟨G1,hL⟩:=zxo (bT.var hO);obtain⟨cs,⟨_,rfl,_⟩,hr,_⟩:=hL.here;exact⟨hr,a1.is⟩
 obtain⟨G1,hL⟩:=zxp (bT.var hO);obtain⟨cs,⟨_,rfl,_⟩,hr,_⟩:=hL.here;exact⟨hr,a2.is⟩
def KB(h:mJ W g bs c0 c1 c2 ve G L P I F w):∃rv,w.rangeAt g (0+4) [rv]/\Is w rv I/\nL F w g 0 (⟨⟨c0⟩,⟨c1⟩,⟨c2⟩,⟨ve⟩,⟨rv,I⟩⟩:sP):=by
 obtain⟨rv,hO⟩:=h.oat;obtain⟨_,hL⟩:=UI (bT.var hO);obtain⟨_,⟨rfl,g0⟩,g1,_⟩:=hL.here;exact⟨rv,g1,g0.own.is,hO⟩
def Ih{w2 w3:wD}{rv u:vL}{x:bH}{lo hi:Nat}{K:wD->Prop}(h:mJ W g bs c0 c1 c2 ve G L P I F w2)(hO:nL F w2 g 0 (⟨⟨c0⟩,⟨c1⟩,⟨c2⟩,⟨ve⟩,⟨rv,I⟩⟩:sP))(hx:aB w2 w3)(o:aK lo hi w3 u x)(hlo:w2.heap.size<=lo)(gx:lo<=w3.heap.size)
   (hI:I.length<=1000000) (k:∀w4 F4,cH (g :: F) w2 w4->mJ W g bs c0 c1 c2 ve G L P (I++[x]) F4 w4->(∀c∈F4,c∈F\/w2.heap.size<=c)->K w4) :
   OP tp (Instr.buildSlice 32 1 #[(0,u)]) w3 λx49 w=>eR (λc=>c∈F) w3 w/\OP tp (Builtin.append_ #[32,32] 32 [rv,x49].toArray) w λx50 w'=>
     eR (λc=>c∈F) w w'/\bZ (pT g 0) (lH tp (λc=>c∈F) (Instr.fieldAt 34 (pT g 0) 4) w' λx52=>fA tp (Instr.storeAt 32 x52 x50) w' λw=>K w):=by
 obtain⟨_,e2,_,_⟩:=h.lt;have:=hx.size;obtain⟨_,gj,g3⟩:=o;have gd:=hO.ext hx;obtain⟨G1,g4⟩:=UI (bT.var gd);obtain⟨_,⟨rfl,g5⟩,_,gl,_,gn,_⟩:=g4.here
 have g2:∀c∈G1,c∈F:=λc hc=>by
   rcases bF.1 (g4.sub c (by simp[hc]))with e|h
   ·exact absurd (e▸hc) gn
   exact h
 have g0:=gd.lts;refine CT (β:=bH) (G:=G1) eQ fE Jy Nt dD g5 gl gj (λc hc gp=>by have:=g3 c hc;have:=e2 c (g2 c gp);omega) (by rw[eB];show I.length+1<=_;omega) (by show(I.length+1)*_<=_;omega) (λw4 _ w5 _ g9 gf gq gr gg=>?_) λ_ w4 g9 h=>⟨g9.toX,h⟩;refine⟨gf.toX (λc hc=>g2 c hc),?_⟩;refine bZ.mk rfl<|sU eW ?_;have gb:cH G1 w3 w5:=(g9.chg G1).trans gf;refine Lf eJ g4 g0 gb gq gr (λc hc=>?_) λw6 gs ⟨F',gh,gt⟩=>?_
 ·rcases gg c hc with h|h|h
  ·exact .inl h
  ·refine .inr λhm=>?_;have:=g3 c h;rcases bF.1 hm with e|hm
   ·omega
   have:=e2 c hm;omega
  exact .inr λhm=>by have:=g0 c hm;omega
 have gc:g∉F':=by obtain⟨_,_,_,_,_,hn,_⟩:=gh;exact hn
 have g1:cH (g :: F) w2 w6:=(hx.chg _).trans (gs.mono λc hc=>by
   rcases bF.1 hc with rfl|hc
   ·simp
   simp[g2 c hc])
 have gi:∀c∈F',c∈F\/w2.heap.size<=c:=λc hc=>by
   rcases gt c hc with h|h
   ·rcases bF.1 h with rfl|h
    ·exact absurd hc gc
    exact .inl h
   rcases gg c h with h|h|h
   ·exact .inl (g2 c h)
   ·have:=g3 c h;exact .inr oo
   exact .inr oo
 exact k w6 F' g1 (h.turn g1 gh gi) gi
def De{w2:wD}{u:vL}{x:bH}{lo hi:Nat}{K:wD->Prop}(h:mJ W g bs c0 c1 c2 ve G L P I F w2)(o:aK lo hi w2 u x)(hlo:w2.heap.size<=lo)
   (hI:I.length<=1000000) {rv:vL} (hO:nL F w2 g 0 (⟨⟨c0⟩,⟨c1⟩,⟨c2⟩,⟨ve⟩,⟨rv,I⟩⟩:sP)) (k:∀w4 F4,cH (g :: F) w2 w4->mJ W g bs c0 c1 c2 ve G L P (I++[x]) F4 w4->(∀c∈F4,c∈F\/w2.heap.size<=c)->K w4) :
   OP tp (Instr.buildSlice 32 1 #[(0,u)]) w2 λx49 w=>OP tp (Builtin.append_ #[32,32] 32 [rv,x49].toArray) w λx50 w'=>
     bZ (pT g 0) (RD tp (Instr.fieldAt 34 (pT g 0) 4) w' λx52=>fA tp (Instr.storeAt 32 x52 x50) w' λw=>K w):=by
 obtain⟨_,e2,_,_⟩:=h.lt;obtain⟨_,gh,g2⟩:=o;obtain⟨G1,g3⟩:=UI (bT.var hO);obtain⟨_,⟨rfl,g4⟩,_,gi,_,gj,_⟩:=g3.here
 have g5:∀c∈G1,c∈F:=λc hc=>by
   rcases bF.1 (g3.sub c (by simp[hc]))with e|h
   ·exact absurd (e▸hc) gj
   exact h
 have g0:=hO.lts;refine CT (β:=bH) (G:=G1) eQ fE Jy Nt dD g4 gi gh (λc hc gl=>by have:=g2 c hc;have:=e2 c (g5 c gl);omega) (by rw[eB];show I.length+1<=_;omega) (by show(I.length+1)*_<=_;omega) (λw4 _ w5 _ gc gn gp gq gd=>?_) λ_ w4 gc h=>h;refine bZ.mk rfl<|aE eW ?_;have g9:cH G1 w2 w5:=(gc.chg G1).trans gn;refine Lf eJ g3 g0 g9 gp gq (λc hc=>?_) λw6 gr ⟨F',gf,gs⟩=>?_
 ·rcases gd c hc with h|h|h
  ·exact .inl h
  ·refine .inr λhm=>?_;have:=g2 c h;rcases bF.1 hm with e|hm
   ·omega
   have:=e2 c hm;omega
  exact .inr λhm=>by have:=g0 c hm;omega
 have gb:g∉F':=by obtain⟨_,_,_,_,_,hn,_⟩:=gf;exact hn
 have g1:cH (g :: F) w2 w6:=gr.mono λc hc=>by
   rcases bF.1 hc with rfl|hc
   ·simp
   simp[g5 c hc]
 have gg:∀c∈F',c∈F\/w2.heap.size<=c:=λc hc=>by
   rcases gs c hc with h|h
   ·rcases bF.1 h with rfl|h
    ·exact absurd hc gb
    exact .inl h
   rcases gd c h with h|h|h
   ·exact .inl (g5 c h)
   ·have:=g2 c h;exact .inr oo
   exact .inr oo
 exact k w6 F' g1 (h.turn g1 gf gg) gg
def Dm{A R:List bH}{y:bH}{k:Nat}{K:wD->Prop}(h:mJ W g bs c0 c1 c2 ve G L P (A++y :: R) F w)(hk:A.length=k)(hL:(A++y :: R).length<=1000000)
   (kk:∀w' F',cH (g :: F) w w'->mJ W g bs c0 c1 c2 ve G L P (A++(⟨y.op,y.arg,y.term,((A++y :: R).length:Int)⟩:bH) :: R) F' w'->(∀c∈F',c∈F)->K w') :
   bZ (pT g 0)<|RD tp (Instr.fieldAt 34 (pT g 0) 4) w λx110=>RD tp (Instr.loadAt 32 x110) w λx111=>
     bZ (pT g 0)<|RD tp (Instr.fieldAt 34 (pT g 0) 4) w λx115=>RD tp (Instr.loadAt 32 x115) w λx116=>
     RD tp (Builtin.len_ #[32] 3 [x116].toArray) w λx117=>RD tp (Instr.indexAt 32 x111 (iV k)) w λx118=>RD tp (Instr.fieldAt 69 x118 3) w λx119=>
     fA tp (Instr.storeAt 3 x119 x117) w λw=>K w:=by
 obtain⟨_,_,_,_⟩:=h.lt;obtain⟨rv,h2⟩:=h.oat;have:=h2.lts;have C:k<(A++y :: R).length:=by simp;omega
 obtain⟨_,g3⟩:=UI (bT.var h2);obtain⟨_,⟨rfl,g1⟩,g4,_⟩:=g3.here;obtain⟨_,_,_,_,g5,_,g9⟩:=g3.elemV (k:=k) C;refine bZ.mk rfl<|aE eW<|xZ eJ g4<|bZ.mk rfl<|aE eW<|xZ eJ g4<|aX eQ (show Is w rv (A++y :: R)from g1.own.is)<|UL eQ fE g5 C ?_;obtain⟨_,gb⟩:=Yd g9;refine aE yU<|WX aG gb (xN io) ss λw' hc ⟨F',hO,gc⟩=>?_;have g2:g∉F':=by obtain⟨_,_,_,_,_,hn,_⟩:=hO;exact hn
 have hF:∀c∈F',c∈F:=λc g0=>by
   rcases gc c g0 with h|h
   ·rcases bF.1 h with rfl|h
    ·exact absurd g0 g2
    exact h
   simp at h
 refine kk w' F' hc (h.turn (rv:=rv) hc ?_ λc g0=>.inl (hF c g0)) hF;have hO:nL F' w' g 0 (⟨⟨c0⟩,⟨c1⟩,⟨c2⟩,⟨ve⟩,⟨rv,(A++y :: R).set k ⟨((A++y :: R)[k]'C).op,((A++y :: R)[k]'C).arg,((A++y :: R)[k]'C).term,((A++y :: R).length:Int)⟩⟩⟩:sP):=hO;rw[XZ hk,OH hk C]at hO;exact hO
end
end Go.Proofs.YtcaakhmhlfgogaaGreatDoor
namespace Go.Sh
open Rep (rep)
section
variable {P:pG}{X:Nat->Prop}{w W:wD}{K:vL->Prop}
def Nx{m:Sem vL}{v:vL}(h:∀ w',RD P m w' (λu=>u=v))(k:K v):lH P X m w K:=
 ⟨v,λw' _=>by obtain⟨u,hu,rfl⟩:=h w';exact hu w' xx,k⟩
def Ro{α:Type}[Rep α]{t by_ b o:Nat}{x:α}(ht:cT P t=some (Rep.size α,by_,true))(ha:Rep.agg α=true)(hn:0<Rep.size α)(h:iS W w b o x)(hX:¬X b)(k:∀ v,Is W v x->K v) :
   lH P X (Instr.loadAt t (pT b o)) w K:=by
 obtain⟨F,cs,hr,hc⟩:=h;obtain⟨_,d,hi,hd,hs,_,hg⟩:=xO ht;have hl:=Rep.len hr;refine⟨.agg cs.toArray,λw' g0=>?_,k _ ⟨F,cs,hr,by simp[fF,ha]⟩⟩;exact run_loadAt_mid w' b o t cs d (yT hc (g0.block b (JG hc oo) hX)) hd hg (by simp[hi,hs,hl])
end
end Go.Sh
namespace Go.Proofs.YtcaakhmhlfgogaaGreatDoor
open Go Go.Sh Go.Proofs
open Rep (rep)
variable {F F':List Nat}{K:vL->Prop}{P:pG}{W W0 w w' w5:wD}{b g gl gn gp k n:Nat}{c:aF}{cs:List vL}{s:ByteArray}{t:TypeId}{v v0 vl:vL}
def Ux{x:aA}(h:iS W w b 0 x):w.rangeAt b (0+1) [.string x.name]:=by
 obtain⟨F,cs,hr,hc⟩:=h;have h:iS W w b 0 x.tup:=⟨F,cs,GW.1 hr,hc⟩;obtain⟨F,cs,⟨_,rfl,_⟩,hr⟩:=h.snd.fst;exact hr
def Zc{x:aA}(h:iS W w b 0 x):iS W w b (0+2) x.term:=by
 obtain⟨F,cs,hr,hc⟩:=h;have h:iS W w b 0 x.tup:=⟨F,cs,GW.1 hr,hc⟩;exact h.snd.snd.fst
section
variable {w:wD}{lo hi:Nat}{K:vL->Prop}{X:Nat->Prop}
def lx{a b:Int}{u:vL}{t:aD}(ha:bR a)(hb:bR b)(hu:aK lo hi w u t)(k:∀ v,aK lo hi w v (⟨a,b,t,0⟩:bH)->K v):lH tp X (Instr.build 69 #[(0,iV a),(1,iV b),(2,u)]) w K:=by
 obtain⟨p,q,rfl⟩:=RQ hu.is;exact Nx (λ_=>fI (cells:=#[iV a,iV b,iV t.kind,iV t.num,.string t.name,.slice p t.kids.length q,iV 0]) kK rfl) (k _ (LC ha hb pJ hu))
def xk{a:Int}{u:vL}{t:aD}(ha:bR a)(hu:aK lo hi w u t)(k:∀ v,aK lo hi w v (⟨a,0,t,0⟩:bH)->K v):lH tp X (Instr.build 69 #[(0,iV a),(2,u)]) w K:=by
 obtain⟨p,q,rfl⟩:=RQ hu.is;exact Nx (λ_=>fI (cells:=#[iV a,iV 0,iV t.kind,iV t.num,.string t.name,.slice p t.kids.length q,iV 0]) kK rfl) (k _ (LC ha pJ pJ hu))
def zuo{a b:Int}(ha:bR a)(hb:bR b)(k:∀ v,aK lo hi w v (⟨a,b,bA,0⟩:bH)->K v):lH tp X (Instr.build 69 #[(0,iV a),(1,iV b)]) w K:=by
 refine Nx (v:=.agg #[iV a,iV b,iV 0,iV 0,.string nO,.slice none 0 0,iV 0]) (λ_=>fI (cells:=#[iV a,iV b,iV 0,iV 0,.string nO,.slice none 0 0,iV 0]) kK rfl)<|k _ (LC ha hb pJ EJ)
end
section
variable {W w:wD}{g bs:Nat}{c0 c1 c2 ve:vL}{G L P:List ByteArray}{I:List bH}{F:List Nat}
def YY{j g5:Nat}{cj:vL}{l:List ByteArray}{op:Int}{x:aA}{K:wD->Prop}(h:mJ W g bs c0 c1 c2 ve G L P I F w)(hf:fG tp 34 j=some j)(hj:(j=0/\cj=c0/\l=G)\/(j=1/\cj=c1/\l=L)\/(j=2/\cj=c2/\l=P))
   (ho:bR op) (hB:iS W w g5 0 x) (h5:g5∉F) (hI:I.length<=1000000) (k:∀w4 F4,cH (g :: F) w w4->mJ W g bs c0 c1 c2 ve G L P (I++[⟨op,plc x.name l,bA,0⟩]) F4 w4->(∀c∈F4,c∈F\/w.heap.size<=c)->K w4) :
   XR λX=>bZ (pT g 0)<|lH tp X (Instr.fieldAt 34 (pT g 0) 4) w λx36=>lH tp X (Instr.loadAt 32 x36) w λx37=>
     bZ (pT g 0)<|lH tp X (Instr.fieldAt 34 (pT g 0) j) w λx40=>lH tp X (Instr.loadAt 26 x40) w λx41=>
     lH tp X (Instr.fieldAt 117 (pT g5 0) 1) w λx42=>lH tp X (Instr.loadAt 9 x42) w λx43=>aJ tp 128 [x41,x43] w λx44 w1=>
     eR X w w1/\lH tp X (Instr.build 69 #[(0,iV op),(1,x44)]) w1 λx48=>OP tp (Instr.buildSlice 32 1 #[(0,x48)]) w1 λx49 w2=>eR X w1 w2 /\
     OP tp (Builtin.append_ #[32,32] 32 [x37,x49].toArray) w2 λx50 w3=>eR X w2 w3/\bZ (pT g 0) (lH tp X (Instr.fieldAt 34 (pT g 0) 4) w3 λx52=>
     fA tp (Instr.storeAt 32 x52 x50) w3 λw=>K w):=by
 obtain⟨_,_,e3,_⟩:=h.lt;obtain⟨_,hr,hi,hO⟩:=KB h;obtain⟨hn,g1⟩:=Q6 h hj;refine XR.mk (λc=>c∈F)<|bZ.mk rfl<|sU eW<|zW eJ hr e3<|bZ.mk rfl<|sU hf<|zW dC hn e3<|sU oB<|zW cG (Ux hB) h5<|(U6 g1 xx).mM λw4 g0=>?_;refine⟨g0.toX,?_⟩;have:=JE (s:=x.name) (l:=l);have:=fD g1;refine zuo (lo:=w4.heap.size) (hi:=w4.heap.size) ho io λ_ g2=>Ih h hO g0 g2 g0.size (lr _) hI k
def Xj{g5:Nat}{x:aA}{K:wD->Prop}(h:mJ W g bs c0 c1 c2 ve G L P I F w)(hB:iS W w g5 0 x)(h5:g5∉F)(hI:I.length<=1000000)(hw:wT x.term<=1000)
   (k:∀w4 F4,cH (g :: F) w w4->mJ W g bs c0 c1 c2 ve G L P (I++[⟨2,0,x.term,0⟩]) F4 w4->(∀c∈F4,c∈F\/w.heap.size<=c)->K w4) :
   XR λX=>bZ (pT g 0)<|lH tp X (Instr.fieldAt 34 (pT g 0) 4) w λx36=>lH tp X (Instr.loadAt 32 x36) w λx37=>
     lH tp X (Instr.fieldAt 117 (pT g5 0) 2) w λx60=>lH tp X (Instr.loadAt 67 x60) w λx61=>aJ tp 129 [x61] w λx62 w1=>
     eR X w w1/\lH tp X (Instr.build 69 #[(0,iV 2),(2,x62)]) w1 λx48=>OP tp (Instr.buildSlice 32 1 #[(0,x48)]) w1 λx49 w2=>eR X w1 w2 /\
     OP tp (Builtin.append_ #[32,32] 32 [x37,x49].toArray) w2 λx50 w3=>eR X w2 w3/\bZ (pT g 0) (lH tp X (Instr.fieldAt 34 (pT g 0) 4) w3 λx52=>
     fA tp (Instr.storeAt 32 x52 x50) w3 λw=>K w):=by
 obtain⟨_,_,e3,_⟩:=h.lt;obtain⟨_,hr,_,hO⟩:=KB h;refine XR.mk (λc=>c∈F)<|bZ.mk rfl<|sU eW<|zW eJ hr e3<|sU sS<|Ro dK rfl dD (Zc hB) h5 λ_ g1=>(Vp _ g1 h.old oo).mono ?_;rintro _ w4 ⟨g0,g2⟩;refine⟨g0.toX,?_⟩;refine xk io g2.toI λ_ g3=>Ih h hO g0 g3 (lr _) g0.size hI k
end
def PL(c:qG)(n:Nat)(l:List aA):Prop:=∀{W w:wD}{g bs:Nat}{c0 c1 c2 ve:vL}{G L P:List ByteArray}{I:List bH}{F:List Nat}{v:vL},mJ W g bs c0 c1 c2 ve G L P I F w->Is W v l->(∀x∈l,dH c n x)->I.length+2*cM l<=1000000 ->
 aJ tp 62 [pT g 0,v] w λr w'=>cH (g :: F) w w'/\∃F',mJ W g bs c0 c1 c2 ve G L P (I++eA G L P l I.length) F' w'/\∀c∈F',c∈F\/w.heap.size<=c
def Wo(W w:wD)(g bs:Nat)(c0 c1 c2 ve:vL)(G L P:List ByteArray)(I:List bH)(F:List Nat)(l:List aA)(k:Nat)(us:List vL)(w':wD):Prop:=
 us=[iV k]/\∃I1 F1,k<=l.length/\I++eA G L P l I.length=I1++eA G L P (l.drop k) I1.length/\I1.length+2*cM (l.drop k)<=1000000 /\
   cH (g :: F) w w'/\mJ W g bs c0 c1 c2 ve G L P I1 F1 w'/\∀c∈F1,c∈F\/w.heap.size<=c
def R4{c:qG}{l:List aA}(ih:∀ m l,m+1=n->PL c m l)(gb:∀ m,PL c m []):PL c n l:=by
 intro W w g bs c0 c1 c2 ve G L P I F _ hE h hs gT;have hln:=fD h;obtain⟨-,_,_,_⟩:=hE.lt;refine co (g:=⟨extL,[],[(1,1809251394333065553493296640760748560207343510400633813116524750123642649824,[10])],[(7,[0,1,2,3,4,5,6,7,8,9,10,12,13,11,14,15,16,17,18,19,20],215040),(9,[0,1,2,3,4,5,6,7,8,9,10,11,12,13],1664),(12,[0,1,2,3,4,5,6,7,8,9,10,11,12],0),(14,[0,1,2,3,4,5,6,7,8,9,10,11,12,13],1664),(19,[0,1,2,3,4,5,6,7,8,9,10,11,12],0),(21,[0,1,2,3,4,5,6,7,8,9,10,11,12],0),(22,[0,1,2,3,4,5,6,7,8,9,10,11,12],0),(24,[0,1,2,3,4,5,6,7,8,9,10,11,12,13,14,15,16,17],26624),(26,[0,1,2,3,4,5,6,7,8,9,10,11,12,13,14,15,16,17],26624),(28,[0,1,2,3,4,5,6,7,8,9,10,11,12,13,14,15,16,17],26624),(30,[0,1,2,3,4,5,6,7,8,9,10,11,12,13,14,15,16,17],26624)],[],[7,9,14,24,26,28,30],[]⟩) Tryz.func62 ?_;refine aX fJ h<|bV l.length (Wo W w g bs c0 c1 c2 ve G L P I F l) 0 (z0 _) ⟨rfl,I,F,z0 _,ss,by simpa using gT,cH.refl _ _,hE,λc hc=>.inl hc⟩ ?_;rintro k m _ w1 _ ⟨hu,L1,F1,_,gM,gA,gU,gN,D⟩;try replace hu:=cJ hu
 rw[hu];have hL:=gU.size;refine bM<|br (λ_=>?_) λ_=>?_
 rotate_left
 ·have hk:k=l.length:=oo;subst hk;rw[BA,eA,oJ]at gM;rw[gM];exact⟨gU,F1,gN,D⟩
 have hk:k<l.length:=oo;obtain⟨x,hx⟩:∃x,x=l[k]:=⟨_,rfl⟩;have gy:dH c n x:=by rw[hx];exact hs _ (cY hk)
 have hj:l.drop k=x :: l.drop (k+1):=by rw[hx];exact tD hk
 rw[hj,eA]at gM;rw[hj,cM]at gA;have hel:=Hw G L P x L1.length;have hM:=Aa x
 have C:∀w' F2,cH (g :: F) w w'->mJ W g bs c0 c1 c2 ve G L P (L1++rJ G L P x L1.length) F2 w'->(∀c∈F2,c∈F\/w.heap.size<=c) ->
     ∃m',m'<m/\∃k',k'+m'=l.length/\Wo W w g bs c0 c1 c2 ve G L P I F l k' [iV ((k+1:Nat):Int)] w':=λw' F2 hc hE hF=>
   ⟨m-1,oo,k+1,oo,rfl,_,F2,oo,by rw[gM,bX,fR],by rw[bX];omega,hc,hE,hF⟩
 obtain⟨_,f2,f4,_⟩:=gN.lt;have hl:=gN.old;refine bC fJ fB h hk λ_ _ gB=>?_;rw[<-hx]at gB;refine aL fB gB hl λ_ hn=>mB zX rfl fB rfl hn hl λw2 hq _ hr=>?_;have hg5:=hr.lt;have gO:=gN.ext hq;have ht:=uT hn hr rfl;have hv:cH (g :: F) w w2:=gU.trans (hq.chg _);have V:w1.heap.size∉F1:=λhm=>by have:=f2 _ hm;omega
 have Z:(x.kind=1\/x.kind=2\/x.kind=3)->BX c.gl x.term:=λ_=>by
   have h0:uD c x->BX c.gl x.term:=λq=>by
     rcases q with q|q|q|q
     ·exact q.2.2.1
     ·have:=q.1;omega
     ·have:=q.1;omega
     have:=q.1;omega
   cases n with
   |zero=>exact h0 gy.zero
   | succ n=>
     rcases gy.succ with q|⟨_,_,h3,_⟩
     ·exact h0 q
     exact h3
 have gV:∃q,(∀y∈x.body,dH c q y)/\(∀y∈x.els,dH c q y)/\PL c q x.body/\PL c q x.els:=by
   have h0:uD c x->x.body=[]/\x.els=[]:=λh=>by rcases h with q|q|q|q<;>exact⟨q.2.2.2.1,q.2.2.2.2⟩
   cases n with
   | zero=>
     obtain⟨h1,h2⟩:=h0 gy.zero;rw[h1,h2];exact⟨0,ss,ss,gb 0,gb 0⟩
   | succ n=>
     rcases gy.succ with q|⟨_,_,_,h4,h5⟩
     ·obtain⟨h1,h2⟩:=h0 q;rw[h1,h2];exact⟨0,ss,ss,gb 0,gb 0⟩
     exact⟨n,h4,h5,ih n _ rfl,ih n _ rfl⟩
 obtain⟨q,hw,hN,hy,hO⟩:=gV;refine bZ.mk rfl<|aE eW ?_;obtain⟨_,hz,hi2,hP⟩:=KB gO;refine xZ eJ hz<|aX eQ hi2<|aE vZ<|aS aG (yI (ht.at gO.old)) xx λ_=>?_;have gX:=cO w2;have hs3:(World.drew1 w2).heap.size=w2.heap.size:=rfl;have g2:=gO.ext gX;have g3:=ht.ext gX;have gj:=hv.trans (gX.chg (g :: F));refine bI<|br (λk1=>?_) λk1=>?_
 ·obtain⟨_,hQ,_,hR⟩:=KB g2;obtain⟨hS,gC⟩:=Q6 (j:=0) g2 (.inl ⟨rfl,rfl,rfl⟩);refine XR.mk (λc=>c∈F1)<|bZ.mk rfl<|sU eW<|zW eJ hQ f4<|bZ.mk rfl<|sU vU<|zW dC hS f4<|sU oB<|zW cG (Ux g3) V<|sU sS<|Ro dK rfl dD (Zc g3) V λ_ hT=>(U6 gC xx).mM λw4 gP=>?_;refine⟨gP.toX,?_⟩;have gc:=(Z (.inl k1)).2.2;refine(Vp _ hT (g2.old.trans gP) oo).mono ?_;rintro _ w5 ⟨gY,gZ⟩;have hs4:=gP.size;have hA:=gY.size;refine⟨gY.toX,?_⟩;have hpl:=JE (s:=x.name) (l:=G);have hU:=fD gC;refine lx io io gZ.toI λ_ hV=>Ih g2 hR xx hV oo oo oo λw6 F6 g4 M gh=>aU<|C w6 F6 (qR gj g4 D) ?_ λc hc=>(gh c hc).elim (D c) λh=>.inr oo;rw[wG,aP k1];exact M
 have hC:=KA G L P x.body (L1.length+1);have hD:L1++[(⟨2,0,x.term,0⟩:bH)]++eA G L P x.body (L1++[(⟨2,0,x.term,0⟩:bH)]).length=L1++(⟨2,0,x.term,0⟩:bH) :: eA G L P x.body (L1.length+1):=by simp
 refine bI<|br (λk3=>?_) λk3=>?_
 ·have gc:=(Z (.inr (.inr k3))).2.2;refine Xj g2 g3 V oo gc λw5 F5 gn gD gQ=>?_;have hA:=gn.size;have g0:∀c∈F5,c∈F\/w.heap.size<=c:=λc hc=>(gQ c hc).elim (D c) λh=>.inr oo;have gp:=qR gj gn D
  have gd:=g3.keep (gn.block _ oo λhm=>by
    rcases bF.1 hm with e|hm
    ·omega
    exact V hm)
  refine aE rZ<|rI fW (PJ gd) gD.old xx λ_ hW=>(hy gD hW hw so).mono ?_;rintro _ w6 ⟨g4,F6,M,gh⟩;have hX:=g4.size;have O:∀c∈F6,c∈F\/w.heap.size<=c:=λc hc=>(gh c hc).elim (g0 c) λh=>.inr oo;have gf:=qR gp g4 g0;rw[hD]at M;obtain⟨B,hB⟩:∃B,B=eA G L P x.body (L1.length+1):=⟨_,rfl⟩;rw[<-hB]at M hC;refine bZ.mk rfl<|aE eW ?_;obtain⟨hY,gR,hG,h6⟩:=KB M;refine xZ eJ gR<|Ya (lo:=w6.heap.size) (hi:=w6.heap.size) io io λ_ hZ=>De M hZ (lr _) so h6 λw7 F7 gz gE gS=>?_;have j0:=gz.size;have g5:=cO w7;have e7:L1++(⟨2,0,x.term,0⟩:bH) :: B++[⟨3,0,bA,(L1.length:Int)⟩]=L1++(⟨2,0,x.term,0⟩:bH) :: (B++[⟨3,0,bA,(L1.length:Int)⟩]):=by simp
  rw[e7]at gE;have g1:∀c∈F7,c∈F\/w.heap.size<=c:=λc hc=>(gS c hc).elim (O c) λh=>.inr oo;have gq:=qR gf gz O;refine Dm (gE.ext g5) rfl so λw9 F9 gr g9 gF=>aU<|C w9 F9 (qR (gq.trans (g5.chg _)) gr g1) ?_ λc hc=>g1 c (gF c hc);rw[wG,aH k1,aH oo,aH oo,aH oo,aH oo,aH oo,aP k3,<-hB]
  have:((L1++(⟨2,0,x.term,0⟩:bH) :: (B++[⟨3,0,bA,(L1.length:Int)⟩])).length:Int)=((L1.length+1+B.length+1:Nat):Int):=by
    simp only[bX,dA,eU];omega
  rw[this]at g9;exact g9
 refine bI<|br (λk2=>?_) λk2=>?_
 ·refine Xj g2 g3 V oo ((Z (.inr (.inl k2))).2.2) λw5 F5 gn gD gQ=>?_;have hA:=gn.size;have g0:∀c∈F5,c∈F\/w.heap.size<=c:=λc hc=>(gQ c hc).elim (D c) λh=>.inr oo;have gp:=qR gj gn D;have gG:w1.heap.size∉F5:=λhm=>(gQ _ hm).elim V λh=>oo
  have gd:=g3.keep (gn.block _ oo λhm=>by
    rcases bF.1 hm with e|hm
    ·omega
    exact V hm)
  refine aE rZ<|rI fW (PJ gd) gD.old xx λ_ h8=>(hy gD h8 hw so).mono ?_;rintro _ w6 ⟨g4,F6,M,gh⟩;have hX:=g4.size;have O:∀c∈F6,c∈F\/w.heap.size<=c:=λc hc=>(gh c hc).elim (g0 c) λh=>.inr oo;have gf:=qR gp g4 g0;have gH:w1.heap.size∉F6:=λhm=>(gh _ hm).elim gG λh=>oo
  have hH:=gd.keep (g4.block _ oo λhm=>by
    rcases bF.1 hm with e|hm
    ·omega
    exact gG hm)
  rw[hD]at M;obtain⟨B,hB⟩:∃B,B=eA G L P x.body (L1.length+1):=⟨_,rfl⟩;rw[<-hB]at M hC;refine aE pU<|rI fW (PN hH) M.old xx λ_ h9=>aX fJ h9<|oN<|br (λke=>?_) λke=>?_
  ·obtain⟨hY,gR,hG,h6⟩:=KB M;refine bZ.mk rfl<|aE eW<|xZ eJ gR<|aX eQ hG<|bZ.mk rfl<|aE eW<|xZ eJ gR<|TH (lo:=w6.heap.size) (hi:=w6.heap.size) io λ_ ha=>De M ha (lr _) so h6 λw7 F7 gz gE gS=>?_;have j0:=gz.size;have g5:=cO w7;have hs8:=g5.size;have e7:L1++(⟨2,0,x.term,0⟩:bH) :: B++[⟨3,0,bA,0⟩]=L1++(⟨2,0,x.term,0⟩:bH) :: (B++[⟨3,0,bA,0⟩]):=by simp
   rw[e7]at gE;have g1:∀c∈F7,c∈F\/w.heap.size<=c:=λc hc=>(gS c hc).elim (O c) λh=>.inr oo;have gq:=qR gf gz O;have hb:w1.heap.size∉F7:=λhm=>(gS _ hm).elim gH λh=>oo
   have j1:=hH.keep (gz.block _ oo λhm=>by
     rcases bF.1 hm with e|hm
     ·omega
     exact gH hm)
   refine Dm (gE.ext g5) rfl so λw9 F9 gr g9 gF=>?_;have hs9:=gr.size
   have j2:=(j1.ext g5).keep (gr.block _ oo λhm=>by
     rcases bF.1 hm with e|hm
     ·omega
     exact hb hm)
   refine aE pU<|rI fW (PN j2) g9.old xx λ_ hd=>?_;obtain⟨y0,hI⟩:∃y0:bH,y0=⟨2,0,x.term,((L1++(⟨2,0,x.term,0⟩:bH) :: (B++[⟨3,0,bA,0⟩])).length:Int)⟩:=⟨_,rfl⟩;have g9:mJ W g bs c0 c1 c2 ve G L P (L1++y0 :: (B++[⟨3,0,bA,0⟩])) F9 w9:=by rw[hI];exact g9
   refine(hO g9 hd hN so).mono ?_;rintro _ j3 ⟨he,j4,gg,hf⟩;have gI:∀c∈F9,c∈F\/w.heap.size<=c:=λc hc=>g1 c (gF c hc);have gi:∀c∈j4,c∈F\/w.heap.size<=c:=λc hc=>(hf c hc).elim (gI c) λh=>.inr oo;have gJ:=qR (qR (gq.trans (g5.chg _)) gr g1) he gI;have gK:=cO j3;have hJ:=KA G L P x.els (L1++y0 :: (B++[⟨3,0,bA,0⟩])).length;have j5:(L1++y0 :: (B++[(⟨3,0,bA,0⟩:bH)])).length=L1.length+1+B.length+1:=by simp only[bX,dA,eU];omega
   rw[j5]at gg hJ;obtain⟨E,hK⟩:∃E,E=eA G L P x.els (L1.length+1+B.length+1):=⟨_,rfl⟩;rw[<-hK]at gg hJ;have j6:L1++y0 :: (B++[(⟨3,0,bA,0⟩:bH)])++E=(L1++y0 :: B)++(⟨3,0,bA,0⟩:bH) :: E:=by simp
   rw[j6]at gg;refine Dm (gg.ext gK) ss (by simp only[bX,dA];omega) λj7 j8 hg gL hh=>aU<|C j7 j8 (qR (gJ.trans (gK.chg _)) hg gi) ?_ λc hc=>gi c (hh c hc);rw[wG,aH k1,aH oo,aH oo,aH oo,aH oo,aH oo,aH k3,aP k2,aH oo,<-hB,<-hK]
   have q1:y0=⟨2,0,x.term,((L1.length+1+B.length+1:Nat):Int)⟩:=by
     rw[hI];congr 1;simp only[bX,dA,eU];omega
   have q2:(((L1++y0 :: B)++(⟨3,0,bA,0⟩:bH) :: E).length:Int)=((L1.length+1+B.length+1+E.length:Nat):Int):=by
     simp only[bX,dA,eU];omega
   rw[q2,q1]at gL;simpa using gL
  have g5:=cO w6;refine Dm (M.ext g5) rfl so λw9 F9 gr g9 gF=>aU<|C w9 F9 (qR (gf.trans (g5.chg _)) gr O) ?_ λc hc=>O c (gF c hc);rw[wG,aH k1,aH oo,aH oo,aH oo,aH oo,aH oo,aH k3,aP k2,aP oo,<-hB]
  have:((L1++(⟨2,0,x.term,0⟩:bH) :: B).length:Int)=((L1.length+1+B.length:Nat):Int):=by
    simp only[bX,dA,eU];omega
  rw[this]at g9;exact g9
 refine bI<|br (λk4=>?_) λk4=>?_
 ·refine YY (j:=2) g2 lQ (.inr (.inr ⟨rfl,rfl,rfl⟩)) io g3 V oo λw4 F4 gs gt gx=>?_;refine aU<|C w4 F4 (qR gj gs D) ?_ λc hc=>(gx c hc).elim (D c) λh=>.inr oo;rw[wG,aH k1,aP k4];exact gt
 refine bI<|br (λk5=>?_) λk5=>?_
 ·refine YY (j:=2) g2 lQ (.inr (.inr ⟨rfl,rfl,rfl⟩)) io g3 V oo λw4 F4 gs gt gx=>?_;refine aU<|C w4 F4 (qR gj gs D) ?_ λc hc=>(gx c hc).elim (D c) λh=>.inr oo;rw[wG,aH k1,aH k4,aP k5];exact gt
 refine bI<|br (λk6=>?_) λk6=>?_
 ·refine YY (j:=1) g2 uP (.inr (.inl ⟨rfl,rfl,rfl⟩)) io g3 V oo λw4 F4 gs gt gx=>?_;refine aU<|C w4 F4 (qR gj gs D) ?_ λc hc=>(gx c hc).elim (D c) λh=>.inr oo;rw[wG,aH k1,aH k4,aH k5,aP k6];exact gt
 refine bI<|br (λk7=>?_) λk7=>?_
 ·refine YY (j:=1) g2 uP (.inr (.inl ⟨rfl,rfl,rfl⟩)) io g3 V oo λw4 F4 gs gt gx=>?_;refine aU<|C w4 F4 (qR gj gs D) ?_ λc hc=>(gx c hc).elim (D c) λh=>.inr oo;rw[wG,aH k1,aH k4,aH k5,aH k6,aP k7];exact gt
 have k8:x.kind=8:=by
   have h0:uD c x->x.kind=8:=λq=>by rcases q with q|q|q|q<;>(have:=q.1;omega)
   cases n with
   |zero=>exact h0 gy.zero
   | succ n=>
     rcases gy.succ with q|⟨q,_⟩
     ·exact h0 q
     omega
 refine bZ.mk rfl<|aE eW<|xZ eJ hz<|TH (lo:=w2.heap.size) (hi:=w2.heap.size) io λ_ j9=>De gO j9 (lr _) oo hP λw6 F6 g4 M gh=>aU<|C w6 F6 (qR hv g4 D) ?_ λc hc=>(gh c hc).elim (D c) λh=>.inr oo;rw[wG,aH k1,aH k4,aH k5,aH k6,aH k7,aP k8];exact M
def ax(c:qG)(n:Nat):PL c n []:=by
 intro _ w g _ _ _ _ _ _ _ _ _ F _ hE h _ _;refine co (g:=⟨extL,[],[(1,1809251394333065553493296640760748560207343510400633813116524750123642649824,[10])],[(7,[0,1,2,3,4,5,6,7,8,9,10,12,13,11,14,15,16,17,18,19,20],215040),(9,[0,1,2,3,4,5,6,7,8,9,10,11,12,13],1664),(12,[0,1,2,3,4,5,6,7,8,9,10,11,12],0),(14,[0,1,2,3,4,5,6,7,8,9,10,11,12,13],1664),(19,[0,1,2,3,4,5,6,7,8,9,10,11,12],0),(21,[0,1,2,3,4,5,6,7,8,9,10,11,12],0),(22,[0,1,2,3,4,5,6,7,8,9,10,11,12],0),(24,[0,1,2,3,4,5,6,7,8,9,10,11,12,13,14,15,16,17],26624),(26,[0,1,2,3,4,5,6,7,8,9,10,11,12,13,14,15,16,17],26624),(28,[0,1,2,3,4,5,6,7,8,9,10,11,12,13,14,15,16,17],26624),(30,[0,1,2,3,4,5,6,7,8,9,10,11,12,13,14,15,16,17],26624)],[],[7,9,14,24,26,28,30],[]⟩) Tryz.func62 ?_;refine aX fJ h<|bV 0 (λk us w'=>us=[iV k]/\w'=w) 0 (z0 _) ⟨rfl,rfl⟩ ?_;rintro k _ _ _ _ ⟨hu,rfl⟩;try replace hu:=cJ hu
 rw[hu];refine bM<|br (λg0=>by simp at g0;omega) (λ_=>?_);exact⟨cH.refl _ _,F,by rw[eA,oJ];exact hE,λc hc=>.inl hc⟩
theorem Zt(c:qG):∀(n:Nat)(l:List aA),PL c n l
 |0,l=>R4 (n:=0) (l:=l) (λm l h=>absurd h oo) (ax c)
 | n + 1, l => R4 (n := n + 1) (l := l) (λm l h => by
     obtain rfl:m=n:=oo;exact Zt c m l) (ax c)
theorem Z8:∀(n:Nat)(l:List aA),Mw n l
 |0,l=>C6 (n:=0) (l:=l) (λm l h=>absurd h oo)
 | n + 1, l => C6 (n := n + 1) (l := l) λm l h => by
     obtain rfl:m=n:=oo;exact Z8 m l
def Pa{p:aY}(h:Is W v p)(e:aB W w)(hn:p.P.length<=1000):aJ tp 61 [v] w λr w'=>aB w w'/\eG w.heap.size w' r (p.P.map aQ.name):=by
 refine co (g:=kf [] [(3,523816,[3,9])] []) Tryz.func61 ?_;refine iR h e λw1 g3 hA=>?_;have:=g3.size;refine aE qW<|aL qY (uV hA) xx λ_ h7=>aX pW h7 ?_
 refine bV p.P.length (λk us w'=>∃v hi,us=[v,iV k]/\k<=p.P.length/\aB w1 w'/\bQ w1.heap.size hi 9 w' v ((p.P.take k).map aQ.name)/\hi<=w'.heap.size/\w1.heap.size<=hi) 0 (z0 _)
   ⟨_,w1.heap.size,rfl,z0 _,xx,uC _ _ _ _,lr _,iD _⟩ ?_
 rintro k m _ _ _ ⟨_,hi,hu,_,g0,r3,_,_⟩;obtain⟨g5,g9⟩:=dQ hu;rw[g5,g9];refine bM<|br (λ_=>?_) λ_=>?_
 ·have hk:k<p.P.length:=oo;refine bC pW pO h7 hk λ_ _ g1=>aL pO g1 g0 λ_ gb=>mB Fc rfl pO rfl gb g0 λw4 g2 gc _=>?_;have:=g2.size;refine aE NE<|eV cG (OB gc) xx λhS=>oS (α:=ByteArray) (lo2:=w4.heap.size) (hi2:=w4.heap.size) cL cG z9 JP dD (r3.ext g2) oo (Dl hS) oo oo (by rw[eB,kL,fY];omega) (by rw[kL,fY];omega) λgd w5 g4 r5=>?_;have:=g4.size;refine aU<|⟨m-1,oo,k+1,oo,gd,w5.heap.size,rfl,oo,aB.xI xx g4 oo,?_,lr _,oo⟩;rw[tk hk,wJ];exact r5
 refine⟨xx,?_⟩;rw[iO oo]at r3;exact r3.own.own.mono oo
def sJ(g:Nat)(w:wD)(F:List Nat)(o:List ByteArray):Prop:=∃v,cA g 26 w [v]/\fL F 9 w v o/\F.Nodup/\g∉F
structure dV(g:Nat)(F:List Nat)(w:wD)(o:List ByteArray)(ok:Prop)(b:Nat)(F':List Nat)(o':List ByteArray)(w':wD):Prop where
 chg:cH (g :: F) w w'
 out:sJ g w' F' o'
 sub:∀c∈F',c∈F\/w.heap.size<=c
 iff_:o'=[]↔o=[]/\ok
 len:o'.length<=o.length+b
section
variable {g:Nat}{F F1 F2:List Nat}{w w1 w2:wD}{o o1 o2:List ByteArray}{ok ok':Prop}{b b':Nat}
def sJ.lt(h:sJ g w F o):g<w.heap.size/\∀c∈F,c<w.heap.size:=by
 obtain⟨_,hB,hr,_,_⟩:=h;exact⟨hB.lt,dU.lt (.inr hr)⟩
def sJ.ext(h:sJ g w F o)(hx:aB w w1):sJ g w1 F o:=by
 obtain⟨v,hB,hr,hn,hg⟩:=h;exact⟨v,hB.ext hx,hr.ext hx,hn,hg⟩
def dV.refl(h:sJ g w F o):dV g F w o True 0 F o w:=⟨cH.refl _ _,h,λc hc=>.inl hc,ss,iD _⟩
def dV.trans(h:dV g F w o ok b F1 o1 w1)(k:dV g F1 w1 o1 ok' b' F2 o2 w2):dV g F w o (ok/\ok') (b+b') F2 o2 w2:=
 ⟨⟨k.chg.os.trans h.chg.os,k.chg.tape.trans h.chg.tape,k.chg.output.trans h.chg.output,eH h.chg.size k.chg.size,λc hc hn=>(k.chg.block c (kP hc h.chg.size) λhm=>by
   simp only[bF,not_or]at hn hm;rcases hm with e|hm
   ·exact hn.1 e
   ·rcases h.sub c hm with h|h
    ·exact hn.2 h
    omega).trans (h.chg.block c hc hn)⟩,
   k.out,λc hc=>(k.sub c hc).elim (h.sub c) λhh=>.inr (eH h.chg.size hh),by rw[k.iff_,h.iff_,and_assoc],by have:=h.len;have:=k.len;omega⟩
def dV.ext(h:dV g F w o ok b F1 o1 w1)(hx:aB w1 w2):dV g F w o ok b F1 o1 w2:=⟨h.chg.trans (hx.chg _),h.out.ext hx,h.sub,h.iff_,h.len⟩
def dV.extL(hx:aB w w1)(h:dV g F w1 o1 ok b F2 o2 w2):dV g F w o1 ok b F2 o2 w2:=⟨(hx.chg _).trans h.chg,h.out,λc hc=>(h.sub c hc).imp id λhh=>eH hx.size hh,h.iff_,h.len⟩
def dV.more(h:dV g F w o ok b F1 o1 w1)(hb:b<=b')(hk:ok↔ok'):dV g F w o ok' b' F1 o1 w1:=⟨h.chg,h.out,h.sub,by rw[h.iff_,hk],by have:=h.len;omega⟩
def dV.keep(h:dV g F w o ok b F1 o1 w1){c:Nat}(hc:c<w.heap.size)(hg:c≠g)(hn:c∉F):w1.heap[c]?=w.heap[c]?:=h.chg.block c hc (by simp only[bF,not_or];exact⟨hg,hn⟩)
def dV.old{W:wD}(h:dV g F w o ok b F1 o1 w1)(e:aB W w)(hg:W.heap.size<=g)(hF:∀ c∈F,W.heap.size<=c):aB W w1:=e.chg_trans h.chg λc hc=>by
 rcases bF.1 hc with rfl|hc
 ·exact hg
 exact hF c hc
def dV.low{n:Nat}(h:dV g F w o ok b F1 o1 w1)(hF:∀ c∈F,n<=c)(hw:n<=w.heap.size):∀c∈F1,n<=c:=λc hc=>(h.sub c hc).elim (hF c) λhh=>eH hw hh
end
def Ps{l o:List ByteArray}(h:Is W vl l)(e:aB W w)(hO:sJ g w F o)(hs:s.size<=maxLen)(ho:o.length<=1000000) :
   aJ tp 133 [vl,.string s,pT g 0] w λr w'=>r=.tuple #[]/\∃F' o',dV g F w o (s∈l) 1 F' o' w':=by
 refine co (g:=kf [] [] []) Tryz.func133 ?_;refine(LY h e).mM λ_ g0=>mL ?_;have hR:=(dV.refl hO).ext g0;refine br (λhm=>?_) (λhm=>⟨rfl,F,o,hR.more oo (by simp only[eK]at hm;simp[hm])⟩);obtain⟨_,hB,hr,hn,hg⟩:=hO.ext g0;refine cX dC hB rfl<|(Zp hr hn hs ho).mono ?_;rintro v2 _ ⟨g3,F2,g1,gb,g4⟩;have hg1:=hB.lt;have g5:g∉F2:=λhm=>(g4 g hm).elim hg λh=>oo;refine qL (α:=dM) (lo:=0) (hi:=0) dC rfl rfl (hB.chg g3 hg) ss (yG (dU.one (.inr g1))) λ_ g9 gd=>?_;refine⟨rfl,F2,yX o s,(hR.chg.trans (g3.mono sd)).trans (g9.toC.mono ss),⟨v2,gd,?_,gb,g5⟩,λc hc=>(g4 c hc).imp id λh=>eH g0.size h,?_,Q7 o s⟩
 ·exact g1.keep λc hc=>g9.block c ((dU.lt (.inr g1)) c hc) (by have:c≠g:=λe=>g5 (e▸hc);omega)
 have:yX o s≠[]:=by
   unfold yX;split
   ·rename_i hm2;intro h0;rw[h0]at hm2;cases hm2
   simp
 exact⟨λh=>absurd h this,λh=>absurd h.2 hm⟩
def I2:kO tp 26=some [.slice none 0 0]:=by kernel_rfl
def X0:xT tp 133=true:=by kernel_rfl
def qw:xT tp 136=true:=by kernel_rfl
def US:cT tp 179=some (1,8,false):=by kernel_rfl
def di:kO tp 179=some [.nilFunc]:=by kernel_rfl
structure Kp(w5:wD)(g:Nat)(F:List Nat)(w:wD):Prop where
 size:w5.heap.size<=w.heap.size
 keep:∀c,c<w5.heap.size->c≠g->w.heap[c]?=w5.heap[c]?
 low:∀c∈F,w5.heap.size<=c
def Kp.ext(h:Kp w5 g F w)(hx:aB w w'):Kp w5 g F w':=⟨eH h.size hx.size,λc hc hg=>(hx.heap (kP hc h.size)).trans (h.keep c hc hg),h.low⟩
def Kp.unk{o o':List ByteArray}{ok:Prop}(h:Kp w5 g F w)(k:dV g F w o ok b F' o' w'):Kp w5 g F' w':=
 ⟨eH h.size k.chg.size,λc hc hg=>(k.keep (kP hc h.size) hg λhm=>by have:=h.low c hm;omega).trans (h.keep c hc hg),k.low h.low h.size⟩
def Kp.blk{g e a:Nat}(h:Kp w5 g F w)(hB:cA a e w5 cs)(ha:a≠g):cA a e w cs:=hB.keep (h.keep a hB.lt ha)
structure ER(p:aY)(w5:wD)(g gp gn gl:Nat):Prop where
 prg:iS w5 w5 gp 0 p
 names:∃vn FN,cA gn 26 w5 [vn]/\aZ FN w5 vn (p.P.map aQ.name)/\g∉FN
 look:cA gl 179 w5 [.func (.func 133) #[] #[pT g 0]]
 ne:gp≠g/\gn≠g/\gl≠g
 lt:g<w5.heap.size
 hp:∃Fp cs,rep Fp w5 cs p/\w5.rangeAt gp 0 cs/\g∉Fp
def ER.p{p:aY}(h:ER p w5 g gp gn gl)(k:Kp w5 g F w):At w gp 0 p:=by
 obtain⟨Fp,cs,hr,hc,hg⟩:=h.hp;refine⟨Fp,cs,Rep.keep hr λc hm=>k.keep c ((Rep.lt hr) c hm) (λe=>hg (e▸hm)),yT hc (k.keep gp ?_ h.ne.1)⟩;exact JG hc (by rw[Rep.len hr];decide)
def rc{x:aA}{p:aY}{o:List ByteArray}(h:Is W v x)(e:aB W w)(hW:W.heap.size<=g)(hE:ER p w5 g gp gn gl)(hK:Kp w5 g F w)(hO:sJ g w F o)(hx:SH n x)(ho:o.length<=900000) :
   aJ tp 136 [v,pT gl 0,pT gp 0,pT gn 0] w λr w'=>r=.bool true/\∃F' o',dV g F w o (RK (xH p) x/\II (xH p) x) 65 F' o' w':=by
 refine co (g:=kf [(10,34359738112,[])] [(11,562400197607552,[39])] []) Tryz.func136 ?_;obtain⟨gs,g4⟩:=hO.lt;refine lA fB rfl h e λw1 g2 hA hV=>?_;have gt:=hV.lt;have gx:=uT h hV rfl;have g0:w.heap.size≠g/\w.heap.size∉F:=⟨oo,λhm=>by have:=g4 _ hm;omega⟩;have e1:=e.trans g2;have g3:dV g F w1 o True 0 F o w1:=dV.refl (hO.ext g2);have D:=hK.ext g2;have gy:∀c∈F,W.heap.size<=c:=λc hc=>by have:=hK.low c hc;have:=hE.lt;omega
 have C:∀{w2 W2:wD}{vl:vL}{l:List ByteArray}{s:ByteArray}{ok:Prop}{b:Nat}{F2:List Nat}{o2:List ByteArray}{K:VW},dV g F w1 o ok b F2 o2 w2->b<=65->Is W2 vl l->aB W2 w2->s.size<=maxLen ->
     (∀r w3 F3 o3,dV g F w1 o (ok/\s∈l) (b+1) F3 o3 w3->K r w3)->AR tp (LK (.func (.func 133) #[] #[pT g 0]) [vl,.string s]) w2 K:=by
   intro w2 W2 vl l s ok b F2 o2 K hU _ hl hx gz hk;refine PI (args:=[vl,.string s]) (caps:=[pT g 0]) X0 ((Ps hl hx hU.out gz (by have:=hU.len;omega)).mono ?_);rintro r w3 ⟨-,F3,o3,h3⟩;exact hk r w3 F3 o3 (hU.trans h3)
 refine dJ.mk (λus w'=>∃F2 o2,dV g F w1 o (RK (xH p) x) 1 F2 o2 w') ?_ ?_
 ·have hP:=hE.p D;refine aE vZ<|aS aG (yI hA) xx λ_=>bI<|br (λk1=>?_) λk1=>?_
  ·refine cX US (D.blk hE.look hE.ne.2.2) rfl ?_;refine aE BY<|aL dC (GF hP) xx λv14 g5=>aE oB<|eV cG (qF hA) xx λhS=>C g3 oo g5 xx hS λr w3 F3 o3 h3=>⟨F3,o3,h3.more oo ⟨λq=>⟨λ_=>q.2,λ_=>oo,λ_=>oo⟩,λq=>⟨trivial,q.k1 k1⟩⟩⟩
  refine bI<|TD (Q:=x.kind=6\/x.kind=7) .inl (λhQ=>?_) λgA _=>?_
  ·refine cX US (D.blk hE.look hE.ne.2.2) rfl ?_;refine aE EY<|aL dC (IN hP) xx λv14 g5=>aE oB<|eV cG (qF hA) xx λhS=>C g3 oo g5 xx hS λr w3 F3 o3 h3=>⟨F3,o3,h3.more oo ⟨λq=>⟨λ_=>oo,λ_=>q.2,λ_=>oo⟩,λq=>⟨trivial,q.k6 hQ⟩⟩⟩
  refine bI<|br (λh7=>gA (.inr h7)) λh7=>?_;refine bI<|TD (Q:=x.kind=4\/x.kind=5) .inl (λhQ=>?_) λg9 _=>?_
  ·refine cX US (D.blk hE.look hE.ne.2.2) rfl ?_;obtain⟨_,_,gB,gd,gC⟩:=hE.names;refine cX dC (D.blk gB hE.ne.2.1) rfl<|aE oB<|eV cG (qF hA) xx λhS=>C g3 oo (gd.keep λc hc=>D.keep c (gd.lt c hc) λe=>gC (e▸hc)).is xx hS λr w3 F3 o3 h3=>⟨F3,o3,h3.more oo ⟨λq=>⟨λ_=>oo,λ_=>oo,λ_=>q.2⟩,λq=>⟨trivial,q.k4 hQ⟩⟩⟩
  refine bI<|br (λh5=>g9 (.inr h5)) λh5=>⟨F,o,g3.more oo ⟨λq=>⟨λ_=>oo,λ_=>oo,λ_=>oo⟩,λq=>trivial⟩⟩
 rintro _ w2 ⟨F2,o2,M⟩;have gD:=D.unk M;have e2:=M.old e1 hW gy;refine aE sS<|aL dK (wV ((gx.keep (M.keep gt g0.1 g0.2)).at e2)) xx λ_ gF=>(Z6 gF xx).mono ?_;rintro gG w3 ⟨gf,_,M37,gg⟩;have hln:=s7 x.term;have gh:=M.len;have g1:=M.out.lt;refine aX cL M37.is ?_;have gi:=M.ext gf;have gH:=gD.ext gf;have gI:dV g F2 w3 o2 True 0 F2 o2 w3:=dV.refl gi.out;refine bV (mN x.term).length (λk us w'=>us=[iV k]/\k<=(mN x.term).length/\∃F3 o3,dV g F2 w3 o2 (∀s∈(mN x.term).take k,s∈p.B) k F3 o3 w') 0 (z0 _) ⟨rfl,z0 _,F2,o2,gI.more oo ss⟩ ?_;rintro k m _ w4 _ ⟨hu,_,F4,o4,O⟩;try replace hu:=cJ hu
 rw[hu];refine bM<|br (λgs=>?_) (λ_=>⟨rfl,F4,o4,?_⟩)
 rotate_left
 ·have:=(dV.extL g2 gi).trans O;rw[iO oo]at this;exact this.more oo Iff.rfl
 have gj:k<(mN x.term).length:=oo;have gq:=gH.unk O;have gr:=O.len;have gb:Is w4 gG (mN x.term):=(M37.keep λc hc=>O.keep (M37.lt c hc) (by have:=gg c hc;omega) λhm=>by have:=gg c hc;have:=g1.2 c hm;omega).is;refine bC cL cG gb gj λ_ _ gc=>eV cG gc xx λhS=>cX US (gq.blk hE.look hE.ne.2.2) rfl<|aE BY<|aL dC (GF (hE.p gq)) xx λgJ gK=>PI (args:=[gJ,.string _]) (caps:=[pT g 0]) X0 ((Ps gK xx O.out hS oo).mono ?_);rintro r _ ⟨-,F5,o5,gL⟩;refine aU<|⟨m-1,oo,k+1,oo,rfl,oo,F5,o5,(O.trans gL).more oo ?_⟩;rw[tk gj];simp only[dF,oY];exact⟨λhh s hs=>hs.elim (hh.1 s) λe=>e▸hh.2,λhh=>⟨λs hs=>hh s (.inl hs),hh _ (.inr rfl)⟩⟩
def XV(p:aY)(w5:wD)(g gp gn gl n:Nat)(l:List aA):Prop:=∀{w W:wD}{v:vL}{F:List Nat}{o:List ByteArray},Is W v l->aB W w->W.heap.size<=g->ER p w5 g gp gn gl->Kp w5 g F w->sJ g w F o->(∀x∈l,SH n x)->o.length+66*cM l<=800000 ->
 aJ tp 135 [v,.func (.func 136) #[] #[pT gl 0,pT gp 0,pT gn 0]] w λr w'=>r=.bool true/\∃F' o',dV g F w o (∀x∈l,dH (xH p) n x) (66*cM l) F' o' w'
def ue{p:aY}:XV p w5 g gp gn gl n []:=by
 intro w _ _ F o h _ _ _ _ hO _ _;refine co (g:=kf [] [(2,4294966864,[9])] []) Tryz.func135 ?_;refine aX fJ h<|bV 0 (λk us w'=>us=[iV k]/\w'=w/\k<=0) 0 (z0 _) ⟨rfl,rfl,vS _⟩ ?_;rintro k _ _ _ _ ⟨g0,rfl,_⟩;try replace g0:=cJ g0
 rw[g0];refine bM<|br (λg1=>by simp at g1;omega) (λ_=>⟨rfl,F,o,(dV.refl hO).more oo ss⟩)
def Vo{p:aY}{l:List aA}(ih:∀ m l,m+1=n->XV p w5 g gp gn gl m l):XV p w5 g gp gn gl n l:=by
 intro w W _ F o h e hW hE hK hO hs _;have:=fD h;refine co (g:=kf [] [(2,4294966864,[9])] []) Tryz.func135 ?_;refine aX fJ h ?_;have gh:∀c∈F,W.heap.size<=c:=λc hc=>by have:=hK.low c hc;have:=hE.lt;omega
 refine bV l.length (λk us w'=>us=[iV k]/\k<=l.length/\∃F1 o1 b,dV g F w o (∀x∈l.take k,dH (xH p) n x) b F1 o1 w'/\b+66*cM (l.drop k)<=66*cM l) 0 (z0 _) ⟨rfl,z0 _,F,o,0,(dV.refl hO).more (lr _) ss,ss⟩ ?_;rintro k m _ w1 _ ⟨g5,_,F1,o1,b,C,_⟩;try replace g5:=cJ g5
 rw[g5];refine bM<|br (λ_=>?_) (λ_=>⟨rfl,F1,o1,?_⟩)
 rotate_left
 ·rw[iO oo]at C;exact C.more oo Iff.rfl
 have hk:k<l.length:=oo;obtain⟨x,hx⟩:∃x,x=l[k]:=⟨_,rfl⟩;have g9:SH n x:=by rw[hx];exact hs _ (cY hk)
 obtain⟨gs,gt,gi,-,-⟩:=g9.kids;have:cM (l.drop k)=fU x+cM (l.drop (k+1)):=by rw[tD hk,cM,hx]
 have:fU x=1+cM x.body+cM x.els:=by cases x;rw[fU];rfl
 have:=C.len
 have gj:∀y:List aA,(0<n\/y=[])->XV p w5 g gp gn gl (n-1) y:=λy hy=>by
   rcases hy with hy|hy
   ·exact ih (n-1) y oo
   rw[hy];exact ue
 have e1:=C.old e hW gh;have gx:=hK.unk C;obtain⟨_,gy⟩:=C.out.lt;refine bC fJ fB h hk λ_ _ g0=>?_;rw[<-hx]at g0;refine aL fB g0 e1 λgz gb=>mB zX rfl fB rfl gb e1 λw2 g3 _ gc=>?_;have gq:=gc.lt;have gr:=uT gb gc rfl;have g4:w1.heap.size≠g/\w1.heap.size∉F1:=⟨oo,λhm=>by have:=gy _ hm;omega⟩;have gA:dV g F1 w2 o1 True 0 F1 o1 w2:=dV.refl (C.out.ext g3);have gd:=gx.ext g3;have e2:=e1.trans g3;have g1:∀c∈F1,W.heap.size<=c:=C.low gh e.size;refine pX gc xx<|PI (args:=[gz]) (caps:=[_,_,_]) qw ((rc gb e2 hW hE gd gA.out g9 oo).mono ?_);rintro _ _ ⟨rfl,_,_,D⟩;refine dG<|bW (λhc=>by simp at hc) λ_=>?_;have e3:=D.old e2 hW g1;have:=D.len;refine aE rZ<|rI fW (PJ (gr.keep (D.keep gq g4.1 g4.2))) e3 xx λ_ gB=>(gj x.body (gi.imp id λh=>h.1) gB e3 hW hE (gd.unk D) D.out gs oo).mono ?_;rintro _ _ ⟨rfl,_,_,gf⟩;have M:=D.trans gf;have e4:=M.old e2 hW g1;have:=M.len;refine dG<|bW (λhc=>by simp at hc) λ_=>?_;refine aE pU<|rI fW (PN (gr.keep (M.keep gq g4.1 g4.2))) e4 xx λ_ gC=>(gj x.els (gi.imp id λh=>h.2) gC e4 hW hE (gd.unk M) M.out gt oo).mono ?_;rintro _ _ ⟨rfl,F5,o5,gg⟩;refine dG<|bW (λhc=>by simp at hc) λ_=>?_;refine aU<|⟨m-1,oo,k+1,oo,rfl,oo,F5,o5,_,(C.trans (dV.extL g3 (M.trans gg))).more (lr _) ?_,oo⟩;rw[tk hk];simp only[dF,oY,<-hx];have g2:=We (c:=xH p) g9;constructor
 ·rintro⟨q1,⟨⟨q2,q3⟩,q4⟩,q5⟩ y hy;rcases hy with hy|rfl
  ·exact q1 y hy
  exact g2.2 ⟨q2,q3,q4,q5⟩
 intro q;obtain⟨q2,q3,q4,q5⟩:=g2.1 (q x (.inr rfl));exact⟨λy hy=>q y (.inl hy),⟨⟨q2,q3⟩,q4⟩,q5⟩
theorem bt{p:aY}{w5:wD}{g gp gn gl:Nat}:∀(n:Nat)(l:List aA),XV p w5 g gp gn gl n l
 |0,l=>Vo (n:=0) (l:=l) (λm l h=>absurd h oo)
 | n + 1, l => Vo (n := n + 1) (l := l) λm l h => by
     obtain rfl:m=n:=oo;exact bt m l
def ko{p:aY}(h:Is W v p)(e:aB W w)(hp:vD p):aJ tp 65 [v] w λr w'=>aB w w'/\∃o:List ByteArray,Is w' r o/\(o=[]↔RI p):=by
 obtain⟨_,_⟩:=hp.n;refine co (g:=kf [] [(5,8372352,[14])] []) Tryz.func65 ?_;refine lA kT rfl h e λw1 g9 hA gb=>?_;have:=gb.lt;have gc:=uT h gb rfl;have e1:=e.trans g9;refine rK I2 λ_ g1 gd=>?_;have:=gd.lt;refine aL kT hA g1 λ_ h8=>(Pa h8 g1 oo).mono ?_;rintro v9 w3 ⟨g2,o9⟩;have:=g2.size;obtain⟨F9,M9,B9⟩:=o9;have g3:v9.oneCell'=true:=TC (lo:=0) (hi:=w3.heap.size) rfl ⟨F9,M9,λb hb=>⟨vS _,M9.lt b hb⟩⟩;refine JQ I2 dC g3 λw4 g4 gf=>?_;have:=gf.lt;refine dY (v:=.func (.func 133) #[] #[pT w1.heap.size 0]) (λw' _=>by simp[Instr.makeFunc])<|JQ di US rfl λw5 M gl=>?_;have:=M.size;have C:=g1.t (g2.t (g4.t M));have e5:=e1.trans C
 have hE:ER p w5 w1.heap.size w.heap.size w3.heap.size w4.heap.size:=by
   obtain⟨Fp,cs,hr,hc⟩:=gc.ext C;have gg:=Rep.lt hr;have:=e.size;exact⟨⟨Fp,cs,rH hr e5,hc⟩,⟨v9,F9,gf.ext M,M9.ext xx,λhm=>by have:=B9 _ hm;omega⟩,gl,⟨oo,oo,oo⟩,oo,Fp,cs,rH hr e5,hc,λhm=>by have:=gg _ hm;omega⟩
 have gn:sJ w1.heap.size w5 [] []:=⟨_,gd.ext xx,V2 _ _,kM,ss⟩;have gp:Kp w5 w1.heap.size [] w5:=⟨iD _,λ_ _ _=>rfl,ss⟩;refine aE qW ?_;refine rI qY (Xl (gc.ext C)) e5 xx λ_ gh=>aX pW gh ?_;have gi:W.heap.size<=w1.heap.size:=by have:=e.size;omega
 refine bV p.P.length (λk us w'=>us=[iV k]/\k<=p.P.length/\∃F6 o6,dV w1.heap.size [] w5 [] (∀x∈p.P.take k,∀y∈x.body,dH (xH p) 6 y) (4000*k) F6 o6 w') 0 (z0 _) ⟨rfl,z0 _,[],[],(dV.refl gn).more oo ss⟩ ?_;rintro k m _ _ _ ⟨hu,_,F6,o6,D⟩;try replace hu:=cJ hu
 rw[hu];have e6:=D.old e5 gi ss;refine bM<|br (λgg=>?_) λ_=>?_
 ·have hk:k<p.P.length:=oo;refine bC pW pO gh hk λ_ _ g5=>aL pO g5 e6 λ_ gj=>mB Fc rfl pO rfl gj e6 λ_ O _ gr=>aE OZ<|rI fW (zh (uT gj gr rfl)) (e6.trans O) xx λ_ gs=>dY (v:=.func (.func 136) #[] #[pT w4.heap.size 0,pT w.heap.size 0,pT w3.heap.size 0]) (λw' _=>by simp[Instr.makeFunc]) ?_;have hb:=hp.b _ (cY hk);have g0:=D.len;refine(bt 6 _ gs (e6.trans O) gi hE ((gp.unk D).ext O) (D.out.ext O) hb.1 (by simp at g0;have:=hb.2;omega)).mono ?_;rintro _ _ ⟨rfl,F8,o8,gt⟩;refine aU<|⟨m-1,oo,k+1,oo,rfl,oo,F8,o8,(D.trans (dV.extL O gt)).more (by have:=hb.2;omega) ?_⟩;rw[tk hk];simp only[dF,oY];exact⟨λhh x hx=>hx.elim (hh.1 x) λe=>e▸hh.2,λhh=>⟨λx hx=>hh x (.inl hx),hh _ (.inr rfl)⟩⟩
 obtain⟨_,gx,gy,-,-⟩:=D.out;refine cX dC gx rfl<|⟨(g9.t C).chg_trans D.chg (λ_ hc=>by simp only[oY]at hc;omega),o6,gy.own.is,?_⟩;rw[D.iff_,iO oo];exact⟨λh=>h.2,λh=>⟨rfl,h⟩⟩
def nz{p:aY}(h:Is W v p)(e:aB W w)(hp:vD p):aJ tp 63 [v] w λr w'=>aB w w'/\r=.bool true:=by
 obtain⟨_,f2⟩:=hp.n;refine co (g:=kf [] [(4,1099478073396,[25])] []) Tryz.func63 ?_;refine iR h e λw1 gc hA=>aE BY<|aL dC (GF hA) xx λ_ h7=>(UW h7 xx).mM λ_ g3=>dG<|bW (λhc=>by rw[hp.gok]at hc;cases hc) (λ_=>?_);refine aE EY<|aL dC (IN hA) g3 λ_ gd=>(UW gd g3).mM λ_ gf=>dG<|bW (λhc=>by rw[hp.lok]at hc;cases hc) (λ_=>?_);have C:=g3.t gf;refine aE qW<|aL qY (uV hA) C λ_ gg=>aX pW gg<|oN<|br (λhc=>oo) λ_=>?_;refine aE qW<|aL qY (uV hA) C λ_ g5=>aX pW g5<|bV p.P.length (λk us w'=>us=[iV k]/\aB w1 w'/\k<=p.P.length) 0 (z0 _) ⟨rfl,C,vS _⟩ ?_;rintro k m u _ _ ⟨hu,D,_⟩;try replace hu:=cJ hu
 rw[hu];refine bM<|br (λ_=>?_) (λ_=>⟨xx,rfl⟩);have hk:k<p.P.length:=oo;have g0:p.P[k]∈p.P:=cY hk;refine bC pW pO g5 hk λ_ _ g4=>aL pO g4 D λ_ gh=>mB Fc rfl pO rfl gh D λ_ g9 gb _=>?_;have:=D.size;have:=g9.size;refine JQ (u:=iV 60) ur aG rfl λw6 g1 gi=>aE NE<|eV cG (OB gb) g1 λ_=>(cI (w:=w6)).mM λ_ g2=>dG<|bW (λhc=>by rw[f2 _ (sT.2 ⟨_,g0,rfl⟩)]at hc;cases hc) (λ_=>?_);refine aE OZ<|aL fW (UH gb) xx λ_ gj=>?_;have hb:=hp.b _ g0;refine(Z8 6 _ (r:=60) gj xx hb.1 oo oo (gi.ext g2) (lr _) (by have:=hb.2;omega) oo).mono ?_;rintro _ _ ⟨gl,rfl,-⟩;refine dG<|bW (λhc=>by cases hc) λ_=>?_;refine aU<|⟨m-1,oo,k+1,oo,rfl,((D.t g9).trans xx).xI gl oo,oo⟩
def Pf{p:aY}(h:Is W v p)(e:aB W w)(hp:vD p):aJ tp 24 [v] w λr w'=>aB w w'/\r=iV (qN p):=by
 obtain⟨_,_⟩:=hp.n;refine co (g:=kf [] [] []) Tryz.func24 ?_;refine iR h e λw1 g1 hA=>aL kT hA xx λ_ h4=>(nz h4 xx hp).mM λ_ g2=>dG<|bW (λhc=>by cases hc) λ_=>?_;refine aL kT hA g2 λ_ h7=>(Pa h7 g2 oo).mono ?_;rintro _ _ ⟨gg,o8⟩;have M:=g2.t gg;have g3:∀{w':wD},aB w1 w'->(¬p.B.Nodup\/¬p.L.Nodup\/¬(p.P.map aQ.name).Nodup)->aB w w'/\Value.int .i64 2=iV (qN p):=λhx hq=>⟨xx,by unfold qN;rw[aP hq]⟩;refine aE BY<|aL dC (GF hA) M λ_ gh=>(TW gh M).mM λ_ g4=>?_;have C:=M.t g4;refine br (λhq=>g3 C (.inl hq)) λc1=>?_;refine aE EY<|aL dC (IN hA) C λ_ gi=>(TW gi C).mM λ_ g5=>?_;have g0:=C.t g5;refine br (λhq=>g3 g0 (.inr (.inl hq))) λc2=>(TW o8.is xx).mM λ_ gb=>?_;have D:=g0.t gb;refine br (λhq=>g3 D (.inr (.inr hq))) λc3=>?_;have g9:¬(¬p.B.Nodup\/¬p.L.Nodup\/¬(p.P.map aQ.name).Nodup):=by simp only[not_or];exact⟨c1,c2,c3⟩
 refine aL kT hA D λ_ gj=>(ko gj D hp).mono ?_;rintro _ _ ⟨gc,_,gl,ho⟩;have O:=D.t gc;refine aX cL gl<|oN<|br (λhc=>⟨xx,?_⟩) λhc=>?_
 ·unfold qN;rw[aH g9,aP λhk=>by rw[ho.2 hk]at hc;simp at hc]
 have gd:RI p:=ho.1 (qC oo);refine(LY o8.is xx).mM λ_ gf=>mL<|br (λhc=>⟨xx,?_⟩) (λhc=>⟨xx,?_⟩)
 ·unfold qN;rw[aH g9,aH (by simp only[IG];exact gd),aP (show uR∉p.P.map aQ.name from hc)]
 unfold qN;rw[aH g9,aH (by simp only[IG];exact gd),aH (show ¬uR∉p.P.map aQ.name from hc)]
def Wf{l:List ByteArray}(h:Is W v l)(e:aB W w)(hn:l.length<=1000000) :
   aJ tp 60 [v] w λr w'=>aB w w'/\aK w.heap.size w'.heap.size w' r l:=by
 refine co (g:=kf [] [] []) Tryz.func60 ?_;obtain⟨_,_,_,_,rfl,_,_,_,h4⟩:=xD h;refine Ri cL<|bW (λg0=>?_) λ_=>?_
 ·have:l=[]:=by
    rcases h4 with h4|⟨_,_,rfl,_⟩
    ·exact h4
    simp at g0
  subst this;exact⟨xx,(XO rfl).toI⟩
 refine pR (α:=ByteArray) cL cG λ_ _ g1 _=>Gv (α:=ByteArray) cL cG JP h (e.trans g1) (by rw[eB];omega) oo λ_ _ g2 g3=>⟨xx,g3.own.mono g1.size (lr _)⟩
def wk{x:aQ}(h:iS W w b 0 x):iS W w b (0+1) x.body:=by
 obtain⟨F,cs,hr,hc⟩:=h;have h:iS W w b 0 (x.name,x.body):=⟨F,cs,hr,hc⟩;exact h.snd
def zBf{t by_ b:Nat}(ht:cT P t=some (cs.length,by_,true))(hr:w.rangeAt b 0 cs)(k:K (.agg cs.toArray)):RD P (Instr.loadAt t (pT b 0)) w K:=by
 obtain⟨_,d,hi,hd,hs,_,hg⟩:=xO ht;exact dY (λw' g0=>run_loadAt_mid w' b 0 t cs d (yV hr g0) hd hg (by simp[hi,hs])) k
def oq(p:aY)(g1:Nat)(w0:wD):iE:=λi u T w=>match i with
 |0=>u 11=pT g1 (0+0)
 |1=>Is w0 (u 12) p.B
 |2=>aK (T 2).1 (T 2).2 w (u 13) p.B
 |3=>u 14=pT g1 (0+1)
 |4=>Is w0 (u 15) p.L
 |5=>aK (T 5).1 (T 5).2 w (u 16) p.L
 |6=>Is w0 (u 17) p
 |7=>aK (T 7).1 (T 7).2 w (u 18) (p.P.map aQ.name)
 |8=>u 19=.agg #[u 13,u 16,u 18,.slice none 0 0,.slice none 0 0]
 |9=>∃g,u 4=pT g 0/\(T 9).1<=g/\g<(T 9).2/\cA g 34 w [.slice none 0 0,.slice none 0 0,.slice none 0 0,.slice none 0 0,.slice none 0 0]
 |_=>True
section
variable {W w w':wD}{g bs:Nat}{c0 c1 c2 ve:vL}{G L P:List ByteArray}{I:List bH}{F F':List Nat}
def mJ.turnV{ve':vL}{I':List bH}{rv:vL}(h:mJ W g bs c0 c1 c2 ve G L P I F w)(hc:cH (g :: F) w w')(hO:nL F' w' g 0 (⟨⟨c0⟩,⟨c1⟩,⟨c2⟩,⟨ve'⟩,⟨rv,I'⟩⟩:sP))(hF:∀ c∈F',c∈F\/w.heap.size<=c):mJ W g bs c0 c1 c2 ve' G L P I' F' w':=by
 have hb:=h.Wb;have h1:=h.gW;have h2:=h.gb;refine⟨⟨rv,hO⟩,h.nm.keep λb _ g0 g1=>hc.block b g1 λhm=>?_,h.old.chgL hc λc C=>?_,h1,h2,eH hb hc.size,λc C=>(hF c C).elim (h.Fb c) λh=>oo⟩
 ·rcases bF.1 hm with e|hm
  ·exact g0 e
  have:=h.Fb b hm;omega
 rcases bF.1 C with rfl|C
 ·exact h1
 have:=h.Fb c C;omega
def mJ.away{S:List Nat}(h:mJ W g bs c0 c1 c2 ve G L P I F w)(hc:cH S w w')(hS:∀ c∈S,bs<=c/\c∉F):mJ W g bs c0 c1 c2 ve G L P I F w':=by
 obtain⟨rv,hO⟩:=h.oat;have:=h.lt;have h1:=h.gW;have h2:=h.gb;have hb:=h.Wb;refine⟨⟨rv,hO.keep λc C=>hc.block c (hO.lts c C) λhm=>?_⟩,h.nm.keep λb _ _ g0=>hc.block b g0 λhm=>?_,h.old.chgL hc λc C=>?_,h1,h2,eH hb hc.size,h.Fb⟩
 ·rcases bF.1 C with rfl|C
  ·have:=(hS _ hm).1;omega
  exact(hS c hm).2 C
 ·have:=(hS b hm).1;omega
 have:=(hS c C).1;omega
def nt{w2:wD}{u:vL}{x:bH}{lo hi:Nat}{K:wD->Prop}(h:mJ W g bs c0 c1 c2 ve G L P I F w2)(o:aK lo hi w2 u x)(hlo:w2.heap.size<=lo)
   (hI:I.length<=1000000) {rv:vL} (hO:nL F w2 g 0 (⟨⟨c0⟩,⟨c1⟩,⟨c2⟩,⟨ve⟩,⟨rv,I⟩⟩:sP)) (k:∀w4 F4,cH (g :: F) w2 w4->mJ W g bs c0 c1 c2 ve G L P (I++[x]) F4 w4->(∀c∈F4,c∈F\/w2.heap.size<=c)->K w4) :
   OP tp (Instr.buildSlice 32 1 #[(0,u)]) w2 λx49 w=>OP tp (Builtin.append_ #[32,32] 32 [rv,x49].toArray) w λx50 w'=>
     RD tp (Instr.fieldAt 34 (pT g 0) 4) w' λx52=>fA tp (Instr.storeAt 32 x52 x50) w' λw=>K w:=
 OP.mono (De h o hlo hI hO k) λ_ _ h=>OP.mono h λ_ _ ⟨_,h⟩=>h
def lm{E:List Int}{Fe:List Nat}{K:wD->Prop}(h:mJ W g bs c0 c1 c2 ve G L P I F w)(he:dU Fe 3 w ve E)(hn:Fe.Nodup)(hd:∀ c∈Fe,bs<=c/\c∉F)(hI:I.length<=1000000)(hE:E.length<=1000000)
   (k:∀ve' w' Fe' F',cH (g :: (F++Fe)) w w'->mJ W g bs c0 c1 c2 ve' G L P I F' w'->dU Fe' 3 w' ve' (E++[(I.length:Int)])->Fe'.Nodup->(∀c∈Fe',bs<=c/\c∉F')->(∀c∈Fe',c∈Fe\/w.heap.size<=c)->(∀c∈F',c∈F)->K w') :
   RD tp (Instr.fieldAt 34 (pT g 0) 3) w λx27=>RD tp (Instr.loadAt 31 x27) w λx28=>RD tp (Instr.fieldAt 34 (pT g 0) 4) w λx29=>
     RD tp (Instr.loadAt 32 x29) w λx30=>RD tp (Builtin.len_ #[32] 3 [x30].toArray) w λx31=>OP tp (Instr.buildSlice 31 1 #[(0,x31)]) w λx32 w=>
     OP tp (Builtin.append_ #[31,31] 31 [x28,x32].toArray) w λx33 w=>RD tp (Instr.fieldAt 34 (pT g 0) 3) w λx34=>fA tp (Instr.storeAt 31 x34 x33) w λw=>K w:=by
 obtain⟨_,e2,_,_⟩:=h.lt;have:=h.gb;have:=h.Wb;obtain⟨_,hr,hi,hO⟩:=KB h
 have gg:w.rangeAt g (0+3) [ve]:=by
   obtain⟨_,hL⟩:=Wi (bT.var hO);obtain⟨_,⟨_,rfl,_⟩,hr,_⟩:=hL.here;exact hr
 refine aE kJ<|xZ dT gg<|aE eW<|xZ eJ hr<|aX eQ hi<|CT (β:=Int) (G:=Fe) (x:=(I.length:Int)) bG aG z3 wQ dD he hn (xN io) ss (by rw[eB];omega) oo (λw4 g1 _ Fe' g2 g9 g3 gh gc=>?_) λ_ w4 g2 h=>h;have h5:=(h.ext g2).away g9 hd;obtain⟨_,gi⟩:=h5.oat;obtain⟨_,gj⟩:=Wi (bT.var gi)
 have g0:∀c∈Fe',bs<=c/\c∉F:=λc hc=>by
   rcases gc c hc with h|h|h
   ·exact hd c h
   ·simp at h
   exact⟨oo,λhm=>by have:=e2 c hm;omega⟩
 refine aE kJ<|WX (β:=dM) (G':=[]) dT gj (y':=⟨g1⟩) ⟨⟨[g1],⟨rfl,rfl,g3.one⟩,rfl⟩,kM,Wr.nil _⟩ ss λw6 g4 ⟨F',gd,gl⟩=>?_;have g5:g∉F':=by obtain⟨_,_,_,_,_,hn,_⟩:=gd;exact hn
 have hF:∀c∈F',c∈F:=λc gf=>by
   rcases gl c gf with h|h
   ·rcases bF.1 h with rfl|h
    ·exact absurd gf g5
    exact h
   simp at h
 have h6:=h5.turnV g4 gd λc hc=>.inl (hF c hc);refine k g1 w6 Fe' F' ((((g2.chg Fe).trans g9).mono λc hc=>by simp[hc]).trans (g4.mono λc hc=>by rcases bF.1 hc with rfl|hc<;>simp[*])) h6 (g3.keep λc hc=>g4.block c (g3.lt c hc) λhm=>?_) gh (λc hc=>⟨(g0 c hc).1,λhm=>(g0 c hc).2 (hF c hm)⟩) (λc hc=>?_) hF
 ·rcases bF.1 hm with rfl|hm
  ·have:=(g0 c hc).1;omega
  exact(g0 c hc).2 hm
 rcases gc c hc with h|h|h
 ·exact .inl h
 ·simp at h
 exact .inr h
end
structure KE(W:wD)(p:aY)(g bs x2 l0 h0 l1 h1 l2 h2:Nat)(c0 c1 c2 ve:vL)(E:List Int)(I:List bH)(Fe F:List Nat)(w:wD):Prop where
 co:mJ W g bs c0 c1 c2 ve p.B p.L (p.P.map aQ.name) I F w
 e:dU Fe 3 w ve E
 en:Fe.Nodup
 de:∀c∈Fe,bs<=c/\c∉F
 o0:aK l0 h0 w c0 p.B
 o1:aK l1 h1 w c1 p.L
 o2:aK l2 h2 w c2 (p.P.map aQ.name)
 x:cA x2 34 w [.slice none 0 0,.slice none 0 0,.slice none 0 0,.slice none 0 0,.slice none 0 0]
section
variable {W:wD}{p:aY}{g bs x2 l0 h0 l1 h1 l2 h2:Nat}{c0 c1 c2 ve:vL}{E:List Int}{I:List bH}{Fe F:List Nat}{w w':wD}
def KE.ext(h:KE W p g bs x2 l0 h0 l1 h1 l2 h2 c0 c1 c2 ve E I Fe F w)(hx:aB w w'):KE W p g bs x2 l0 h0 l1 h1 l2 h2 c0 c1 c2 ve E I Fe F w':=
 ⟨h.co.ext hx,h.e.keep λc hc=>hx.heap (h.e.lt c hc),h.en,h.de,h.o0.ext hx,h.o1.ext hx,h.o2.ext hx,h.x.ext hx⟩
def KE.go{ve':vL}{E':List Int}{I':List bH}{Fe' F':List Nat}{S:List Nat}(h:KE W p g bs x2 l0 h0 l1 h1 l2 h2 c0 c1 c2 ve E I Fe F w)(ho:h0<=bs/\h1<=bs/\h2<=bs/\(g<l0\/h0<=g)/\(g<l1\/h1<=g)/\(g<l2\/h2<=g)/\x2<bs/\x2≠g)
   (hc:cH (g :: S) w w') (hS:∀c∈S,bs<=c) (hE:mJ W g bs c0 c1 c2 ve' p.B p.L (p.P.map aQ.name) I' F' w') (he:dU Fe' 3 w' ve' E') (hn:Fe'.Nodup) (hd:∀c∈Fe',bs<=c/\c∉F'):KE W p g bs x2 l0 h0 l1 h1 l2 h2 c0 c1 c2 ve' E' I' Fe' F' w':=by
 have g0:∀c∈g :: S,c=g\/bs<=c:=λc hc=>by
   rcases bF.1 hc with e|hc
   ·exact .inl e
   exact .inr (hS c hc)
 exact⟨hE,he,hn,hd,JM h.o0 hc λc C=>by have:=g0 c C;omega,JM h.o1 hc λc C=>by have:=g0 c C;omega,JM h.o2 hc λc C=>by have:=g0 c C;omega,h.x.chg hc λhm=>by have:=g0 _ hm;omega⟩
end
def fm{p:aY}(h:Is W v p)(e:aB W w)(hp:iT p) :
   aJ tp 23 [v] w λr w'=>aB w w'/\∃a,r=.tuple #[a,.bool true]/\aK w.heap.size w'.heap.size w' a (kD p):=by
 have hcl:=(Jc hp).2;obtain⟨_,_,_,_⟩:=hp.n;refine co (g:=⟨extL,[],[(5,35184363700288,[23])],[],[(3,1046544,10)],[],[]⟩) Tryz.func23 ?_;refine iR h e λw1 hs hA=>?_;have hs1:=hs.size;refine rK LD λ_ gK ht=>?_;have hg2:=ht.lt;refine aL kT hA gK λ_ h7=>(Pf h7 gK hp.sh).mM λw3 gL=>?_;rw[Fw hp];have hs3:=gL.size;refine fP<|br (λhc=>absurd rfl hc) λ_=>?_;have gM:=gK.t gL;have gN:=cO w3;have hs4:=gN.size;generalize World.drew1 w3=w4 at *;have M:=gM.t gN
 have hv:w.heap.size<w1.heap.size:=by
   obtain⟨F,cs,hr,hY⟩:=hA;exact JG hY (by rw[Rep.len hr];decide)
 refine VF.mk (oq p w.heap.size w4) ?_ ?_ ?_
 ·intro i u u' T T' _ wb _ gF hd hq
  match i,hd,hq with
  |0,hd,hq=>exact(hd (0,11) dD).1.trans hq
  |1,hd,hq=>have:=(hd (1,12) dD).1;show Is _ (u' 12) _;simp only[this];exact hq
  | 2,hd,hq=>
    obtain⟨e1,e2⟩:=hd (2,13) dD;simp only at e1 e2;show aK (T' 2).1 (T' 2).2 wb (u' 13) p.B;rw[e1,e2];exact aK.ext hq gF
  |3,hd,hq=>exact(hd (3,14) dD).1.trans hq
  |4,hd,hq=>have:=(hd (4,15) dD).1;show Is _ (u' 15) _;simp only[this];exact hq
  | 5,hd,hq=>
    obtain⟨e1,e2⟩:=hd (5,16) dD;simp only at e1 e2;show aK (T' 5).1 (T' 5).2 wb (u' 16) p.L;rw[e1,e2];exact aK.ext hq gF
  |6,hd,hq=>have:=(hd (6,17) dD).1;show Is _ (u' 17) _;simp only[this];exact hq
  | 7,hd,hq=>
    obtain⟨e1,e2⟩:=hd (7,18) dD;simp only at e1 e2;show aK (T' 7).1 (T' 7).2 wb (u' 18) (p.P.map aQ.name);rw[e1,e2];exact aK.ext hq gF
  | 8,hd,hq=>
    have e1:=(hd (8,19) dD).1;have e2:=(hd (2,13) dD).1;have e3:=(hd (5,16) dD).1;have e4:=(hd (7,18) dD).1;simp only at e1 e2 e3 e4;show u' 19=.agg #[u' 13,u' 16,u' 18,.slice none 0 0,.slice none 0 0];rw[e1,e2,e3,e4];exact hq
  | 9,hd,⟨g,q1,q2,q3,q4⟩=>
    obtain⟨e1,e2⟩:=hd (9,4) dD;simp only at e1 e2;exact⟨g,e1.trans q1,by rw[e2];exact q2,by rw[e2];exact q3,q4.ext gF⟩
  |n+10,_,_=>trivial
 ·have gO:p.B.length<=1000000:=by have:=hp.g.1;omega
  have gP:p.L.length<=1000000:=by have:=hp.l.1;omega
  refine⟨λu T w' hx _ _=>?_,λu T w' hx _ O=>?_,λu T w' hx _ O=>?_,λu T w' hx _ _=>?_,λu T w' hx _ O=>?_,λu T w' hx _ O=>?_,λu T w' hx _ _=>?_,λu T w' hx _ O=>?_,λu T w' hx _ O=>?_,λu T w' hx _ _=>?_,trivial⟩
  ·exact aE BY ⟨xx,rfl⟩
  ·have q0:u 11=_:=O.1;rw[q0];exact aL dC (GF hA) xx λv6 h6=>⟨xx,h6.ext M⟩
  ·have q1:Is _ (u 12) p.B:=O.1;exact(Wf q1 hx gO).mono λr w5 ⟨g3,o5⟩=>⟨g3,o5⟩
  ·exact aE EY ⟨xx,rfl⟩
  ·have q0:u 14=_:=O.1;rw[q0];exact aL dC (IN hA) xx λv6 h6=>⟨xx,h6.ext M⟩
  ·have q1:Is _ (u 15) p.L:=O.1;exact(Wf q1 hx gP).mono λr w5 ⟨g3,o5⟩=>⟨g3,o5⟩
  ·exact aL kT hA xx λv6 h6=>⟨xx,h6.ext M⟩
  ·have q1:Is _ (u 17) p:=O.1;exact(Pa q1 hx oo).mono λr w5 ⟨g3,o5⟩=>⟨g3,o5.toI⟩
  ·have o1:aK _ _ _ (u 13) p.B:=O.1;have o2:aK _ _ _ (u 16) p.L:=O.2.1;have o3:aK _ _ _ (u 18) (p.P.map aQ.name):=O.2.2.1;obtain⟨a,n,cap,q1⟩:=UB o1;obtain⟨a',n',gQ,hw⟩:=UB o2;obtain⟨a2,n2,gR,q2⟩:=UB o3;rw[q1,hw,q2];refine fI (cells:=#[.slice a n cap,.slice a' n' gQ,.slice a2 n2 gR,.slice none 0 0,.slice none 0 0]) kK ⟨xx,?_⟩;show _=Value.agg #[u 13,u 16,u 18,.slice none 0 0,.slice none 0 0];rw[q1,hw,q2];rfl
  exact rK LD λw5 g3 hB=>⟨g3,w'.heap.size,rfl,lr _,hB.lt,hB⟩
 rintro u T w5 g3 g0 ⟨-,-,gt,-,-,gx,-,gy,gG,⟨gk,q4,gS,gT,hy⟩,-⟩;have gt:aK (T 2).1 (T 2).2 w5 (u 13) p.B:=gt;have gx:aK (T 5).1 (T 5).2 w5 (u 16) p.L:=gx;have gy:aK (T 7).1 (T 7).2 w5 (u 18) (p.P.map aQ.name):=gy;have gG:u 19=.agg #[u 13,u 16,u 18,.slice none 0 0,.slice none 0 0]:=gG;have t2:=g0.1 2 dD;have t5:=g0.1 5 dD;have t7:=g0.1 7 dD;have t9:=g0.1 9 dD;have gU:=g0.2 2 dD 5 dD dD;have gV:=g0.2 2 dD 7 dD dD;have gW:=g0.2 5 dD 7 dD dD;have hz:=g0.2 2 dD 9 dD dD;have hC:=g0.2 5 dD 9 dD dD;have hD:=g0.2 7 dD 9 dD dD;obtain⟨l0,hH⟩:∃x,(T 2).1=x:=⟨_,rfl⟩;obtain⟨h0,hI⟩:∃x,(T 2).2=x:=⟨_,rfl⟩;obtain⟨l1,hJ⟩:∃x,(T 5).1=x:=⟨_,rfl⟩;obtain⟨h1,hK⟩:∃x,(T 5).2=x:=⟨_,rfl⟩;obtain⟨l2,hL⟩:∃x,(T 7).1=x:=⟨_,rfl⟩;obtain⟨h2,hN⟩:∃x,(T 7).2=x:=⟨_,rfl⟩;rw[hH,hI]at gt t2 gU gV hz;rw[hJ,hK]at gx t5 gU gW hC;rw[hL,hN]at gy t7 gV gW hD;generalize u 13=c0 at *;generalize u 16=c1 at *;generalize u 18=c2 at *;rw[gG,q4];have gc:=TC rfl gt;have gd:=TC rfl gx;have gf:=TC rfl gy;refine tA (α:=EX) (x:=(⟨c0⟩,⟨c1⟩,⟨c2⟩,⟨.slice none 0 0⟩,⟨.slice none 0 0⟩)) (lo:=0) (hi:=0) cP rfl hy rfl (Eg gc gd gf rfl rfl) λw6 gr hO=>?_;have hs6:=gr.size;have gz:aB w1 w6:=aB.xI xx gr oo;have o0:=gt.chg gr oo;have o1:=gx.chg gr oo;have o2:=gy.chg gr oo;have gg:h0<=w6.heap.size/\h1<=w6.heap.size/\h2<=w6.heap.size/\(gk<l0\/h0<=gk)/\(gk<l1\/h1<=gk)/\(gk<l2\/h2<=gk)/\w1.heap.size<w6.heap.size/\w1.heap.size≠gk:=oo;have hZ:w1.heap.size<l0/\w1.heap.size<l1/\w1.heap.size<l2/\w.heap.size<=l0/\w.heap.size<=l1/\w.heap.size<=l2/\(h0<=l1\/h1<=l0)/\(h0<=l2\/h2<=l0)/\(h1<=l2\/h2<=l1):=oo
 have j0:mJ w1 gk w6.heap.size c0 c1 c2 (.slice none 0 0) p.B p.L (p.P.map aQ.name) [] [] w6:=by
   refine⟨⟨.slice none 0 0,[c0,c1,c2,.slice none 0 0,.slice none 0 0],?_,hO.range,kM,Wr.nil _,ss,_,_,hO⟩,⟨?_,?_,?_⟩,gz,oo,oo,lr _,ss⟩
   ·have r:∀{v:vL},v.oneCell'=true->rep [] w6 [v] (⟨v⟩:dM):=λh=>⟨rfl,rfl,h⟩;exact oO (F:=[]) (r gc) (oO (F:=[]) (r gd) (oO (F:=[]) (r gf) (oO (F:=[]) (r rfl) (show rep [] w6 [Value.slice none 0 0] (⟨.slice none 0 0,[]⟩:kB)from⟨rfl,.inl ⟨none,rfl,rfl,rfl⟩⟩))))
   ·obtain⟨F,hM,hF⟩:=o0;exact⟨F,hM,λb hb=>by have:=hF b hb;omega⟩
   ·obtain⟨F,hM,hF⟩:=o1;exact⟨F,hM,λb hb=>by have:=hF b hb;omega⟩
   obtain⟨F,hM,hF⟩:=o2;exact⟨F,hM,λb hb=>by have:=hF b hb;omega⟩
 have j1:KE w1 p gk w6.heap.size w1.heap.size l0 h0 l1 h1 l2 h2 c0 c1 c2 (.slice none 0 0) [] [] [] [] w6:=
   ⟨j0,.inl ⟨none,rfl,rfl,rfl⟩,kM,ss,o0,o1,o2,(((ht.ext gL).ext gN).ext g3).xI gr oo⟩
 refine aE qW<|aL qY (uV hA) gz λ_ hP=>aX pW hP ?_;have j2:w1.heap.size<=gk:=oo;have hww:w.heap.size<=w1.heap.size:=oo;clear hy gS gT gU gV gW hz hC hD t2 t5 t7 t9 hH hI hJ hK hL hN g0 gG q4;generalize hbs:w6.heap.size=bs at *;obtain⟨G,hG⟩:∃G,G=p.B:=⟨_,rfl⟩;obtain⟨Lk,gH⟩:∃G,G=p.L:=⟨_,rfl⟩;obtain⟨Pn,gI⟩:∃G,G=p.P.map aQ.name:=⟨_,rfl⟩;have hQ:kD p=⟨G,Lk,Pn,tL G Lk Pn p.P 0,qJ G Lk Pn p.P 0⟩:=by rw[hG,gH,gI];rfl
 refine bV p.P.length (λk us w'=>us=[iV k]/\∃ve E I Fe F,k<=p.P.length/\E.length=k/\KE w1 p gk bs w1.heap.size l0 h0 l1 h1 l2 h2 c0 c1 c2 ve E I Fe F w' /\
     tL G Lk Pn p.P 0=E++tL G Lk Pn (p.P.drop k) I.length/\qJ G Lk Pn p.P 0=I++qJ G Lk Pn (p.P.drop k) I.length) 0 (z0 _)
     ⟨rfl,_,[],[],[],[],z0 _,rfl,j1,ss,ss⟩ ?_
 rintro k m _ w8 _ ⟨hu,ve,E,I,Fe,F,_,j3,C,g4,gA⟩;try replace hu:=cJ hu
 rw[hu];have gh:=C.co.old;have hb8:=C.co.Wb;refine bM ?_
 have hLl:I.length<=968:=by
   have h1:=cS List.length gA;have h2:(kD p).I.length=(qJ G Lk Pn p.P 0).length:=by rw[hQ]
   rw[bX]at h1;omega
 refine br (λ_=>?_) λ_=>?_
 ·have hk:k<p.P.length:=oo;have g1:=hp.b _ (cY hk);rw[A6 hk]at g4;rw[B6 hk]at gA;refine bC pW pO hP hk λ_ _ gX=>aL pO gX gh λ_ hR=>mB Fc rfl pO rfl hR gh λ_ j4 _ hS=>?_;have hg9:=hS.lt;have j5:=uT hR hS rfl;have gi:=C.ext j4;have j6:=C.co.lt.1;have gY:∀c∈F,c<w8.heap.size:=C.co.lt.2.1;have gZ:∀c∈Fe,c<w8.heap.size:=λc hc=>C.e.lt c hc;refine lm gi.co gi.e gi.en gi.de oo oo λ_ gJ Fe' _ D g2 gj gl V _ _=>?_;have h4:=D.size
  have h5:=gi.go gg D (λc hc=>by
    rcases dF.1 hc with h|h
    ·exact gi.co.Fb c h
    exact(gi.de c h).1) g2 gj gl V
  have gn:=j5.keep (D.block _ oo λhm=>by
    rcases bF.1 hm with e|hm
    ·omega
    rcases dF.1 hm with h|h
    ·have:=gY _ h;omega
    have:=gZ _ h;omega)
  refine aE OZ<|rI fW (wk gn) g2.old xx λ_ j7=>?_;have hbl:=KA G Lk Pn (p.P[k]).body I.length;refine(Zt _ 6 _ g2 j7 g1.1 (by have:=g1.2;omega)).mono ?_;rintro _ hT ⟨gp,j8,g5,h8⟩;have j9:=gp.size;have g9:∀c∈Fe',c<gJ.heap.size:=λc hc=>gj.lt c hc;have gq:∀c∈Fe',bs<=c/\c∉j8:=λc hc=>⟨(V c hc).1,λhm=>(h8 c hm).elim (V c hc).2 λh=>by have:=g9 c hc;omega⟩;have hU:gk∉Fe':=λhm=>by have:=(V _ hm).1;have:=g2.gb;omega
  have gB:=gj.keep λc hc=>gp.block c (g9 c hc) λhm=>by
    rcases bF.1 hm with rfl|hm
    ·exact hU hc
    exact(V c hc).2 hm
  have h9:=h5.go gg gp (λc hc=>g2.Fb c hc) g5 gB gl gq;obtain⟨_,he,_,hf⟩:=KB g5;refine aE eW<|xZ eJ he<|TH (lo:=hT.heap.size) (hi:=hT.heap.size) io λ_ ja=>?_
  have jb:(I++eA p.B p.L (p.P.map aQ.name) p.P[k].body I.length).length<=1000000:=by
    rw[<-hG,<-gH,<-gI,bX];have:=g1.2;omega
  refine nt g5 ja (lr _) jb hf λ_ jc gC hg hh=>?_
  have hj:=gB.keep λc hc=>gC.block c (by have:=g9 c hc;omega) λhm=>by
    rcases bF.1 hm with rfl|hm
    ·exact hU hc
    exact(gq c hc).2 hm
  have hl:∀c∈Fe',bs<=c/\c∉jc:=λc hc=>⟨(V c hc).1,λhm=>(hh c hm).elim (gq c hc).2 λh=>by have:=g9 c hc;omega⟩;have gD:=h9.go gg gC (λc hc=>g5.Fb c hc) hg hj gl hl;rw[<-hG,<-gH,<-gI]at gD;refine aU<|⟨m-1,oo,k+1,oo,rfl,_,_,_,_,_,oo,by simp[j3],gD,?_,?_⟩
  ·rw[g4];simp[DU]
  rw[gA];simp[DU,KG]
 have hk:k=p.P.length:=oo;subst hk;rw[BA,tL,oJ]at g4;rw[BA,qJ,oJ]at gA;obtain⟨rv,_,_,hV⟩:=KB C.co;obtain⟨Gi,hW⟩:=UI (bT.var hV);obtain⟨_,⟨rfl,Z⟩,_,hX,_,hv,_⟩:=hW.here;have Z:dU Gi 69 w8 rv I:=Z
 have gs:∀c∈Gi,c∈F:=λc hc=>by
   rcases bF.1 (hW.sub c (by simp[hc]))with e|h
   ·exact absurd (e▸hc) hv
   exact h
 have hn:w8.rangeAt gk 0 [c0,c1,c2,ve,rv]:=by
   obtain⟨cs,hr,ha,_⟩:=hV;obtain⟨F0,_,F1,_,F2,_,_,_,_,_,rfl,rfl,⟨_,rfl,_⟩,⟨_,rfl,_⟩,⟨_,rfl,_⟩,⟨_,rfl,_⟩,⟨rfl,_⟩⟩:=qj hr;exact ha
 refine zBf (cs:=[c0,c1,c2,ve,rv]) cP hn<|tA (α:=EX) (x:=(⟨c0⟩,⟨c1⟩,⟨c2⟩,⟨ve⟩,⟨rv⟩)) (lo:=0) (hi:=0) cP rfl C.x rfl (Eg gc gd gf C.e.one Z.one) λgJ D gn=>?_;have h4:=D.size;refine AX gn cP ?_;have jd:aB w gJ:=aB.xI xx D oo;refine⟨jd,_,rfl,?_⟩;obtain⟨F0,M0,B0⟩:=C.o0.chg D oo;obtain⟨F1,M1,B1⟩:=C.o1.chg D oo;obtain⟨F2,M2,B2⟩:=C.o2.chg D oo;have keep:∀c,bs<=c->c<w8.heap.size->gJ.heap[c]?=w8.heap[c]?:=λc h1 h2=>D.block c oo oo;have gE:=C.co.Fb;have Me:=UR (C.e.keep λc hc=>keep c (C.de c hc).1 (C.e.lt c hc)) C.en;have Mi:=UR (Z.keep λc hc=>keep c (gE c (gs c hc)) (Z.lt c hc)) hX;rw[hQ,g4,gA,hG,gH,gI];refine⟨F0++(F1++(F2++(Fe++Gi))),⟨⟨[c0,c1,c2,ve,rv],oO (AJ rfl M0.own) (oO (AJ rfl M1.own) (oO (AJ rfl M2.own) (oO (AJ rfl Me.own) (AJ rfl Mi.own)))),rfl⟩,?_,M0.wr.append (M1.wr.append (M2.wr.append (Me.wr.append Mi.wr)))⟩,λc hc=>?_⟩
 ·simp only[oE,dF];refine⟨M0.nodup,⟨M1.nodup,⟨M2.nodup,⟨C.en,hX,λa ha b hb e=>?_⟩,λa ha b hb e=>?_⟩,λa ha b hb e=>?_⟩,λa ha b hb e=>?_⟩
  ·exact(C.de a ha).2 (gs a (e▸hb))
  ·subst e;have:=B2 a ha;rcases hb with h|h
   ·have:=(C.de a h).1;omega
   have:=gE a (gs a h);omega
  ·subst e;have:=B1 a ha;rcases hb with h|h|h
   ·have:=B2 a h;omega
   ·have:=(C.de a h).1;omega
   have:=gE a (gs a h);omega
  subst e;have:=B0 a ha;rcases hb with h|h|h|h
  ·have:=B1 a h;omega
  ·have:=B2 a h;omega
  ·have:=(C.de a h).1;omega
  have:=gE a (gs a h);omega
 simp only[dF]at hc;rcases hc with h|h|h|h|h
 ·have:=B0 c h;omega
 ·have:=B1 c h;omega
 ·have:=B2 c h;omega
 ·have:=(C.de c h).1;have:=C.e.lt c h;omega
 have:=gE c (gs c h);have:=Z.lt c h;omega
def qi{p:aY}(h:Is W v p)(e:aB W w)(hp:iT p) :
   aJ tp 9 [v] w λr w'=>aB w w'/\∃a,r=.tuple #[a,.bool true]/\aK w.heap.size w'.heap.size w' a (kD p):=by
 have hcl:=(Jc hp).2;obtain⟨_,_,_,_⟩:=hp.n;refine co (g:=⟨extL,[],[(6,4611686018418999360,[6])],[(8,[0,1,2,3,4,5,6,7,8,9,10,11],256),(9,[0,1,2,3,4,5,6,7,8,9,10],128)],[(3,1046544,10)],[],[]⟩) Tryz.func9 ?_;refine iR h e λw1 hM hA=>?_;have hs1:=hM.size;refine rK LD λ_ gP hN=>?_;have hg2:=hN.lt;refine aL kT hA gP λ_ h7=>(zrT h7 gP hp.sh).mM λw3 gQ=>?_;rw[Fw hp];have hs3:=gQ.size;refine fP<|br (λhc=>absurd rfl hc) λ_=>?_;have g3:=gP.t gQ;have gR:=cO w3;have hs4:=gR.size;generalize World.drew1 w3=w4 at *;have Z:=g3.t gR
 have hO:w.heap.size<w1.heap.size:=by
   obtain⟨F,_,hr,hZ⟩:=hA;exact JG hZ (by rw[Rep.len hr];decide)
 refine VF.mk (cdQ p w.heap.size w4) ?_ ?_ ?_
 ·intro i u u' T T' _ wb _ gS hd hq
  match i,hd,hq with
  |0,hd,⟨a,hq⟩=>exact⟨a,(hd (0,11) dD).1.trans hq⟩
  |1,hd,hq=>exact(hd (1,12) dD).1.trans hq
  |2,hd,hq=>have:=(hd (2,13) dD).1;show Is _ (u' 13) _;simp only[this];exact hq
  | 3,hd,hq=>
    obtain⟨e1,e2⟩:=hd (3,14) dD;simp only at e1 e2;show aK (T' 3).1 (T' 3).2 wb (u' 14) p.B;rw[e1,e2];exact aK.ext hq gS
  |4,hd,⟨a,hq⟩=>exact⟨a,(hd (4,15) dD).1.trans hq⟩
  |5,hd,hq=>exact(hd (5,16) dD).1.trans hq
  |6,hd,hq=>have:=(hd (6,17) dD).1;show Is _ (u' 17) _;simp only[this];exact hq
  | 7,hd,hq=>
    obtain⟨e1,e2⟩:=hd (7,18) dD;simp only at e1 e2;show aK (T' 7).1 (T' 7).2 wb (u' 18) p.L;rw[e1,e2];exact aK.ext hq gS
  | 8,hd,hq=>
    have e1:=(hd (8,19) dD).1;have e2:=(hd (3,14) dD).1;have e3:=(hd (7,18) dD).1;simp only at e1 e2 e3;show u' 19=.agg #[u' 14,u' 18,.slice none 0 0,.slice none 0 0,.slice none 0 0];rw[e1,e2,e3];exact hq
  | 9,hd,⟨g,q1,q2,q3,q4⟩=>
    obtain⟨e1,e2⟩:=hd (9,4) dD;simp only at e1 e2;exact⟨g,e1.trans q1,by rw[e2];exact q2,by rw[e2];exact q3,q4.ext gS⟩
  |n+10,_,_=>trivial
 ·refine⟨λu T w' hx _ _=>?_,λu T w' hx _ _=>?_,λu T w' hx _ O=>?_,λu T w' hx _ O=>?_,λu T w' hx _ _=>?_,λu T w' hx _ _=>?_,λu T w' hx _ O=>?_,λu T w' hx _ O=>?_,λu T w' hx _ O=>?_,λu T w' hx _ _=>?_,trivial⟩
  ·exact pR (α:=ByteArray) cL cG λa w5 V _=>⟨V,a,rfl⟩
  ·exact aE BY ⟨xx,rfl⟩
  ·have q0:u 12=_:=O.1;rw[q0];exact aL dC (GF hA) xx λv6 h6=>⟨xx,h6.ext Z⟩
  ·obtain⟨a,q0⟩:∃a,u 11=.slice (some a) 0 0:=O.1;have q1:Is _ (u 13) p.B:=O.2.1;rw[q0];exact Gv (α:=ByteArray) cL cG JP q1 hx (by have:=hp.g.1;rw[eB];omega) (by have:=hp.g.1;omega) λv5 w5 V r5=>⟨V,r5.own⟩
  ·exact pR (α:=ByteArray) cL cG λa w5 V _=>⟨V,a,rfl⟩
  ·exact aE EY ⟨xx,rfl⟩
  ·have q0:u 16=_:=O.1;rw[q0];exact aL dC (IN hA) xx λv6 h6=>⟨xx,h6.ext Z⟩
  ·obtain⟨a,q0⟩:∃a,u 15=.slice (some a) 0 0:=O.1;have q1:Is _ (u 17) p.L:=O.2.1;rw[q0];exact Gv (α:=ByteArray) cL cG JP q1 hx (by have:=hp.l.1;rw[eB];omega) (by have:=hp.l.1;omega) λv5 w5 V r5=>⟨V,r5.own⟩
  ·have o1:aK _ _ _ (u 14) p.B:=O.1;have o2:aK _ _ _ (u 18) p.L:=O.2.1;obtain⟨a,n,cap,q1⟩:=UB o1;obtain⟨a',n',gT,hP⟩:=UB o2;rw[q1,hP];refine fI (cells:=#[.slice a n cap,.slice a' n' gT,.slice none 0 0,.slice none 0 0,.slice none 0 0]) kK ⟨xx,?_⟩;show _=Value.agg #[u 14,u 18,.slice none 0 0,.slice none 0 0,.slice none 0 0];rw[q1,hP];rfl
  exact rK LD λw5 V hB=>⟨V,w'.heap.size,rfl,lr _,hB.lt,hB⟩
 rintro u T w5 V gr ⟨-,-,-,gy,-,-,-,gz,gU,⟨gk,q4,_,_,j0⟩,-⟩;have gy:aK (T 3).1 (T 3).2 w5 (u 14) p.B:=gy;have gz:aK (T 7).1 (T 7).2 w5 (u 18) p.L:=gz;have gU:u 19=.agg #[u 14,u 18,.slice none 0 0,.slice none 0 0,.slice none 0 0]:=gU;have t3:=gr.1 3 dD;have t7:=gr.1 7 dD;have t9:=gr.1 9 dD;have hQ:=gr.2 3 dD 7 dD dD;have j1:=gr.2 3 dD 9 dD dD;have j2:=gr.2 7 dD 9 dD dD;obtain⟨l3,j3⟩:∃x,(T 3).1=x:=⟨_,rfl⟩;obtain⟨h3,j4⟩:∃x,(T 3).2=x:=⟨_,rfl⟩;obtain⟨l7,j5⟩:∃x,(T 7).1=x:=⟨_,rfl⟩;obtain⟨h7,j6⟩:∃x,(T 7).2=x:=⟨_,rfl⟩;rw[j3,j4]at gy t3 hQ j1;rw[j5,j6]at gz t7 hQ j2;generalize u 14=v14 at *;generalize u 18=v18 at *;rw[gU,q4];have gb:=TC rfl gy;have gc:=TC rfl gz;refine tA (α:=EX) (x:=(⟨v14⟩,⟨v18⟩,⟨.slice none 0 0⟩,⟨.slice none 0 0⟩,⟨.slice none 0 0⟩)) (lo:=0) (hi:=0) cP rfl j0 rfl (Eg gb gc rfl rfl rfl) λw6 gA j7=>?_;have hs6:=gA.size;have gB:aB w1 w6:=aB.xI xx gA oo;refine aL kT hA gB λ_ hR=>?_;obtain⟨c0,c1,c2,rfl,gV,gW,gX⟩:=zA7 hR;refine fI (cells:=#[c0,c1,c2,.slice none 0 0]) kK<|VO λw7 gC gY=>?_;have hg7:=gY.lt
 have j8:rG w1 w6.heap.size p [] [] w7:=by
   refine⟨c0,c1,c2,.slice none 0 0,hR,⟨[c0,c1,c2,.slice none 0 0],?_,gY.range,kM,Wr.nil _,ss,_,_,gY⟩,xx,oo,ss⟩;have r:∀{v:vL},v.oneCell'=true->rep [] w7 [v] (⟨v⟩:dM):=λh=>⟨rfl,rfl,h⟩;exact oO (F:=[]) (r gV) (oO (F:=[]) (r gW) (oO (F:=[]) (r gX) (show rep [] w7 [Value.slice none 0 0] (⟨.slice none 0 0,[]⟩:kB)from⟨rfl,.inl ⟨none,rfl,rfl,rfl⟩⟩)))
 have g4:gk<w7.heap.size/\w6.heap.size<w7.heap.size/\gk≠w6.heap.size/\w1.heap.size<w7.heap.size/\w1.heap.size≠gk/\w1.heap.size≠w6.heap.size/\h3<=w7.heap.size/\h7<=w7.heap.size/\(gk<l3\/h3<=gk)/\(gk<l7\/h7<=gk) /\
     (w6.heap.size<l3\/h3<=w6.heap.size)/\(w6.heap.size<l7\/h7<=w6.heap.size)/\w1.heap.size<=gk/\w1.heap.size<=w6.heap.size:=oo
 have j9:AW w1 p gk w6.heap.size w7.heap.size w1.heap.size l3 h3 l7 h7 v14 v18 (.slice none 0 0) (.slice none 0 0) [] [] [] [] [] [] w7:=
   ⟨j7.ext gC,(gy.chg gA oo).ext gC,(gz.chg gA oo).ext gC,.inl ⟨none,rfl,rfl,rfl⟩,.inl ⟨none,rfl,rfl,rfl⟩,kM,kM,j8,((((hN.ext gQ).ext gR).ext V).xI gA oo).ext gC,ss,ss,ss,ss,ss,ss⟩
 generalize hge:w6.heap.size=ge at *;generalize hbs:w7.heap.size=bs at *;obtain⟨G,hG⟩:∃G,G=p.B:=⟨_,rfl⟩;obtain⟨Lk,gZ⟩:∃G,G=p.L:=⟨_,rfl⟩;obtain⟨Pn,h4⟩:∃G,G=p.P.map aQ.name:=⟨_,rfl⟩;have hS:kD p=⟨G,Lk,Pn,tL G Lk Pn p.P 0,qJ G Lk Pn p.P 0⟩:=by rw[hG,gZ,h4];rfl
 refine bV p.P.length (λk us w'=>us=[iV k]/\∃vp ve E L Fp Fe Fi,k<=p.P.length/\E.length=k/\AW w1 p gk ge bs w1.heap.size l3 h3 l7 h7 v14 v18 vp ve ((p.P.take k).map aQ.name) E L Fp Fe Fi w'/\bs<=w'.heap.size /\
     tL G Lk Pn p.P 0=E++tL G Lk Pn (p.P.drop k) L.length/\qJ G Lk Pn p.P 0=L++qJ G Lk Pn (p.P.drop k) L.length) 0 (z0 _)
     ⟨rfl,_,_,[],[],[],[],[],z0 _,rfl,by simpa using j9,oo,ss,ss⟩ ?_
 rintro k m _ w8 _ ⟨hu,vp,ve,E,L,Fp,Fe,Fi,_,h5,C,_,g5,gD⟩;try replace hu:=cJ hu
 rw[hu];have gf:=C.em.old;refine aE qW<|aL qY (uV hA) gf λ_ ja=>aX pW ja<|bM ?_
 have hLl:L.length<=968:=by
   have h1:=cS List.length gD;have h2:(kD p).I.length=(qJ G Lk Pn p.P 0).length:=by rw[hS]
   rw[bX]at h1;omega
 refine br (λ_=>?_) λ_=>?_
 ·have hk:k<p.P.length:=oo;have g0:=hp.b _ (cY hk);rw[A6 hk]at g5;rw[B6 hk]at gD;have gE:=cO w8;have gs:=C.ext gE;have jb:=gE.size;generalize World.drew1 w8=w9 at *;have gF:=gf.t gE;refine aE lQ<|cX dC gs.bk rfl<|aE qW<|aL qY (uV hA) gF λ_ jc=>bC pW pO jc hk λ_ _ h8=>aE NE<|eV cG (OB h8) gF λh9=>?_;have hT:((p.P.take k).map aQ.name).length=k:=by rw[kL,fY];omega
  refine CT (β:=ByteArray) (G:=Fp) cL cG z9 JP dD gs.n gs.nn (Jm h9) ss (by rw[eB,hT];omega) (by rw[hT];omega) (λhe jd _ Fp' gg gh gi hf gG=>?_) λs' w' hg h'=>⟨hg,h'⟩;have hh:=gg.size;have hU:=gh.size;have gH:gk∉Fp:=λhm=>by have:=gs.bp _ hm;omega
  refine aE lQ<|qL (α:=dM) (lo:=0) (hi:=0) dC rfl rfl ((gs.bk.ext gg).chg gh gH) ss (yG gi.one) λhl gj hn=>?_;have je:=gj.size
  have gI:gk∉Fp':=λhm=>by
    rcases gG _ hm with h|h|h
    ·exact gH h
    ·simp at h
    omega
  have hs:=gs.names g4 (vp':=jd) (N':=(p.P.take (k+1)).map aQ.name) (Fp':=Fp') (w':=hl) ((((gg.chg Fp).trans gh).mono sd).trans (gj.toC.mono ss)) hn
    (by rw[tk hk,wJ];exact gi.keep λc hc=>gj.block c (gi.lt c hc) (by have:c≠gk:=λe=>gI (e▸hc);omega)) hf (λc hc=>by
      rcases gG c hc with h|h|h
      ·exact .inl h
      ·simp at h
      exact .inr h) oo
  have g3:=cO hl;have D:=hs.ext g3;have jf:=g3.size;generalize World.drew1 hl=w13 at *;refine aE kJ<|cX dT D.bk rfl<|bZ.mk rfl ?_;obtain⟨d0,d1,d2,rv,jg,gO,jh,ji,jj⟩:=D.em;refine aE PH<|aL (α:=kB) eJ (Md gO.at) xx λjk jl=>?_;obtain⟨ht,hv⟩:=Nf jl;have ht:jk=rv:=ht;have hv:Is w13 rv L:=hv;rw[ht];refine aX eQ hv<|CT (β:=Int) (G:=Fe) (x:=(L.length:Int)) bG aG z3 wQ dD D.e D.en (xN io) ss (by rw[eB,h5];omega) (by rw[h5];omega) (λ_ jm _ Fe' g1 gl gn hw gJ=>?_) λs' w' hg h'=>⟨hg,h'⟩;have jn:=g1.size;have hV:=gl.size;have gK:gk∉Fe:=λhm=>by have:=D.be _ hm;omega
  refine aE kJ<|qL (α:=dM) (lo:=0) (hi:=0) dT rfl rfl ((D.bk.ext g1).chg gl gK) ss (yG gn.one) λjo gp hz=>?_;have jp:=gp.size
  have gL:gk∉Fe':=λhm=>by
    rcases gJ _ hm with h|h|h
    ·exact gK h
    ·simp at h
    omega
  have gq:=D.ents g4 (ve':=jm) (E':=E++[(L.length:Int)]) (Fe':=Fe') (w':=jo) ((((g1.chg Fe).trans gl).mono sd).trans (gp.toC.mono ss)) hz
    (gn.keep λc hc=>gp.block c (gn.lt c hc) (by have:c≠gk:=λe=>gL (e▸hc);omega)) hw (λc hc=>by
      rcases gJ c hc with h|h|h
      ·exact .inl h
      ·simp at h
      exact .inr h) oo
  have gd:=gq.em.old;refine aE qW<|aL qY (uV hA) gd λ_ jq=>bC pW pO jq hk λ_ _ hC=>aE OZ<|aL fW (UH hC) gd λ_ jr=>?_;have hbl:=KA G Lk Pn (p.P[k]).body L.length;refine(Xf _ 6 _ gq.em jr g0.1 (by have:=g0.2;omega)).mono ?_;rintro _ hW ⟨gM,_,g9,hD⟩;have js:=gM.size;rw[<-hG,<-gZ,<-h4]at g9;have hF:=gq.ems g4 gM g9 hD oo;obtain⟨z1,z2,z3,_,_⟩:=g9.lt;refine TH (lo:=hW.heap.size) (hi:=hW.heap.size) io λ_ jt=>(Cg g9 jt z1 z2 (lr _) (by have:=g0.2;rw[bX];omega)).mono ?_;rintro _ _ ⟨-,gN,_,hH,hI⟩;have ju:=gN.size;have hJ:=hF.ems g4 gN hH hI oo;refine aU<|⟨m-1,oo,k+1,oo,rfl,_,_,_,_,_,_,_,oo,by simp[h5],hJ,oo,?_,?_⟩
  ·rw[g5];simp[DU]
  rw[gD];simp[DU,KG]
 have hk:k=p.P.length:=oo;subst hk;rw[BA,tL,oJ]at g5;rw[BA,qJ,oJ]at gD;rw[sF]at C;refine bZ.mk rfl ?_;obtain⟨d0,d1,d2,rv,jg,gO,jh,ji,jj⟩:=C.em;refine aE PH<|aL (α:=kB) eJ (Md gO.at) xx λjv jw=>?_;obtain⟨hK,-⟩:=Nf jw;have hK:jv=rv:=hK;rw[hK];obtain⟨Gi,hX⟩:=Kg (bT.var gO);obtain⟨_,⟨rfl,M⟩,_,hY,_,hO,_⟩:=hX.here;have M:dU Gi 69 w8 rv L:=M
 have gt:∀c∈Gi,c∈Fi:=λc hc=>by
   rcases bF.1 (hX.sub c (by simp[hc]))with e|h
   ·exact absurd (e▸hc) hO
   exact h
 refine aE eW<|qL (α:=dM) (lo:=0) (hi:=0) eJ rfl rfl C.bk ss (yG M.one) λw9 gx jx=>?_;have jb:=gx.size;refine SD jx cP ?_;refine tA (α:=EX) (x:=(⟨v14⟩,⟨v18⟩,⟨vp⟩,⟨ve⟩,⟨rv⟩)) (lo:=0) (hi:=0) cP rfl (C.x.xI gx oo) rfl (Eg gb gc C.n.one C.e.one M.one) λhe g2 hL=>?_;have hh:=g2.size;refine AX hL cP ?_;have jy:aB w he:=aB.xI (aB.xI xx gx oo) g2 oo;refine⟨jy,_,rfl,?_⟩;obtain⟨F3,M3,B3⟩:=(C.g.chg gx oo).chg g2 oo;obtain⟨F7,M7,B7⟩:=(C.l.chg gx oo).chg g2 oo;have keep:∀c,bs<=c->c<w8.heap.size->he.heap[c]?=w8.heap[c]?:=λc h1 h2=>(g2.block c oo oo).trans (gx.block c h2 oo);have Mp:=UR (C.n.keep λc hc=>keep c (C.bp c hc) (C.n.lt c hc)) C.nn;have Me:=UR (C.e.keep λc hc=>keep c (C.be c hc) (C.e.lt c hc)) C.en;have Mi:=UR (M.keep λc hc=>keep c (C.bi c (gt c hc)) (M.lt c hc)) hY;rw[hS,g5,gD,hG,gZ,h4];refine⟨F3++(F7++(Fp++(Fe++Gi))),⟨⟨[v14,v18,vp,ve,rv],oO (AJ rfl M3.own) (oO (AJ rfl M7.own) (oO (AJ rfl Mp.own) (oO (AJ rfl Me.own) (AJ rfl Mi.own)))),rfl⟩,?_,M3.wr.append (M7.wr.append (Mp.wr.append (Me.wr.append Mi.wr)))⟩,λc hc=>?_⟩
 ·simp only[oE,dF];refine⟨M3.nodup,⟨M7.nodup,⟨C.nn,⟨C.en,hY,λa ha b hb e=>?_⟩,λa ha b hb e=>?_⟩,λa ha b hb e=>?_⟩,λa ha b hb e=>?_⟩
  ·exact C.dei a ha (gt a (e▸hb))
  ·subst e;rcases hb with h|h
   ·exact C.dpe a ha h
   exact C.dpi a ha (gt a h)
  ·subst e;have:=B7 a ha;rcases hb with h|h|h
   ·have:=C.bp a h;omega
   ·have:=C.be a h;omega
   have:=C.bi a (gt a h);omega
  subst e;have:=B3 a ha;rcases hb with h|h|h|h
  ·have:=B7 a h;omega
  ·have:=C.bp a h;omega
  ·have:=C.be a h;omega
  have:=C.bi a (gt a h);omega
 simp only[dF]at hc;rcases hc with h|h|h|h|h
 ·have:=B3 c h;omega
 ·have:=B7 c h;omega
 ·have:=C.bp c h;have:=C.n.lt c h;omega
 ·have:=C.be c h;have:=C.e.lt c h;omega
 have:=C.bi c (gt c h);have:=M.lt c h;omega
def yt(h0:Is W0 v0 c)(e0:aB W0 w)(hc:aM c) :
   aJ tp 97 [v0] w λr w'=>aB w w'/\∃A,iZ (iX c) A/\eG w.heap.size w' r A:=by
 refine co (g:=kf [] [(4,17592186043496,[3,5])] [(6,[0,1,2,3,4,5,6,7,8,9,10,11,12],2048),(7,[0,1,2,3,4,5,6,7,8,9,10,11,12],0)]) Tryz.func97 ?_;have hol:=Ur hc;have gg:=hc.1.locks6;refine iR h0 e0 λ_ gh hA=>pR (α:=dB) uI rO λ_ _ g2 _=>aL cP hA g2 λ_ h8=>(er h8 g2 hc).mono ?_;rintro _ w3 ⟨gi,gj⟩;have h9:=gj.is;have g0:=(gh.t g2).trans gi;have g3:=g0.size;refine bV (iX c).length (λk us w'=>∃out A,us=[out,iV k]/\k<=(iX c).length/\aB w3 w'/\bQ w3.heap.size w'.heap.size 201 w' out A/\iZ ((iX c).take k) A) 0 (z0 _) ⟨_,[],rfl,z0 _,xx,AY _ _ _ _ _,by rw[LA];exact iZ.start⟩ ?_;rintro k mk _ w4 _ ⟨out,A,hq,_,V,gb,hI⟩;obtain⟨gl,gn⟩:=dQ hq;rw[gl,gn];have hs4:=V.size;refine aX KT h9<|bM<|br (λ_=>?_) λ_=>?_
 case refine_2=>
   have gp:k=(iX c).length:=oo;rw[gp,sF]at hI;exact⟨xx,A,hI,gb.own.own.mono g3⟩
 have hk:k<(iX c).length:=oo
 have gc:((iX c).take k++[(iX c)[k]]).Pairwise oW:=by
   rw[<-tk hk];exact(Gt c).sublist (Bt _ _)
 have gd:=Il gg hI.pw (hI.rng hc);have g4:=cO w4;generalize World.drew1 w4=w5 at *;have e5:=V.t g4;refine bC KT KV h9 hk λ_ _ gq=>aE Dz<|aS aG (Rw gq) e5 λgr=>bC KT KV h9 hk λ_ _ gs=>aE Ea<|aS aG (J5 gs) e5 λgt=>fI (cells:=#[iV (iX c)[k].fr,iV (iX c)[k].to]) kK ?_;have gx:Is w5 (.agg #[iV (iX c)[k].fr,iV (iX c)[k].to]) (xW (iX c)[k]):=TZ.2 ⟨rfl,gr,gt⟩;refine ir Al rfl rO rfl gx xx λw6 gf g1 _=>?_;have C:=cO w6;generalize World.drew1 w6=w7 at *;have Z:=((gb.ext g4).ext gf).ext C;have O:=(g4.t gf).trans C;have g5:=O.size
 have D:xW (iX c)[k]∉A->RD tp (Instr.loadAt 201 (pT w5.heap.size 0)) w7 λgy=>OP tp (Instr.buildSlice 139 1 #[(0,gy)]) w7 λgz w=>OP tp (Builtin.append_ #[139,139] 139 [out,gz].toArray) w λgA w=>RD tp (bin .add 3 (.tmp 0) (.const undef) (iV k) (iV 1)) w λgB=>∃m',m'<mk/\∃k',k'+m'=(iX c).length/\∃out A,[gA,gB]=[out,iV k']/\k'<=(iX c).length/\aB w3 w/\bQ w3.heap.size w.heap.size 201 w out A/\iZ ((iX c).take k') A:=λgC=>by
   refine aL rO g1 C λ_ gD=>oS (lo2:=w7.heap.size) (hi2:=w7.heap.size) (x:=xW (iX c)[k]) uI rO ai E2 dD Z oo (UD (gD.ext C)) oo oo (by rw[eB];omega) oo λv' _ gE gF=>aU<|⟨mk-1,oo,k+1,oo,v',A++[xW (iX c)[k]],rfl,oo,(V.t O).xI gE (lr _),gF,?_⟩;rw[tk hk];exact hI.new gc gC
 refine aX uI Z.is<|bI<|br (λh0=>?_) λ_=>?_
 ·have:A=[]:=qC oo;exact D (by rw[this];simp)
 have M:=hI.last gc oo;refine aX uI Z.is<|kQ io ?_;rw[show((A.length:Int)-1)=((A.length-1:Nat):Int) by omega];refine bC (i:=A.length-1) uI rO Z.is oo λ_ _ gG=>aL rO gG xx λ_ gH=>aL rO g1 C λ_ gI=>tz gH gI<|br (λgJ=>?_) λgK=>?_
 ·exact D λh=>gJ (M.2 h)
 refine aU<|⟨mk-1,oo,k+1,oo,out,A,rfl,oo,xx,Z.mono (lr _) g5,?_⟩;rw[tk hk];exact hI.old (M.1 (eK.1 gK))
open Classical in
noncomputable def MU(c:aF)(n:Nat):List (List Nat):=(List.range n).flatMap λn=>(iI c).filter λp=>decide (p.head?=some n/\zM (uY c) p)
open Classical in
noncomputable def EA(c:aF)(n k:Nat):List (List Nat):=((iI c).take k).filter λp=>decide (p.head?=some n/\zM (uY c) p)
def zuq(c:aF)(n:Nat):MU c (n+1)=MU c n++EA c n (iI c).length:=by
 unfold MU EA;rw[HA,vW,sF];simp
def zxr(hk:k<(iI c).length)(h:(iI c)[k].head?=some n/\zM (uY c) (iI c)[k]):EA c n (k+1)=EA c n k++[(iI c)[k]]:=by
 unfold EA;rw[tk hk,JL];simp[h]
def tt(hk:k<(iI c).length)(h:¬((iI c)[k].head?=some n/\zM (uY c) (iI c)[k])):EA c n (k+1)=EA c n k:=by
 unfold EA;rw[tk hk,JL];simp[h]
def xb(c:aF)(n k:Nat):(EA c n k).length<=k:=eH (TR _ _) (by rw[fY];omega)
open Classical in
def ti(hc:aM c)(n:Nat):(MU c n).length<=n*6:=by
 have h6:=hc.1.locks6;have hll:=La c;have:=PS (l:=List.range n) (B:=6) (f:=λn=>(iI c).filter λp=>decide (p.head?=some n/\zM (uY c) p)) λ_ _=>eH (TR _ _) oo;rw[KJ]at this;exact this
def Xc(h0:Is W0 v0 c)(e0:aB W0 w)(hc:aM c) :
   aJ tp 37 [v0] w λr w'=>aB w w'/\eG w.heap.size w' r ((oL c).map bN):=by
 refine co (g:=kf [] [(5,144115188075790560,[5,6]),(8,144115188067467424,[5,7])] [(10,[0,1,2,3,4,5,6,7,8,9,10,11,12,13,14,15,16,17,18],0)]) Tryz.func37 ?_;have h6l:=hc.1.locks6;refine iR h0 e0 λ_ gI hA=>aL cP hA xx λ_ h8=>(yt h8 xx hc).mono ?_;rintro _ w2 ⟨gb,_,gf,gz⟩;obtain⟨gA,gB⟩:=bn hc gf;refine aE uP<|aL dC (vX hA) gb λ_ gJ=>aX cL gJ<|(od gz.is xx oo gA gB).mono ?_;rintro v14 w3 ⟨gc,g1⟩;rw[Ae hc gf]at g1;change eG w2.heap.size w3 v14 ((iI c).map bN)at g1;have g2:=(gI.t gb).trans gc;have gg:=g2.size;have hll:=La c;refine pR (α:=List Int) vR dT λ_ _ gK _=>bV c.L.length (λn us w'=>∃out,us=[out,iV n]/\n<=c.L.length/\aB w3 w'/\bQ w3.heap.size w'.heap.size 31 w' out ((MU c n).map bN)) 0 (z0 _) ⟨_,rfl,z0 _,gK,AY _ _ _ _ _⟩ ?_;rintro n mn _ _ _ ⟨out,hq,_,gh,gi⟩;obtain⟨gL,gM⟩:=dQ hq;rw[gL,gM];refine aE uP<|aL dC (vX hA) ((gb.t gc).trans gh) λ_ gN=>aX cL gN<|bM<|br (λ_=>?_) λ_=>?_
 case refine_2=>
   have gj:n=c.L.length:=oo;rw[gj]at gi;exact⟨xx,gi.own.own.mono gg⟩
 have hKl:=ti hc n;refine bV (iI c).length (λk us w'=>∃out,us=[out,iV k]/\k<=(iI c).length/\aB w3 w'/\bQ w3.heap.size w'.heap.size 31 w' out ((MU c n++EA c n k).map bN)) 0 (z0 _) ⟨_,rfl,z0 _,gh,by simpa[EA]using gi⟩ ?_;rintro k mk _ w6 _ ⟨O,gO,_,gl,gn⟩;obtain⟨gp,gq⟩:=dQ gO;rw[gp,gq];have hIl:=xb c n k;refine aX vR g1.is ?_;rw[kL];refine bM<|br (λ_=>?_) λ_=>?_
 case refine_2=>
   have gP:k=(iI c).length:=oo;rw[gP,<-zuq]at gn;refine aU<|⟨mn-1,oo,n+1,oo,O,rfl,oo,gl,gn⟩
 have hk:k<(iI c).length:=oo;obtain⟨_,gQ⟩:=VY (cY hk);obtain⟨hd,gd,gR,_⟩:=HB (cY hk);have V:k<((iI c).map bN).length:=by rw[kL];exact hk
 have gr:=cO w6;generalize World.drew1 w6=w7 at *;have C:=gl.t gr;have gC:=gn.ext gr;have hs7:=gr.size;have gS:=gl.size
 have Z:0<(bN (iI c)[k]).length:=by
   rw[cB];exact Cx gR
 have gT:(bN (iI c)[k])[0]'Z=(hd:Int):=by
   rw[<-Ll (l5 Z)];exact FF gd
 have D:¬((iI c)[k].head?=some n/\zM (uY c) (iI c)[k])->∀w8,aB w7 w8->∃m',m'<mk/\∃k',k'+m'=(iI c).length/\∃out,[O,Value.int .i64 ((k+1:Nat):Int)]=[out,iV k']/\k'<=(iI c).length/\aB w3 w8/\bQ w3.heap.size w8.heap.size 31 w8 out ((MU c n++EA c n k').map bN):=λh w8 M=>
   ⟨mk-1,oo,k+1,oo,O,rfl,oo,xx,by rw[tt hk h];exact(gC.ext M).mono (lr _) (by have:=M.size;omega)⟩
 refine bC (i:=k) vR dT g1.is V λ_ _ gD=>?_;rw[LS]at gD;refine aL dT gD C λ_ gU=>bC (i:=0) bG aG gU Z λ_ _ gE=>?_;rw[gT]at gE;refine aS aG gE C λ_=>bI<|br (λ_=>?_) λgj=>?_
 case refine_2=>refine aU<|D (λh=>gj ?_) _ xx;rw[gd]at h;have:=Ez h.1;omega
 have gV:hd=n:=oo;rw[gV]at gd;refine aE uP<|aL dC (vX hA) ((gb.t gc).trans C) λ_ gW=>aX cL gW<|bC (i:=k) vR dT g1.is V λ_ _ gF=>?_;rw[LS]at gF;refine aL dT gF C λ_ gX=>(sb gz.is xx gX C oo gA gB gQ oo).mono ?_;rintro _ w8 ⟨M,_,rfl,gs⟩;rw[Ae hc gf]at gs;refine bW (λhy=>?_) λgG=>?_
 case refine_2=>refine aU<|D (λh=>by rw[gs.2 h.2]at gG;cases gG) _ M
 have gY:=gs.1 hy;have hs8:=M.size;refine pR (α:=Int) bG aG λ_ w9 gt gZ=>?_;have hs9:=gt.size;have g0:=(C.t M).trans gt;refine bC (i:=k) vR dT g1.is V λ_ _ gH=>?_;rw[LS]at gH;refine aL dT gH g0 λ_ h4=>OX bG aG wQ gZ (lr _) h4 g0 (by rw[cB,eB];simp;omega) (by rw[cB];simp;omega) λ_ h5 g3 g4=>?_;rw[sL]at g4;have g9:=g0.xI g3 oo;have hsx:=g9.size;refine oS (lo2:=w9.heap.size) (hi2:=h5.heap.size) (x:=bN (iI c)[k]) vR dT Av Cj dD (((gC.ext M).ext gt).chg g3 oo) oo g4.own oo oo (by rw[kL,bX,eB];omega) (by rw[kL,bX];omega) λh6 _ gx gy=>aU<|⟨mk-1,oo,k+1,oo,h6,rfl,oo,g9.xI gx (lr _),?_⟩;rw[zxr hk ⟨gd,gY⟩,<-fR,wJ];exact gy
def Q8(h0:Is W0 v0 c)(e0:aB W0 w) :
   aJ tp 12 [v0] w λr w'=>aB w w'/\eG w.heap.size w' r (GM c):=by
 refine co (g:=kf [] [] []) Tryz.func12 ?_;refine iR h0 e0 λ_ g1 hA=>aL cP hA xx λ_ h3=>(XW h3 xx).mM λ_ C=>?_;have:=g1.size;have:=C.size;refine mL<|br (λhn=>?_) λhy=>?_
 ·refine pR (α:=List Int) vR dT λ_ w3 g0 g2=>?_;refine⟨xx,?_⟩;unfold GM;rw[aH hn];exact g2.own.own.mono (by have:=g0.size;omega)
 have hc:=eK.1 hy;refine aL cP hA C λ_ h7=>(Xc h7 C hc).mono ?_;rintro _ w3 ⟨g0,g3⟩;refine⟨xx,?_⟩;unfold GM;rw[aP hc];exact g3.mono oo
def rN(X:Nat->Prop)(w:wD)(v:vL)(l:List UInt8):Prop:=(∃a,v=.slice (some a) 0 0/\l=[])\/(w.ownsRow 0 5 1 v l.length (Lib.byteCells l)/\∀k,v.ownBlock=some k->X k)
section
variable {w w':wD}{v:vL}{l:List UInt8}{X Y:Nat->Prop}
def rN.ext(h:rN X w v l)(hx:aB w w'):rN X w' v l:=by
 rcases h with h|⟨h1,h2⟩
 ·exact .inl h
 exact .inr ⟨O3 h1 hx,h2⟩
def rN.mono(h:rN X w v l)(hx:∀ k,X k->k<w.heap.size->Y k):rN Y w v l:=by
 rcases h with h|⟨h1,h2⟩
 ·exact .inl h
 exact .inr ⟨h1,λk hk=>hx k (h2 k hk) (h1.lt k hk).2⟩
theorem Vm(w:wD):∀l:List UInt8,aO [] w (Lib.byteCells l) l
 |[]=>⟨rfl,rfl⟩
 |b :: l=>⟨[],[],[.int .u8 (b.toNat:Int)],Lib.byteCells l,rfl,rfl,⟨rfl,rfl⟩,Vm w l⟩
def rN.is(h:rN X w v l):Is w v l:=by
 rcases h with⟨a,rfl,rfl⟩|⟨h1,_⟩
 ·exact⟨[],_,⟨some a,0,[],[],rfl,lr _,z0 _,⟨rfl,rfl⟩,.inl ⟨rfl,rfl⟩⟩,rfl⟩
 rcases h1.2 with⟨rfl,hl⟩|⟨g,cap,_,rfl,_,hg,hn,hm,_,_⟩
 ·obtain rfl:=qC hl;exact zx rfl
 refine⟨[g],_,⟨some ⟨g,0,none⟩,cap,[],_,rfl,hn,hm,Vm w l,.inr ⟨g,0,rfl,rfl,λj u hu=>?_,(Array.getElem?_eq_some_iff.1 hg).1⟩⟩,rfl⟩;have h2:=h1.cells (g:=g) rfl j u hu;have g0:(⟨g,0,none⟩:Addr).add j=⟨g,j,none⟩:=by unfold Addr.add;split<;>simp_all
 rw[g0]at h2;rw[vO];exact h2
def Yy{s:ByteArray}{K:VW}(h:rN X w v l)(hX:∀ k,w.heap.size<=k->X k)(hn:l.length+s.size<=140737488355328)
   (k:∀v' w',eR X w w'->rN X w' v' (l++aW s)->K v' w'):OP tp (Builtin.append_ #[24,9] 24 [v,.string s].toArray) w K:=by
 have hm:∀{n:Nat},n<=140737488355328->n<=maxLen:=λh=>by rw[eB];omega
 rcases h with⟨a,rfl,rfl⟩|⟨h1,h2⟩
 ·obtain⟨i,hi,hz,hs,hy⟩:=N3;by_cases hs0:s.size=0
  ·refine⟨.slice (some a) 0 0,w,?_,k _ w (IE xx) (.inl ⟨a,rfl,?_⟩)⟩
   ·have hf:=Lib.run_firstCells_string (P:=tp) w 1 s;have hn:Lib.strCells s=[]:=qC (by rw[Lib.strCells_length];exact hs0);rw[hs0,hn]at hf;simp[Builtin.append_,run_underlying Tryz.underlying24,run_underlying Tryz.underlying9,sizeOf,typeInfo,hi,hs,Builtin.lenOf,hs0,hf,storeCells]
   exact qC (by rw[sL,dO];exact hs0)
  have hr:=Lib.run_append_grow_string (P:=tp) w 24 9 24 5 i (.int .u8 0) Tryz.underlying24 Tryz.underlying9 hi hz a 0 0 [] ss ss s oo (by simp only[eU]at hn;omega) (by rw[hy];simp only[eU]at hn;exact growslice_fits oo oo);obtain⟨v2,w2,g2,g1,C,_⟩:=Lib.run_append_own_string (P:=tp) w w.heap.size 24 9 24 5 i Tryz.underlying24 Tryz.underlying9 hi hz hs hy _ 0 [] (World.ownsRow_nil w w.heap.size 5 1) s (hm (by simpa using hn)) (by simpa using hn) (lr _);have g0:=run_append_nil_string (P:=tp) w 24 9 24 5 i (.int .u8 0) Tryz.underlying24 Tryz.underlying9 hi hz s oo (by simp only[eU]at hn;omega) (by rw[hy];simp only[eU]at hn;omega)
  have he:(Builtin.append_ #[24,9] 24 #[.slice (some a) 0 0,.string s]).run tp w=.ok v2 w2:=by
    have e1:(s.data.map λb=>Value.int .u8 b.toNat)=(Lib.strCells s).toArray:=by
      apply GA;simp[Lib.strCells]
    rw[e1]at g0;rw[hr,<-g2,g0];simp
  refine⟨v2,w2,he,k v2 w2 ⟨C.os,C.tape,C.output,C.size,λb hb _=>C.block b hb (by simp[Value.ownBlock])⟩ (.inr ⟨?_,λj hj=>hX j (g1.lt j hj).1⟩)⟩;rw[Kz,bX,dO];exact Wc (by simpa[Lib.byteCells]using g1) (z0 _)
 refine A3 h1 hn (z0 _) λv' w' h3 hg h4=>k v' w' ⟨hg.os,hg.tape,hg.output,hg.size,λb hb hn=>hg.block b hb λe=>hn (h2 b e.symm)⟩ (.inr ⟨?_,λj hj=>?_⟩)
 ·rw[Kz,bX,dO];exact h3
 rcases h4 j hj with h|h
 ·exact h2 j h
 exact hX j h
end
def Xz(hc:aM c){x:aR}(hg:0<=x.g/\x.g<c.B.length):GD c x=rM c x:=by
 unfold GD;rw[aP ⟨hc,hg⟩]
def ow(h0:Is W0 v0 c)(e0:aB W0 w) :
   aJ tp 15 [v0] w λr w'=>aB w w'/\r=.string (zJ c):=by
 refine co (g:=kf [] [(6,268419112,[3,5]),(11,17591112302728,[3,7])] [(8,[0,1,2,3,4,5,6,7,8],64),(13,[0,1,2,3,4,5,6,7,8],64)]) Tryz.func15 ?_;refine iR h0 e0 λwa g5 hA=>aL cP hA (aC _) λ_ h8=>?_;refine(XW h8 (aC _)).mono ?_;rintro _ _ ⟨g0,rfl⟩;refine mL<|br (λhn=>⟨g5.t g0,by unfold zJ;rw[aH hn];rfl⟩) (λhy=>?_);have hc:=eK.1 hy;have hxw:=g5.t g0;refine Ex (α:=UInt8) mA RS λa wg gc _=>aL cP hA (g0.t gc) λ_ gx=>?_;refine(Y0 gx (g0.t gc) hc).mono ?_;rintro gy W1 ⟨gz,hR⟩;have hRl:=Gn hc;change eG wg.heap.size W1 gy (rS c)at hR;have gA:=λx(hx:x∈rS c)=>Ny hx;have gd:AC c=(rS c).flatMap λx=>aW (rM c x):=rfl;generalize hRe:rS c=R at *;have g1:=(g0.t gc).trans gz;refine bV R.length (λk us w'=>∃out,us=[out,iV k]/\k<=R.length/\eR (λb=>W1.heap.size<=b) W1 w'/\rN (λb=>W1.heap.size<=b) w' out ((R.take k).flatMap λx=>aW (rM c x))/\((R.take k).flatMap λx=>aW (rM c x)).length<=k*100) 0 (z0 _) ⟨_,rfl,z0 _,IE (aC _),.inl ⟨a,rfl,ss⟩,ss⟩ ?_;rintro i mk _ w3 _ ⟨out,hu,_,gf,gg,gh⟩;obtain⟨gB,gi⟩:=dQ hu;rw[gB,gi];have hs3:=gf.size;have M:aB W1 w3:=Bq gf (aC _) λb hb=>hb;refine aX mC (hR.is.ext M)<|bM ?_;have C:=g1.t M;refine br (λgC=>?_) (λ_=>?_)
 case refine_1=>
   have hi:i<R.length:=oo;have D:=cO w3;generalize World.drew1 w3=w4 at *;refine aL cP hA (C.t D) λ_ gD=>bC mC lG (i:=i) hR.is hi λ_ _ gE=>aL lG gE (M.t D) λ_ gp=>?_;have gq:=gA R[i] (cY _);have g2:=OW.1 gp;refine(wy gD (C.t D) gp (M.t D)).mono ?_;rintro _ w5 ⟨gr,rfl⟩;refine⟨gr,?_⟩;have V:=D.t gr;have gF:=V.size;rw[Xz hc gq];have gG:=Qx hc gq g2.2.2.1 g2.2.2.2;refine Yy (gg.ext V) (λk hk=>oo) oo λv' w6 gH gI=>aU ?_
   have g3:((R.take (i+1)).flatMap λx=>aW (rM c x))=((R.take i).flatMap λx=>aW (rM c x))++aW (rM c R[i]):=by
     rw[tk hi,vW];simp
   refine⟨mk-1,oo,i+1,oo,v',rfl,oo,HT (HT gf (IE V)) gH,by rw[g3];exact gI,?_⟩;rw[g3,bX,dO];omega
 have gJ:i=R.length:=oo;rw[gJ,sF,<-gd]at gg gh;refine aL cP hA C λ_ gK=>?_;refine(Xc gK C hc).mono ?_;rintro gL W2 ⟨gj,hQ⟩;have hs2:=gj.size;have gM:=(gg.mono (Y:=λb=>(W1.heap.size<=b/\b<w3.heap.size)\/W2.heap.size<=b) λk hk gN=>.inl ⟨hk,gN⟩).ext gj;have hQl:((oL c).map bN).length<=6:=by have:=(Mz c).1;unfold GM at this;rwa[aP hc]at this
 have g4:CP c=((oL c).map bN).flatMap λp=>aW (oG c p):=rfl;generalize hQe:(oL c).map bN=Q at *;refine bV Q.length (λk us w'=>∃out,us=[out,iV k]/\k<=Q.length/\eR (λb=>(W1.heap.size<=b/\b<w3.heap.size)\/W2.heap.size<=b) W2 w'/\rN (λb=>(W1.heap.size<=b/\b<w3.heap.size)\/W2.heap.size<=b) w' out (AC c++(Q.take k).flatMap λp=>aW (oG c p))/\((Q.take k).flatMap λp=>aW (oG c p)).length<=k*100) 0 (z0 _) ⟨_,rfl,z0 _,IE (aC _),by simpa using gM,ss⟩ ?_;rintro i2 gO _ w4 _ ⟨_,gi,_,g9,gb,gl⟩;obtain⟨gP,gQ⟩:=dQ gi;rw[gP,gQ];have hs4:=g9.size;have gs:Is w4 gL Q:=Hg hQ g9 λb _ _=>oo;refine aX vR gs<|bM ?_;have O:aB wa w4:=Bq g9 (C.t gj) λb hb=>by have:=g1.size;omega
 refine br (λgC=>?_) (λ_=>?_)
 case refine_1=>
   have hi:i2<Q.length:=oo;have D:=cO w4;generalize World.drew1 w4=w5 at *;refine aL cP hA (O.t D) λ_ gR=>bC vR dT (i:=i2) gs hi λ_ _ gS=>aL dT gS D λ_ gT=>?_;refine(zlw gR (O.t D) gT D).mono ?_;rintro _ w6 ⟨gt,rfl⟩;refine⟨gt,?_⟩;have Z:=D.t gt;have gU:=Z.size;have gG:=bq c Q[i2];refine Yy (gb.ext Z) (λk hk=>oo) (by rw[bX];omega) λv' _ gV gW=>aU ?_
   have g3:((Q.take (i2+1)).flatMap λp=>aW (oG c p))=((Q.take i2).flatMap λp=>aW (oG c p))++aW (oG c Q[i2]):=by
     rw[tk hi,vW];simp
   refine⟨gO-1,oo,i2+1,oo,v',rfl,oo,HT (HT g9 (IE Z)) gV,by rw[g3,<-fR];exact gW,?_⟩;rw[g3,bX,dO];omega
 have gn:i2=Q.length:=oo;rw[gn,sF,<-g4]at gb gl;refine aX mA gb.is<|bI<|br (λhz=>⟨g5.t O,?_⟩) (λhz=>?_)
 ·unfold zJ;rw[aP hc,aP oo];rfl
 refine Mu mA Tryz.underlying5 Tryz.underlying9 gb.is (aC _)<|⟨g5.t O,?_⟩;unfold zJ;rw[aP hc,aH oo]
def Rz(f:bY):ByteArray:=(((ByteArray.mk #[102,97,117,108,116,32]++mO f.code)++ByteArray.mk #[32])++mO f.at_)++ByteArray.mk #[10]
def Rb(k:Int):ByteArray:=(ByteArray.mk #[119,114,111,110,103,32]++mO k)++ByteArray.mk #[10]
noncomputable def DY(s:ByteArray):ByteArray:=match vH s with|.error f=>Rz f|.ok p=>if qN p=0 then zJ (kD p)else Rb (qN p)
def zC8{p:aY}(h:vH s=.ok p):vD p:=by
 unfold vH at h;split at h
 ·cases hp:xR (lD s).1 s.size with
  |error f=>rw[hp]at h;cases h
  | ok x=>
    obtain⟨_,_⟩:=x;rw[hp]at h;cases h;exact kj (ab s).1 hp
 cases h
def wn(p:aY):bR (qN p):=by
 unfold qN bR;repeat' split
 all_goals omega
def zom{p:aY}(h:Is W v p)(e:aB W w)(hp:vD p)(hf:qN p≠0) :
   aJ tp 23 [v] w λr w'=>aB w w'/\∃a,r=.tuple #[a,.bool false]/\aK w.heap.size w'.heap.size w' a (aV.zv:aF):=by
 refine co (g:=⟨extL,[],[(5,35184363700288,[23])],[],[(3,1046544,10)],[],[]⟩) Tryz.func23 ?_;refine iR h e λw1 g2 hA=>?_;have hs1:=g2.size;refine sY (α:=aF) LD λ_ g0 g3=>aL kT hA g0 λ_ h7=>(Pf h7 g0 hp).mM λ_ g1=>?_;have hs3:=g1.size;refine fP<|br (λ_=>?_) (λhc=>absurd hf hc);refine fI (cells:=#[.slice none 0 0,.slice none 0 0,.slice none 0 0,.slice none 0 0,.slice none 0 0]) kK ?_;have hb2:=g3.lt
 have hg1:w.heap.size<w1.heap.size:=by
   obtain⟨_,_,hr,g5⟩:=hA;have:=JG g5 (by rw[Rep.len hr];exact Rep.pos);exact this
 refine oU cP (g3.ext g1) (Sj (lo:=w.heap.size) (hi:=w.heap.size)) (.inr oo) λ_ g4 g9=>?_;have hs4:=g4.size;refine uX cP g9 xx λu ou=>⟨((g2.t g0).trans g1).xI g4 oo,u,rfl,ou.mono (lr _) oo⟩
def pg(f:bY)(h:bR f.code/\bR f.at_):(mO f.code).size<=21/\(mO f.at_).size<=21:=⟨CW _ h.1,CW _ h.2⟩
theorem kg{p:aY}{f:bY}(hR:KZ s p f)(hn:f.code≠0):DY s=Rz f:=by
 unfold KZ at hR;unfold DY;cases hr:vH s with
 |error f'=>rw[hr]at hR;rw[hR.1]
 |ok p'=>rw[hr]at hR;rw[hR.1]at hn;exact absurd rfl hn
theorem yq{p:aY}{f:bY}(hR:KZ s p f)(h0:f.code=0):vH s=.ok p:=by
 unfold KZ at hR;cases hr:vH s with
 |error f'=>rw[hr]at hR;exact absurd h0 hR.2
 |ok p'=>rw[hr]at hR;rw[hR.2]
def pm{p:aY}(h:vH s=.ok p)(hf:¬qN p=0):DY s=Rb (qN p):=by unfold DY;rw[h];exact aH hf
def ca{p:aY}(h:vH s=.ok p)(hf:qN p=0):DY s=zJ (kD p):=by unfold DY;rw[h];exact aP hf
def Lo(hT:oF W0)(e0:aB W0 w)(hs:s.size<=maxLen) :
   aJ tp 6 [.string s] w λr w'=>aB w w'/\r=.string (DY s):=by
 refine co (g:=kf [] [] [(3,[0,1,5,6,2,3,4,7,8,9,10],132)]) Tryz.func6 ?_;refine(znU (hT:=hT) (e0:=e0) hs).mono ?_;rintro _ _ ⟨gf,p,f,a,rfl,oa,hI,hR⟩;have:=gf.size;have:=pg f hI;refine fO (v:=a) rfl<|fO (v:=.agg #[iV f.code,iV f.at_]) rfl<|sY (α:=aY) IU λw2 g2 gg=>?_;have:=g2.size;have:=gg.lt;refine rK Eu λ_ g3 gh=>oU kT (gg.ext g3) ((oa.ext g2).ext g3) (.inr oo) λ_ gi gs=>?_;refine tA (α:=bY) (lo:=0) (hi:=0) tF9 rfl (gh.keep (gi.block _ gh.lt (.inr oo))) rfl (XG hI.1 hI.2) λw5 gj g0=>?_;have g0:cA w2.heap.size 49 w5 [iV f.code,iV f.at_]:=g0;have gl:=gs.chg gj (.inl oo) (.inl oo);have D:aB w w5:=(((gf.t g2).trans g3).xI gi oo).xI gj oo;refine aE Ck<|cX aG g0 rfl<|fP<|br (λhn=>?_) λh0=>?_
 ·rw[kg hR hn];have O:=cO w5;have gn:=g0.ext O;have V:=D.t O;generalize World.drew1 w5=w6 at *;refine aE Ck<|cX aG gn rfl<|aE Wp<|cX aG gn rfl<|(MD hT xx hI.1).mM λw7 M=>?_;refine⟨M,?_⟩;refine mK (by have:(ByteArray.mk #[102,97,117,108,116,32]).size=6:=rfl;omega)<|mK (by simp only[lF];have:(ByteArray.mk #[102,97,117,108,116,32]).size=6:=rfl;have:(ByteArray.mk #[32]).size=1:=rfl;omega) ?_;refine(MD hT ((e0.t V).trans M) hI.2).mM λw8 gp=>?_;refine⟨gp,?_⟩;refine mK (by simp only[lF];have:(ByteArray.mk #[102,97,117,108,116,32]).size=6:=rfl;have:(ByteArray.mk #[32]).size=1:=rfl;omega)<|mK (by simp only[lF];have:(ByteArray.mk #[102,97,117,108,116,32]).size=6:=rfl;have:(ByteArray.mk #[32]).size=1:=rfl;have:(ByteArray.mk #[10]).size=1:=rfl;omega)<|⟨(V.t M).trans gp,rfl⟩
 have h0:=eK.1 h0;have g4:=yq hR h0;have g5:=zC8 g4;refine DJ kT gl xx λ_ o6=>?_;by_cases hf:qN p=0
 rotate_left
 ·rw[pm g4 hf];refine(zom o6.is xx g5 hf).mono ?_;rintro _ w6 ⟨O,a6,rfl,g9⟩;have gx:=O.size;refine fO (v:=a6) rfl<|fO (v:=.bool false) rfl<|sY (α:=aF) LD λw7 M gb=>oU cP gb (g9.ext M) (.inr oo) λw8 gc gq=>?_;have C:aB w5 w8:=(O.t M).xI gc oo;refine dG<|bW (λ_=>?_) (λhh=>by cases hh);refine DJ kT (gl.ext C) xx λu9 o9=>(Pf o9.is xx g5).mM λw9 g1=>?_;have gr:=wn p;refine(MD hT (((e0.t D).trans C).trans g1) gr).mM λ_ gd=>?_;have:=CW _ gr;refine mK (by have:(ByteArray.mk #[119,114,111,110,103,32]).size=6:=rfl;omega)<|mK (by simp only[lF];have:(ByteArray.mk #[119,114,111,110,103,32]).size=6:=rfl;have:(ByteArray.mk #[10]).size=1:=rfl;omega)<|⟨((D.t C).trans g1).trans gd,rfl⟩
 rw[ca g4 hf];refine(fm o6.is xx (zFu g5 hf)).mono ?_;rintro _ w6 ⟨O,a6,rfl,g9⟩;have gx:=O.size;refine fO (v:=a6) rfl<|fO (v:=.bool true) rfl<|sY (α:=aF) LD λw7 M gb=>oU cP gb (g9.ext M) (.inr oo) λw8 gc gq=>?_;have C:aB w5 w8:=(O.t M).xI gc oo;refine dG<|bW (λhh=>by cases hh) λ_=>?_;refine DJ cP gq xx λu9 o9=>(O6 o9.is xx (hT.ext ((e0.t D).trans C))).mM λw9 g1=>?_;exact⟨(D.t C).trans g1,rfl⟩
def yW:aJ tp 14 [.string s] w λr w'=>aB w w'/\r=iV (((aW s).count 10:Nat):Int):=by
 refine co (g:=kf [] [] []) Tryz.func14 ?_
 have g0:aJ tp 41 [.string s,.string (ByteArray.mk #[10])] w λr w'=>aB w w'/\r=iV (((aW s).count 10:Nat):Int):=by
   refine⟨(Any.strings_Count_one Tryz.laysN138 s 10 w).mono ?_⟩;rintro _ w' ⟨he,rfl⟩;exact⟨_,he,xx,rfl⟩
 refine g0.mM λ_ g1=>?_;exact⟨g1,rfl⟩
def Hr:ByteArray:=ByteArray.mk #[103,108,111,98,97,108,115]
def Iu:ByteArray:=ByteArray.mk #[103,108,111,98,97,108,115,59,32,108,111,99,107,115,59]
def dh:DY Hr=ByteArray.mk #[102,97,117,108,116,32,51,32,55,10]:=by
 have h:vH Hr=.error ⟨3,7⟩:=by kernel_rfl
 unfold DY;rw[h];decide +kernel
def su:DY Iu=ByteArray.mk #[119,114,111,110,103,32,52,10]:=by
 have h:vH Iu=.ok ⟨[],[],[]⟩:=by kernel_rfl
 have hf:qN ⟨[],[],[]⟩=4:=by
   unfold qN;rw[aH ss,aH (by simp[RI]),aP ss]
 unfold DY;rw[h];simp only;rw[aH (by rw[hf];decide),hf];decide +kernel
open Classical in
noncomputable def XD(c:aF):List aR:=if aM c then vY (wH c (tF c) (tF c).length)else[]
def G0(h0:Is W0 v0 c)(e0:aB W0 w) :
   aJ tp 11 [v0] w λr w'=>aB w w'/\eG w.heap.size w' r (XD c):=by
 refine co (g:=kf [] [] []) Tryz.func11 ?_;refine iR h0 e0 λ_ g1 hA=>aL cP hA xx λ_ h3=>(XW h3 xx).mM λ_ C=>?_;have:=g1.size;have:=C.size;refine mL<|br (λhn=>?_) λhy=>?_
 ·refine pR (α:=aR) mC lG λ_ w3 g0 g2=>?_;refine⟨xx,?_⟩;unfold XD;rw[aH hn];exact g2.own.own.mono (by have:=g0.size;omega)
 have hc:=eK.1 hy;refine aL cP hA C λ_ h7=>(Y0 h7 C hc).mono ?_;rintro _ w3 ⟨g0,g3⟩;refine⟨xx,?_⟩;unfold XD;rw[aP hc];exact g3.mono oo
def ud{bs:(List UInt8)} (h0:Is W0 v0 bs)(e0:aB W0 w)  :
   aJ tp 7 [v0] w λr w'=>aB w w'/\(r=.bool (decide ((1048576:Int)<bs.length))):=by
 refine co (g:=kf [] [] []) Tryz.func7 ?_;refine aX mA h0<|oN<|⟨xx,?_⟩;rfl
def zBk{p:aY}(hp:iT p)(h:¬DI p=ByteArray.mk #[]):DY (DI p)=zJ (kD p):=by
 have h6:(zR p).length<=6000:=by
   rcases kR 6000 (zR p).length with h'|h'
   ·exact absurd (by unfold DI;rw[aH oo]) h
   exact h'
 have e:DI p=⟨(zR p).toArray⟩:=by unfold DI;rw[aP h6]
 have eb:aW (DI p)=zR p:=by rw[e];simp[aW]
 have es:(DI p).size<=6000:=by rw[<-dO,eb];exact h6
 exact ca (eu hp.sh eb es) (Fw hp)
def zBl(p:aY):(DI p).size<=6000:=by
 unfold DI;split
 ·rename_i h;show(zR p).toArray.size<=6000;rw[GU];exact h
 decide
def fp(hc:aM c):(XD c).length=(rS c).length/\(GM c).length=(oL c).length:=by
 unfold XD GM rS;rw[aP hc,aP hc,kL];exact⟨rfl,rfl⟩
def zxv(hc:aM c)(hg:c.B=glb):GD c ⟨1,2,3⟩=ByteArray.mk #[114,97,99,101,32,121,32,50,32,51,10]:=by
 rw[Xz hc (x:=⟨1,2,3⟩) (by rw[hg];decide)];unfold rM;rw[hg];decide +kernel
def rf(hc:aM c)(hl:c.L=lks):oG c [0,2]=ByteArray.mk #[114,111,117,110,100,32,97,32,109,10]:=by
 have hp:vG c [0,2]:=⟨hc,dD,dD,by rw[hl];decide⟩;unfold oG;rw[aP hp];simp only[dA,eU,uB,hl];decide +kernel
def xe{x y:Operand}{a b:Bool}(ht:P.underlying t=some .bool)(k:K (.bool (decide (a=b)))):RD P (bin .eql t x y (.bool a) (.bool b)) w K:=
 dY (λw' _=>by
   have:=run_eql_bool (P:=P) w' t a b ht;simp[bin,eqGuard,this];cases a<;>cases b<;>rfl) k
def zxw{bs:List UInt8}(h0:Is W0 v0 bs)(e0:aB W0 w)(hT:oF w) :
   aJ tp 4 [v0] w λr w'=>aB w w'/\r=.bool true:=by
 refine co (g:=kf [(10,1610612864,[7])] [] [(6,[0,3,1,2,4,5,6,7],18),(10,[0,2,1,3,4,5,6,7,8,9,10,11,12,13,14,16,15,17,18,19,20,21,22,23,26,24,25,27,28,29,30,31,32,33,34,35,36,37,38,39,40,41,42,43,44,45,46,47,48,49,50,51,52,53],562950104449154)]) Tryz.func4 ?_;refine(ud h0 e0).mM λ_ gb=>br (λ_=>⟨gb,rfl⟩) λ_=>?_;have hd:=dz bs (MN bs);have gq:(kD (HI bs (MN bs)).1).B=glb:=rfl;have gr:(kD (HI bs (MN bs)).1).L=lks:=rfl;refine(ztK h0 xx oo).mono ?_;rintro _ _ ⟨gs,gt⟩;generalize (HI bs (MN bs)).1=p at *;have hp:=hd.r;have hc:aM (kD p):=(Jc hp).1;obtain⟨gi,gc⟩:=fp hc;obtain⟨gd,gx⟩:=dj hc;refine mB IU rfl kT rfl gt.is xx λ_ gy gj _=>aL kT gj xx λ_ gz=>(qi gz xx hp).mono ?_;rintro _ _ ⟨gl,_,rfl,o4⟩;refine fO rfl<|fO rfl<|mB LD rfl cP rfl o4.is xx λ_ gn M _=>?_;have C:=(gb.t gs).trans (gy.t (gl.t gn));have g2:=gl.t gn;refine aL cP M xx λ_ gA=>(O6 gA xx (hT.ext C)).mM λw6 gB=>?_;have D:=gB.t (cO w6);generalize World.drew1 w6=wa at *;refine aL cP M D λ_ gC=>aL cP M D λ_ gD=>(G0 gC D).mono ?_;rintro _ _ ⟨gf,gE⟩;refine⟨gf,?_⟩;refine aX mC gE.is<|(Q8 gD xx).mono ?_;rintro _ _ ⟨O,gF⟩;refine⟨O,?_⟩;refine aX vR gF.is ?_;rw[gi,gc];have:=Gn hc;have gG:=(Mz (kD p)).1;rw[gc]at gG;have O:=D.t (gf.t O);refine rQ io<|aL kT gj xx λ_ gH=>(zk gH xx hp.sh).mM λw9 gI=>dJ.mk (λus w'=>us=[iV ((if (rS (kD p)).length+(oL (kD p)).length=0 then 1 else(rS (kD p)).length+(oL (kD p)).length:Nat):Int)]/\aB w9 w') ?_ ?_
 ·refine bI ?_;refine br (λhz=>⟨by rw[aP oo];rfl,xx⟩) (λhz=>⟨by rw[aH oo];rfl,xx⟩)
 rintro _ wA ⟨hu,g3⟩;try replace hu:=cJ hu
 rw[hu];have g3:=g3.t (cO wA);have g3:=O.t (gI.t g3);generalize World.drew1 wA=wd at *;refine yW.mM λ_ V=>?_;refine⟨V,?_⟩;rw[gd];refine bI<|br (λ_=>?_) (λh=>absurd rfl h);have V:=g3.t V;refine aL cP M V λ_ gJ=>(ow gJ V).mM λ_ Z=>?_;refine⟨Z,?_⟩;refine eX<|br (λ_=>?_) (λh=>absurd rfl h);have Z:=V.t Z;refine eX<|gbr (λ_=>?_) λgK=>?_;have g0:=Z
 rotate_left
 refine(Lo (hT.ext C) Z (by have:=zBl p;rw[eB];omega)).mono ?_;rintro _ _ ⟨gp,rfl⟩;refine⟨gp,?_⟩;rw[zBk hp gK];refine eX<|br (λ_=>?_) (λh=>absurd rfl h);have g0:=Z.t gp
 all_goals
   refine eX<|aL cP M g0 λ_ gL=>aL cP M g0 λ_ gM=>(G0 gL g0).mono ?_;rintro _ _ ⟨gg,gN⟩;refine⟨gg,?_⟩;refine aX mC gN.is<|(Q8 gM xx).mono ?_;rintro _ _ ⟨g4,gO⟩;refine⟨g4,?_⟩;refine aX vR gO.is ?_;rw[gi,gc];refine rQ io<|bI<|xe u4<|br (λ_=>?_) (λh=>absurd (by rw[decide_eq_decide];show zJ (kD p)=Es↔_;rw[gx];omega) h);have g4:=g0.t (gg.t g4);refine(Lo (hT.ext C) g4 (s:=Hr) dD).mM λ_ g9=>?_;rw[dh];refine eX<|br (λ_=>?_) (λh=>absurd rfl h);have g9:=g4.t g9;refine(Lo (hT.ext C) g9 (s:=Iu) dD).mM λ_ g1=>?_;rw[su];refine eX<|br (λ_=>?_) (λh=>absurd rfl h);have g1:=g9.t g1;refine aL cP M g1 λ_ gP=>fI (cells:=#[iV 1,iV 2,iV 3]) kK<|(wt gP g1 (x:=⟨1,2,3⟩) (OW.2 ⟨rfl,by unfold bR;decide,by unfold bR;decide,by unfold bR;decide⟩) xx (hT.ext xx)).mono ?_;rintro _ _ ⟨g5,rfl⟩;rw[zxv hc gq];refine eX<|br (λ_=>?_) (λh=>absurd rfl h);refine aL cP M (g1.t g5) λ_ gQ=>zP (l:=([0,2]:List Int)) (vs:=[iV 0,iV 2]) bG aG (z:=iV 0) kK dD kK rfl (λw=>Bb (l:=[0,2]) (by unfold bR;decide)) λ_ _ gh gR=>⟨gh,?_⟩;refine(Px gQ xx gR.is xx).mM λ_ gS=>?_;rw[rf hc gr];refine eX<|⟨xx,by rw[decide_eq_true rfl]⟩
def rn(ht:P.underlying t=some (.int .u8))(n:Nat):KR P t UInt8 n:=by
 intro _ _ _ _ _ _ _ h;obtain⟨m,rfl,_,hw⟩:=DataW.trod_int ht h;have hm:0<=m/\m<=255:=by simpa[Lit.wf,IntKind.min,IntKind.max,IntKind.signed,IntKind.bits]using hw
 refine⟨[],UInt8.ofNat m.toNat,rfl,?_⟩
 have:((UInt8.ofNat m.toNat).toNat:Int)=m:=by
   have:(UInt8.ofNat m.toNat).toNat=m.toNat:=by simp;omega
   omega
 rw[this]
def zGo:∀n,KR tp 24 (List UInt8) n:=zmt mA kK (rn u5)
def zcs{a b:Bool}(h:a=true)(k:b=true):(a&&b)=true:=by rw[h,k];rfl
def zGp:laidOutB tp=true:=by kernel_rfl
def zGq:mapsRowed tp=true:=by kernel_rfl
def zDb:(Rows.fnExactWatchRow.plainKeys == tp.plainKeys)=true:=by kernel_rfl
def zDc:tp.stopsHeard=true:=by kernel_rfl
def zHU:tp.mayEnter=true:=by kernel_rfl
def zGr:(Rows.fnExactWatchRow.lifted == tp.liftsFinal)=true:=by kernel_rfl
def zGs:(tp.make == some Rows.fnExactWatchRow.make)=true:=by kernel_rfl
end Go.Proofs.YtcaakhmhlfgogaaGreatDoor
