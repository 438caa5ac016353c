/-
  Parts of the proof, put together by program.
-/
import Derived.Test.YtcaakhmhlfgogaaGreatDoorQFnReports5
set_option linter.defProp false
set_option linter.unusedVariables false
set_option maxRecDepth 100000
set_option linter.unusedSimpArgs false
set_option linter.unusedSectionVars false
open Go renaming Value→vL,World→wD,Program→pG
namespace Go.Proofs.YtcaakhmhlfgogaaGreatDoor
open Go Go.Sh Go.Proofs
open Rep (rep)
open Go.RowKit (Below)
variable {W0 W1 w:wD}{c:aF}{v0 v1:vL}{x:aR}
def Rs:Builder.X72 tp Tryz.laysN166_ren:=⟨kK,kK⟩
def zIx:Builder.Extra tp Tryz.laysN169_ren where
 sizeBuilder:=by kernel_rfl
 liesBuilder:=by kernel_rfl
 t5:=Tryz.underlying5
 a5:=Tryz.isAgg5
 z5:=Tryz.sizeOf5
 v5:=Tryz.zeroValue5
 infoByte:=by kernel_rfl
 cellsByte:=by kernel_rfl
 sizeByte:=by kernel_rfl
 neB5:=by decide
def N3:∃i,tp.info? 5=some i/\i.zero=some (.int .u8 0)/\i.size=1/\i.bytes=1:=by
 have h:(tp.info? 5).map (λi=>(i.zero,i.size,i.bytes))=some (some (.int .u8 0),1,1):=by kernel_rfl
 obtain⟨i,hi,he⟩:=CB.1 h;simp only[mV]at he;exact⟨i,hi,he.1,he.2.1,he.2.2⟩
def iG(w:wD)(g:Nat)(l:List UInt8)(X:Nat->Prop):Prop:=
 ∃p v,cA g 75 w [p,v]/\(p=.pointer none\/p=pT g 0)/\w.ownsRow (g+1) 5 1 v l.length (Lib.byteCells l)/\∀k,v.ownBlock=some k->X k
section
variable {w w':wD}{g:Nat}{l:List UInt8}{X Y:Nat->Prop}
def iG.mono(h:iG w g l X)(hx:∀ k,X k->k<w.heap.size->Y k):iG w g l Y:=by
 obtain⟨p,v,h1,h2,h3,h4⟩:=h;exact⟨p,v,h1,h2,h3,λk hk=>hx k (h4 k hk) (h3.lt k hk).2⟩
def iG.lt(h:iG w g l X):g<w.heap.size:=by
 obtain⟨_,_,h1,_⟩:=h;exact h1.lt
def O3{v:vL}{b n:Nat}{xs:List vL}(h:w.ownsRow b 5 1 v n xs)(hx:aB w w'):w'.ownsRow b 5 1 v n xs:=
 h.kept (row:=none) ⟨hx.os,hx.tape,hx.output,hx.size,λk hk _=>hx.block k hk⟩ (by cases v.ownBlock<;>simp)
def Wc{v:vL}{b b' n:Nat}{xs:List vL}(h:w.ownsRow b 5 1 v n xs)(hb:b'<=b):w.ownsRow b' 5 1 v n xs:=by
 refine⟨h.1,?_⟩;rcases h.2 with h|⟨g,cap,cur,h1,h2,h3⟩
 ·exact .inl h
 exact .inr ⟨g,cap,cur,h1,eH hb h2,h3⟩
def iG.ext(h:iG w g l X)(hx:aB w w'):iG w' g l X:=by
 obtain⟨p,v,h1,h2,h3,h4⟩:=h;exact⟨p,v,h1.ext hx,h2,O3 h3 hx,h4⟩
def Bk{v:vL}{n:Nat}{xs:List vL}(h:w.ownsRow (g+1) 5 1 v n xs):v.ownBlock≠some g:=λe=>by
 have:=(h.lt g e).1;omega
def Kz(l:List UInt8)(s:ByteArray):Lib.byteCells (l++aW s)=Lib.byteCells l++Lib.strCells s:=by
 unfold Lib.byteCells Lib.strCells aW;rw[wJ]
def yk{K:VW}(k:∀ w',aB w w'->iG w' w.heap.size [] X->K (pT w.heap.size 0) w') :
   OP tp (Instr.alloc 75 true (.tuple #[])) w K:=by
 refine rK (zs:=[.pointer none,.slice none 0 0]) kK λw' hx hB=>k w' hx ⟨_,_,hB,.inl rfl,World.ownsRow_nil _ _ _ _,?_⟩;intro k hk;simp[Value.ownBlock]at hk
def Jb(h:iG w g l X):∃p v,cA g 75 w [p,v]/\(p=.pointer none\/p=pT g 0)/\w.ownsRow (g+1) 5 1 v l.length (Lib.byteCells l)/\(∀k,v.ownBlock=some k->X k)/\Lib.BuilderAt 75 5 g g p (Lib.byteCells l) w:=by
 obtain⟨p,v,h1,h2,h3,h4⟩:=h;have hl:(Lib.byteCells l).length=l.length:=by simp[Lib.byteCells]
 exact⟨p,v,h1,h2,h3,h4,lr _,v,h1,by rw[hl];exact Wc h3 (Nat.le_succ g),Bk h3⟩
def kl(h:iG w g l X) :
   aJ tp 84 [pT g 0] w λ_ w'=>cH [g] w w'/\w'.heap.size=w.heap.size /\
     ∃v,cA g 75 w' [pT g 0,v]/\w'.ownsRow (g+1) 5 1 v l.length (Lib.byteCells l)/\∀k,v.ownBlock=some k->X k:=by
 obtain⟨_,v,h1,h2,h3,h4,hB⟩:=Jb h;rcases h2 with rfl|rfl
 ·refine⟨(Any.Builder_copyCheck_fresh { Tryz.laysN166 with } Rs g w hB.cell0 hB.shape hB.frozen0).mono ?_⟩;rintro e w' ⟨he,rfl⟩;refine⟨_,he,⟨rfl,rfl,rfl,by simp[World.setCell],λk _ hk=>Below.heap_setCell _ _ _ _ (by simpa using hk)⟩,by simp[World.setCell],v,?_,?_,h4⟩
  ·have g0:w.heap[g]?=some (.cells #[.pointer none,v] 75 (0,0)):=h1;unfold cA;simp[World.setCell,Array.getElem?_modify,g0]
  exact h3.kept (row:=some g) ⟨rfl,rfl,rfl,by simp[World.setCell],λk _ hk=>Below.heap_setCell _ _ _ _ (λe=>hk (by simp[e]))⟩ (.inr (Bk h3))
 refine⟨(Any.Builder_copyCheck_used { Tryz.laysN166 with } Rs g w hB.cell0).mono ?_⟩;rintro e w' ⟨he,rfl⟩;exact⟨_,he,cH.refl _ _,rfl,v,h1,h3,h4⟩
def A3{v:vL}{b n:Nat}{xs:List vL}{s:ByteArray}{K:VW}(h:w.ownsRow b 5 1 v n xs)(hn:n+s.size<=140737488355328)(hb:b<=w.heap.size)
   (k:∀v' w',w'.ownsRow b 5 1 v' (n+s.size) (xs++Lib.strCells s)->w.grownBy w' v.ownBlock->(∀j,v'.ownBlock=some j->v.ownBlock=some j\/w.heap.size<=j)->K v' w'):OP tp (Builtin.append_ #[24,9] 24 [v,.string s].toArray) w K:=by
 obtain⟨i,hi,hz,hs,hy⟩:=N3;have hm:n+s.size<=maxLen:=by rw[eB];omega
 obtain⟨v',w',hr,h1,h2,_⟩:=Lib.run_append_own_string (P:=tp) w b 24 9 24 5 i Tryz.underlying24 Tryz.underlying9 hi hz hs hy v n xs h s hm hn hb;have g0:xs.length=n:=by simpa using h.1
 refine⟨v',w',hr,k v' w' h1 h2 λj hk=>?_⟩;clear k;rcases h.2 with⟨rfl,rfl⟩|⟨g,cap,cur,rfl,_,hg,_,_,_,_⟩
 ·have hx:xs=[]:=qC g0;subst hx;obtain⟨_,_,C,g1,_⟩:=Lib.run_append_own_string (P:=tp) w w.heap.size 24 9 24 5 i Tryz.underlying24 Tryz.underlying9 hi hz hs hy _ 0 [] (World.ownsRow_nil w w.heap.size 5 1) s hm hn (lr _);rw[hr]at C;simp only[Result.ok.injEq]at C;obtain⟨rfl,rfl⟩:=C;exact .inr (g1.lt _ hk).1
 by_cases hroom:n+s.size<=cap
 ·have C:=Lib.run_append_room_string (P:=tp) w 24 9 24 5 i Tryz.underlying24 Tryz.underlying9 hi hs g n cap cur hg s hroom oo;rw[show(#[.slice (some ⟨g,0,none⟩) n cap,.string s]:Array vL)=[.slice (some ⟨g,0,none⟩) n cap,.string s].toArray from rfl,hr]at C;simp only[Result.ok.injEq]at C;obtain⟨rfl,rfl⟩:=C;exact .inl hk
 have C:=Lib.run_append_grow_string (P:=tp) w 24 9 24 5 i (.int .u8 0) Tryz.underlying24 Tryz.underlying9 hi hz ⟨g,0,none⟩ n cap xs (by rw[hs];simpa using g0) (h.cells (g:=g) rfl) s oo oo (by rw[hy];exact growslice_fits oo oo);rw[show(#[.slice (some ⟨g,0,none⟩) n cap,.string s]:Array vL)=[.slice (some ⟨g,0,none⟩) n cap,.string s].toArray from rfl,hr]at C;simp only[Result.ok.injEq]at C;obtain⟨rfl,rfl⟩:=C;simp only[Value.ownBlock,iU]at hk;exact .inr oo
def Sx{F:List Nat}(h:cH F w w')(hF:∀ k∈F,X k):eR X w w':=⟨h.os,h.tape,h.output,h.size,λb hb hx=>h.block b hb λhm=>hx (hF b hm)⟩
def HT{w2:wD}(h:eR X w w')(k:eR X w' w2):eR X w w2:=
 ⟨k.os.trans h.os,k.tape.trans h.tape,k.output.trans h.output,eH h.size k.size,λb hb hx=>(k.block b (kP hb h.size) hx).trans (h.block b hb hx)⟩
theorem P7{b o:Nat}{v:vL}(h:w.cell? ⟨b,o,none⟩=some v):w.rangeAt b o [v]:=by
 intro j _ hu;cases j with
 |zero=>simp at hu;subst hu;exact h
 |succ j=>simp at hu
def Zj{s:ByteArray}(h:iG w g l X)(hX:∀ k,w.heap.size<=k->X k)(hs:l.length+s.size<=140737488355328)(hm:s.size<=maxLen) :
   aJ tp 31 [pT g 0,.string s] w λ_ w'=>eR (λb=>b=g\/X b) w w'/\iG w' g (l++aW s) X:=by
 refine co (g:=kf [] [] []) Tryz.func31 ?_;refine(kl h).mono ?_;rintro _ w1 ⟨g9,_,v,hB,hr,hx⟩;have gb:=hB.lt;refine bZ.mk rfl<|aE (off:=1) kK ?_;have g0:∀j,w1.cell? ⟨g,j,none⟩=[pT g 0,v].toArray[j]?:=λj=>Lib.cell_of_heap hB j
 have gc:v.oneCell'=true:=by
   rcases hr.2 with⟨rfl,_⟩|⟨_,_,_,rfl,_⟩<;>rfl
 refine xZ ZS (P7 (g0 1))<|A3 hr hs oo λv' w2 g1 hg gd=>?_;have gf:cA g 75 w2 [pT g 0,v]:=hB.keep (hg.block g gb λe=>Bk hr e.symm)
 have g2:v'.oneCell'=true:=by
   rcases g1.2 with⟨rfl,_⟩|⟨_,_,_,rfl,_⟩<;>rfl
 refine bZ.mk rfl<|aE (off:=1) kK ?_;have C:=gf;unfold cA at C;refine Va ZS ⟨_,_,C⟩ (P7 (Lib.cell_of_heap C 1)) gc g2 λ_ D gg=>xA kK ?_;obtain⟨c',g3,g4⟩:=D.cell _ _ C;have h0:c'[0]?=some (pT g 0):=g4 0 (.inl oo);have h2:c'[2]?=none:=g4 2 (.inr oo)
 have h1:c'[1]?=some v':=by
   have:=gg 0 v' rfl;rw[Lib.cell_of_heap g3]at this;exact this
 have gh:c'=#[pT g 0,v']:=by
   have gi:c'.size=2:=by
     have a1:=(Array.getElem?_eq_some_iff.1 h1).1;have a2:=Array.getElem?_eq_none_iff.1 h2;omega
   apply Array.ext (by simpa using gi);intro i g5 _;have hi:i=0\/i=1:=oo;rcases hi with rfl|rfl
   ·rw[Array.getElem?_eq_getElem g5]at h0;simpa using h0
   rw[Array.getElem?_eq_getElem g5]at h1;simpa using h1
 subst gh;have gj:∀k,v.ownBlock=some k->X k:=hx;refine⟨HT (HT (Sx g9 ss) ⟨hg.os,hg.tape,hg.output,hg.size,λb hb hn=>hg.block b hb λe=>hn (.inr (gj b e.symm))⟩) (Sx D.chg ss),_,v',g3,.inr rfl,?_,?_⟩
 ·rw[Kz,bX,dO];exact g1.kept (row:=some g) ⟨D.chg.os,D.chg.tape,D.chg.output,D.chg.size,λk hk hn=>D.chg.block k hk (by simpa usingλe=>hn (by rw[e]))⟩ (.inr (Bk g1))
 intro k hk;rcases gd k hk with h|h
 ·exact hx k h
 exact hX k oo
def fh(h:iG w g l X):aJ tp 33 [pT g 0] w λr w'=>aB w w'/\r=iV (l.length:Int):=by
 obtain⟨_,_,_,h2,_,_,hB⟩:=Jb h;refine⟨(Any.Builder_Len Tryz.laysN170 g g _ w (h2.elim (λe=>.inl (by rw[e]at hB;exact hB)) (λe=>.inr (by rw[e]at hB;exact hB)))).mono ?_⟩;rintro e w' ⟨he,rfl⟩;exact⟨_,he,xx,by simp[Lib.byteCells]⟩
def nu{w0:wD}(h:iG w g l X)(h0:aB w0 w)(hg:w0.heap.size<=g):aJ tp 34 [pT g 0] w λr w'=>aB w0 w'/\r=.string ⟨l.toArray⟩:=by
 obtain⟨_,_,_,h2,_,_,hB⟩:=Jb h;refine⟨(Any.Builder_String_any Tryz.laysN169 zIx g g l w (h2.elim (λe=>.inl (by rw[e]at hB;exact hB)) (λe=>.inr (by rw[e]at hB;exact hB))) (Nat.le_of_lt h.lt)).mono ?_⟩;rintro e w' ⟨he,hb⟩;exact⟨_,he,⟨hb.os.trans h0.os,hb.tape.trans h0.tape,hb.output.trans h0.output,eH h0.size hb.size,λi hi=>(hb.block i oo).trans (h0.block i hi)⟩,rfl⟩
end
def BB:ByteArray:=ByteArray.mk #[114,97,99,101,32]
def MR(c:aF)(x:aR):Prop:=aM c/\0<=x.g/\x.g<c.B.length
instance(c:aF)(x:aR):Decidable (MR c x):=by unfold MR;infer_instance
def rM(c:aF)(x:aR):ByteArray:=BB++c.B.getD x.g.toNat ByteArray.empty++pA++mO x.a++pA++mO x.b++zT
def GD(c:aF)(x:aR):ByteArray:=if MR c x then rM c x else ByteArray.empty
def wt(h0:Is W0 v0 c)(e0:aB W0 w)(h1:Is W1 v1 x)(e1:aB W1 w)(hT:oF w) :
   aJ tp 16 [v0,v1] w λr w'=>aB w w'/\r=.string (GD c x):=by
 refine co (g:=kf [] [] [(3,[0,1,2,3,4,5,6,7,8,9,13,14,10,11,12,15,16,17,18],33792)]) Tryz.func16 ?_;refine iR h0 e0 λ_ g4 hA=>iR h1 (e1.trans g4) λwb g5 hB=>?_;have g0:=hA.ext g5;have g9:=g4.t g5;refine aE CQ<|aS aG (HX hB) xx λ_=>bM ?_;have g1:¬MR c x->∀w9,aB wb w9->aB w w9/\Value.string (ByteArray.mk #[])=.string (GD c x):=λh w9 gg=>⟨xx,by unfold GD;rw[aH h];rfl⟩;refine br (λhl=>g1 (λh=>by have:=h.2.1;omega) _ xx) (λ_=>?_);refine aE CQ<|aS aG (HX hB) xx λ_=>aE vU<|aL dC (wF g0) xx λ_ gh=>aX cL gh<|pD<|br (λhl=>g1 (λh=>by have:=h.2.2;omega) _ xx) (λ_=>?_);refine aL cP g0 xx λ_ gi=>(Ij gi xx).mM λw2 gb=>mL<|br (λhn=>g1 (λh=>hn h.1) _ gb) λhy=>?_;have hc:=eK.1 hy;have gj:MR c x:=⟨hc,oo,oo⟩;have gl:=cO w2;generalize World.drew1 w2=w3 at *;have C:=gb.t gl;obtain⟨i,hi⟩:∃i:Nat,x.g=(i:Int):=⟨x.g.toNat,oo⟩;have g2:i<c.B.length:=oo;refine aE vU<|aL dC (wF g0) C λ_ gn=>aE CQ<|aS aG (HX hB) C λ_=>?_;rw[hi];refine bC cL cG gn g2 λ_ _ gp=>eV cG gp C λ_=>?_;have:=hc.1.global_size g2;have:(ByteArray.mk #[114,97,99,101,32]).size=5:=rfl;have:(ByteArray.mk #[32]).size=1:=rfl;have:(ByteArray.mk #[10]).size=1:=rfl;refine mK oo<|mK (by simp only[lF];omega)<|aE IL<|aS aG (OR hB) C λgc=>aE PA<|aS aG (VD hB) C λgd=>?_;have:=CW x.a gc;have:=CW x.b gd;have D:=g9.t C;refine(MD hT D gc).mM λ_ g3=>?_;refine⟨g3,?_⟩;refine mK (by simp only[lF];omega)<|mK (by simp only[lF];omega) ?_;refine(MD hT xx gd).mM λ_ gf=>?_;refine⟨gf,?_⟩;refine mK (by simp only[lF];omega)<|mK (by simp only[lF];omega)<|⟨(D.t g3).trans gf,?_⟩;unfold GD rM;rw[aP gj,hi,qM,AF g2];rfl
def wy(h0:Is W0 v0 c)(e0:aB W0 w)(h1:Is W1 v1 x)(e1:aB W1 w) :
   aJ tp 42 [v0,v1] w λr w'=>aB w w'/\r=.string (GD c x):=by
 refine co (g:=kf [] [] [(3,[0,1,2,3,4,5,6,7,8,9,13,14,10,11,12,15,16,17,18],33792)]) Tryz.func42 ?_;refine iR h0 e0 λ_ g3 hA=>iR h1 (e1.trans g3) λwb g4 hB=>?_;have g0:=hA.ext g4;have g5:=g3.t g4;have g9:¬MR c x->∀w9,aB wb w9->aB w w9/\Value.string (ByteArray.mk #[])=.string (GD c x):=λh w9 gi=>⟨xx,by unfold GD;rw[aH h];rfl⟩;refine aL cP g0 xx λ_ h5=>(XW h5 xx).mM λ_ D=>mL<|br (λhn=>g9 (λh=>hn h.1) _ D) λhy=>?_;have hc:=eK.1 hy;refine aE CQ<|aS aG (HX hB) D λ_=>aE vU<|aL dC (wF g0) D λ_ gb=>aX cL gb ?_;have:=fD gb;refine kQ io<|eS.mM λw3 gc=>mL<|br (λhn=>g9 (λh=>hn ⟨h.2.1,by have:=h.2.2;omega⟩) _ xx) (λgj=>?_);have hr:=eK.1 gj;have gl:MR c x:=⟨hc,hr.1,oo⟩;have gn:=cO w3;generalize World.drew1 w3=w4 at *;have C:=(D.t gc).trans gn;obtain⟨i,hi⟩:∃i:Nat,x.g=(i:Int):=⟨x.g.toNat,oo⟩;have g1:i<c.B.length:=oo;refine aE vU<|aL dC (wF g0) C λ_ gp=>aE CQ<|aS aG (HX hB) C λ_=>?_;rw[hi];refine bC cL cG gp g1 λ_ _ gq=>eV cG gq C λ_=>?_;have:=hc.1.global_size g1;have h5:(ByteArray.mk #[114,97,99,101,32]).size=5:=rfl;have:(ByteArray.mk #[32]).size=1:=rfl;have:(ByteArray.mk #[10]).size=1:=rfl;refine mK oo<|mK (by simp only[lF];omega)<|aE IL<|aS aG (OR hB) C λgd=>aE PA<|aS aG (VD hB) C λgf=>?_;have:=CW x.a gd;have:=CW x.b gf;refine(Ls gd).mM λ_ gg=>?_;refine⟨gg,?_⟩;refine mK (by simp only[lF];omega)<|mK (by simp only[lF];omega) ?_;refine(Ls gf).mM λ_ gh=>?_;refine⟨gh,?_⟩;refine mK (by simp only[lF];omega)<|mK (by simp only[lF];omega)<|⟨((g5.t C).t gg).trans gh,?_⟩;unfold GD rM;rw[aP gl,hi,qM,AF g1];rfl
def Cy(hc:aM c){j:Nat}(hj:j<c.I.length):oX c (bO c j) (en c (eC c j).toNat) (uK c (eC c j)+1):=hc.2.2 j hj
def xh(hc:aM c){j:Nat}(hj:j<c.I.length)(h:(bO c j).op=6\/(bO c j).op=7):0<=(bO c j).arg/\(bO c j).arg<c.L.length:=by
 have:=(Cy hc hj).2.1;unfold tU at this;rwa[aH oo,aH oo,aP h]at this
def cF.locks6(h:cF c):c.L.length<=6:=by
 have h1:=h.2.1;simp only[iA,lZ]at h1;omega
end Go.Proofs.YtcaakhmhlfgogaaGreatDoor
namespace Go.Sh
open Rep (rep)
section
variable {w:wD}
end
end Go.Sh
namespace Go.Proofs.YtcaakhmhlfgogaaGreatDoor
open Go Go.Sh Go.Proofs
open Rep (rep)
variable {P:pG}{W0 w w0:wD}{c:aF}{hi i lo:Nat}{v v0:vL}
def UB{α:Type}[Rep α]{l:List α}(h:aK lo hi w v l):∃a n c,v=.slice a n c:=by
 obtain⟨a,cap,_,_,hv,_⟩:=xD h.is;exact⟨a,_,cap,hv⟩
def Gv{α:Type}[Rep α][dN α]{t ty e:TypeId}{by_:Nat}{a:Option Addr}{src:vL}{m:List α}{K:VW}(ht:P.underlying t=some (.slice e))(he:cT P e=some (Rep.size α,by_,Rep.agg α))
   (hzc:(P.info? e).map (λi=>(i.zero.map (·.cells.size)))=some (some (Rep.size α))) (hs:Is w0 src m) (hx:aB w0 w) (hm:m.length<=maxLen) (hb:m.length*by_<=140737488355328)
   (k:∀v' w',aB w w'->bQ w.heap.size w'.heap.size e w' v' m->K v' w'):OP P (Builtin.append_ #[t,t] ty [.slice a 0 0,src].toArray) w K:=
 OX (lo:=w.heap.size) (hi:=w.heap.size) (l:=([]:List α)) ht he hzc (AY _ _ _ _ _) (lr _) hs hx (by simpa using hm) (by simpa using hb) λv' w' hc hr=>k v' w' ((aC w).xI hc (lr _)) (by simpa using hr)
def ur:kO tp 3=some [iV 0]:=by kernel_rfl
def pv(hc:aM c):0<=plc uR c.P/\(plc uR c.P).toNat<c.E.length:=by
 have:=HQ.2 hc.1.2.2.2.2.2.2;have:=JE (s:=uR) (l:=c.P);have:=hc.2.1.1;omega
def ZE (h0:Is W0 v0 c)(e0:aB W0 w)  :
   aJ tp 241 [v0] w λr w'=>aB w w'/\(r=iV (plc uR c.P)):=by
 refine co (g:=kf [] [] []) Tryz.func241 ?_;refine lA cP rfl h0 e0 λg0 y1 g1 _=>aE lQ<|aL dC (nF g1) xx λ_ h4=>(NZ h4 xx).mM λ_ y2=>?_;refine⟨xx,?_⟩;rfl
def OS{α:Type}{l:List α}{x y:α}(h:y∈l.set i x):y=x\/y∈l:=by
 rcases List.mem_or_eq_of_mem_set h with h|h
 ·exact .inr h
 exact .inl h
def yg(hc:aM c){a:Int}(h0:0<=a)(h1:a<c.I.length)(ho:(bO c a.toNat).op≠9):a+1<c.I.length/\eC c (a+1)=eC c a:=by
 obtain⟨i,hi,_,_,h4⟩:=hc.f.find hc.1.p8.2 h0 h1;have h5:=(hc.2.1.2.2.2 a.toNat oo);rw[IP h0,h4,JF]at h5;have:iF c i-1≠a:=λe=>ho (h5.2 e);have:=(hc.f.lt i hi).2;exact⟨oo,by rw[h4];exact hc.f.proc hi oo oo⟩
def Js(hc:aM c){a:Int}(h0:0<=a)(h1:a<c.I.length)(ho:(bO c a.toNat).op=2\/(bO c a.toNat).op=3) :
   0<=(bO c a.toNat).to/\(bO c a.toNat).to<c.I.length/\eC c (bO c a.toNat).to=eC c a:=by
 obtain⟨i,hi,_,_,h4⟩:=hc.f.find hc.1.p8.2 h0 h1;have h5:=(Cy hc (j:=a.toNat) oo).2.2.2;rw[aP ho,IP h0,h4,JF,qM]at h5;have:=hc.f.nonneg hi;have:=(hc.f.lt i hi).2;exact⟨oo,oo,by rw[h4];exact hc.f.proc hi h5.1 oo⟩
def Rk(hc:aM c){i:Nat}(hi:i<c.E.length):0<=en c i/\en c i<c.I.length/\eC c (en c i)=i:=by
 have h6:=hc.f.nonneg hi;have h7:=hc.f.lt i hi;exact⟨h6,oo,hc.f.proc hi (Fv _) h7.1⟩
end Go.Proofs.YtcaakhmhlfgogaaGreatDoor
namespace Go.Sh
variable {i j n:Nat}
def bN(l:List Nat):List Int:=l.map λx:Nat=>(x:Int)
def cB(l:List Nat):(bN l).length=l.length:=by simp[bN]
def nI{l:List Nat}(h:i<(bN l).length):(bN l)[i]=((l[i]'(by rw[<-cB];exact h):Nat):Int):=by simp[bN]
def HG(l m:List Nat):bN (l++m)=bN l++bN m:=by simp[bN]
def zzV(l:List Nat)(k:Nat):bN (l.take k)=(bN l).take k:=by simp[bN]
def cN(ms:List Bool)(i:Nat):Prop:=ms.getD i false=true
def kS{ms:List Bool}(h:i<ms.length):cN ms i↔ms[i]=true:=by
 unfold cN;rw[List.getD_eq_getElem?_getD,List.getElem?_eq_getElem h];rfl
def Ml{ms:List Bool}(h:cN ms i):i<ms.length:=by
 rcases kR i ms.length with h'|h'
 ·exact h'
 unfold cN at h;rw[List.getD_eq_getElem?_getD,List.getElem?_eq_none h']at h;cases h
def wI{ms:List Bool}(hi:i<ms.length):cN (ms.set i true) j↔cN ms j\/j=i:=by
 unfold cN;rw[List.getD_eq_getElem?_getD,List.getD_eq_getElem?_getD,List.getElem?_set];by_cases h:i=j
 ·subst h;simp[hi]
 have:¬j=i:=λe=>h e.symm;simp[h,this]
def GY:¬cN (List.replicate n false) i:=by
 unfold cN;rw[List.getD_eq_getElem?_getD,List.getElem?_replicate];split<;>simp
def zzX{ms ns:List Bool}(hl:ms.length=ns.length)(h:∀ i,i<ms.length->(cN ms i↔cN ns i)):ms=ns:=by
 refine wE hl λi h1 h2=>?_;have:=h i h1;rw[kS h1,kS h2]at this;cases e1:ms[i]<;>cases e2:ns[i]<;>simp_all
def rR(ms:List Bool):Nat:=ms.count true
def LL(ms:List Bool):rR ms<=ms.length:=List.count_le_length
theorem VN:∀{ms:List Bool}{i:Nat},i<ms.length->¬cN ms i->rR (ms.set i true)=rR ms+1
 | b :: ms,0,_,h=>by
   have:b=false:=by cases b<;>simp_all[cN]
   subst this;simp[rR]
 | b :: ms,i+1,hi,h=>by
   have ih:=VN (ms:=ms) (i:=i) (by simpa using hi) (by simpa[cN]using h);simp only[rR,List.set_cons_succ,List.count_cons]at ih ⊢;omega
inductive RP(nx:Nat->List Nat)(a:Nat):Nat->Prop
 |one {b:Nat} (h:b∈nx a):RP nx a b
 |more {b d:Nat} (h:RP nx a b) (k:d∈nx b):RP nx a d
theorem RP.trans{nx:Nat->List Nat}{a b d:Nat}(h:RP nx a b)(k:RP nx b d):RP nx a d:=by
 induction k with
 |one h1=>exact .more h h1
 |more _ h2 ih=>exact .more ih h2
theorem RP.keeps{nx:Nat->List Nat}{p:Nat->Prop}{a b:Nat}(h:RP nx a b)(ha:p a)(hp:∀ i j,p i->j∈nx i->p j):p b:=by
 induction h with
 |one h=>exact hp _ _ ha h
 |more _ h ih=>exact hp _ _ ih h
structure nS(nx:Nat->List Nat)(n a:Nat)(M0 ms:List Bool)(td:List Nat)(k:Nat):Prop where
 len:ms.length=n
 sub:∀i,cN M0 i->cN ms i
 src:∀i,cN ms i->cN M0 i\/RP nx a i
 tdo:∀i∈td,(i=a\/RP nx a i)/\i<n
 clo:∀i,(i=a\/(cN ms i/\¬cN M0 i))->i∈td\/∀j∈nx i,cN ms j
 cnt:td.length+k+rR M0=1+rR ms
structure mZ(nx:Nat->List Nat)(n a:Nat)(M0 ms:List Bool)(td:List Nat)(k x q:Nat):Prop where
 len:ms.length=n
 sub:∀i,cN M0 i->cN ms i
 src:∀i,cN ms i->cN M0 i\/RP nx a i
 tdo:∀i∈td,(i=a\/RP nx a i)/\i<n
 clo:∀i,(i=a\/(cN ms i/\¬cN M0 i))->i∈td\/(i=x/\∀j∈(nx x).take q,cN ms j)\/∀j∈nx i,cN ms j
 cnt:td.length+k+1+rR M0=1+rR ms
 met:x=a\/RP nx a x
section
variable {nx:Nat->List Nat}{n a k x q:Nat}{M0 ms:List Bool}{td td':List Nat}
def nS.start(hl:M0.length=n)(ha:a<n):nS nx n a M0 M0 [a] 0:=
 ⟨hl,λ_ h=>h,λ_ h=>.inl h,λi hi=>by simp only[bF,dL,dI]at hi;exact⟨.inl hi,hi▸ha⟩,λi hi=>by
   rcases hi with rfl|⟨h1,h2⟩
   ·exact .inl ss
   exact absurd h1 h2,ss⟩
def nS.bound(h:nS nx n a M0 ms td k):td.length+k<=1+n:=by
 have:=h.cnt;have h2:=LL ms;rw[h.len]at h2;omega
def nS.pop(h:nS nx n a M0 ms td k)(hm:∀ i,i∈td↔i∈td'\/i=x)(hl:td.length=td'.length+1):mZ nx n a M0 ms td' k x 0:=
 ⟨h.len,h.sub,h.src,λi hi=>h.tdo i ((hm i).2 (.inl hi)),λi hi=>by
   rcases h.clo i hi with h1|h1
   ·rcases(hm i).1 h1 with h1|rfl
    ·exact .inl h1
    exact .inr (.inl ⟨rfl,ss⟩)
   exact .inr (.inr h1),by have:=h.cnt;omega,(h.tdo x ((hm x).2 (.inr rfl))).1⟩
def mZ.skip(h:mZ nx n a M0 ms td k x q)(hq:q<(nx x).length)(hmk:cN ms (nx x)[q]):mZ nx n a M0 ms td k x (q+1):=
 ⟨h.len,h.sub,h.src,h.tdo,λi hi=>by
   rcases h.clo i hi with h1|⟨rfl,h1⟩|h1
   ·exact .inl h1
   ·refine .inr (.inl ⟨rfl,λj hj=>?_⟩);rw[tk hq]at hj;rcases dF.1 hj with hj|hj
    ·exact h1 j hj
    simp only[bF,dL,dI]at hj;rw[hj];exact hmk
   exact .inr (.inr h1),h.cnt,h.met⟩
def mZ.push(h:mZ nx n a M0 ms td k x q)(hq:q<(nx x).length)(hn:(nx x)[q]<n)(g1:¬cN ms (nx x)[q]):mZ nx n a M0 (ms.set (nx x)[q] true) (td++[(nx x)[q]]) k x (q+1):=by
 have hs:=λj=>wI (ms:=ms) (i:=(nx x)[q]) (j:=j) (by rw[h.len];exact hn)
 have hr:RP nx a (nx x)[q]:=by
   rcases h.met with e|e
   ·exact .one (e▸cY hq)
   exact .more e (cY hq)
 refine⟨by simp[h.len],λi hi=>(hs i).2 (.inl (h.sub i hi)),λi hi=>?_,λi hi=>?_,λi hi=>?_,?_,h.met⟩
 ·rcases(hs i).1 hi with h1|h1
  ·exact h.src i h1
  exact .inr (h1▸hr)
 ·rcases dF.1 hi with h1|h1
  ·exact h.tdo i h1
  simp only[bF,dL,dI]at h1;exact⟨.inr (h1▸hr),h1▸hn⟩
 ·have g0:i=(nx x)[q]\/(i=a\/(cN ms i/\¬cN M0 i)):=by
    rcases hi with h1|⟨h1,h2⟩
    ·exact .inr (.inl h1)
    rcases(hs i).1 h1 with h1|h1
    ·exact .inr (.inr ⟨h1,h2⟩)
    exact .inl h1
  rcases g0 with h1|h1
  ·exact .inl (NP _ (by simp[h1]))
  rcases h.clo i h1 with h1|⟨rfl,h1⟩|h1
  ·exact .inl (EZ _ h1)
  ·refine .inr (.inl ⟨rfl,λj hj=>?_⟩);rw[tk hq]at hj;rcases dF.1 hj with hj|hj
   ·exact(hs j).2 (.inl (h1 j hj))
   simp only[bF,dL,dI]at hj;exact(hs j).2 (.inr hj)
  exact .inr (.inr λj hj=>(hs j).2 (.inl (h1 j hj)))
 have:=h.cnt;rw[VN (by rw[h.len];exact hn) g1,bX];simp only[dA,eU];omega
def mZ.done(h:mZ nx n a M0 ms td k x q)(hq:(nx x).length<=q):nS nx n a M0 ms td (k+1):=
 ⟨h.len,h.sub,h.src,h.tdo,λi hi=>by
   rcases h.clo i hi with h1|⟨rfl,h1⟩|h1
   ·exact .inl h1
   ·rw[iO hq]at h1;exact .inr h1
   exact .inr h1,by have:=h.cnt;omega⟩
theorem nS.fin(h:nS nx n a M0 ms [] k)(hc:∀ i,cN M0 i->i≠a->∀ j∈nx i,cN M0 j)(i:Nat):cN ms i↔cN M0 i\/RP nx a i:=by
 refine⟨h.src i,λhi=>?_⟩;rcases hi with hi|hi
 ·exact h.sub i hi
 have g0:∀b,(b=a\/cN ms b)->∀j∈nx b,cN ms j:=λb hb=>by
   by_cases hba:b=a
   ·rcases h.clo b (.inl hba)with h1|h1
    ·cases h1
    exact h1
   have hb:=hb.resolve_left hba;by_cases hm:cN M0 b
   ·exactλj hj=>h.sub j (hc b hm hba j hj)
   rcases h.clo b (.inr ⟨hb,hm⟩)with h1|h1
   ·cases h1
   exact h1
 induction hi with
 |one h1=>exact g0 a (.inl rfl) _ h1
 |more _ h2 ih=>exact g0 _ (.inr ih) _ h2
end
noncomputable def cZ(n:Nat)(p:Nat->Prop):List Bool:=(List.range n).map λi=>@decide (p i) (Classical.propDecidable _)
noncomputable def cC(n:Nat)(p:Nat->Prop):List Nat:=(List.range n).filter λi=>@decide (p i) (Classical.propDecidable _)
noncomputable def eM(p:Nat->Prop):Nat->Nat
 |0=>0
 |n+1=>eM p n ||| (if @decide (p n) (Classical.propDecidable _)then 2^n else 0)
section
variable {n:Nat}{p q:Nat->Prop}
def dZ:(cZ n p).length=n:=by simp[cZ]
def lY{i:Nat}:cN (cZ n p) i↔i<n/\p i:=by
 constructor
 ·intro h;have hl:=Ml h;rw[kS hl]at h;rw[dZ]at hl;refine⟨hl,?_⟩;simpa[cZ]using h
 rintro⟨h1,h2⟩;rw[kS (by rw[dZ];exact h1)];simpa[cZ]using h2
def DS{ms:List Bool}(hl:ms.length=n)(h:∀ i,i<n->(cN ms i↔p i)):ms=cZ n p:=
 zzX (by rw[hl,dZ]) λi hi=>by
   rw[lY,h i (hl▸hi)];exact⟨λh=>⟨hl▸hi,h⟩,λh=>h.2⟩
def rA(h:∀ i,i<n->(p i↔q i)):cZ n p=cZ n q:=DS dZ λi hi=>by rw[lY,<-h i hi];exact⟨λh=>h.2,λh=>⟨hi,h⟩⟩
def mG{i:Nat}:i∈cC n p↔i<n/\p i:=by simp[cC]
def Ew(h:∀ i,i<n->(p i↔q i)):cC n p=cC n q:=by
 refine List.filter_congr λi hi=>?_;have:=h i (rC.1 hi);by_cases hp:p i
 ·simp[hp,this.1 hp]
 have hq:¬q i:=λhq=>hp (this.2 hq);simp[hp,hq]
def i7:cC (n+1) p=cC n p++(if @decide (p n) (Classical.propDecidable _)then[n]else[]):=by
 simp only[cC,HA,JL,List.filter_cons,List.filter_nil]
def AS(h:p n):cC (n+1) p=cC n p++[n]:=by rw[i7];simp[h]
def xU(h:¬p n):cC (n+1) p=cC n p:=by rw[i7];simp[h]
def pC:(cC n p).length<=n:=eH (TR _ _) ss
theorem nW{i:Nat}:(eM p n).testBit i=true↔i<n/\p i:=by
 induction n with
 |zero=>simp[eM]
 | succ n ih=>
   rw[eM,vA,vB,ih];by_cases hp:p n
   ·simp only[hp,uN,if_true,AQ,lZ];constructor
    ·rintro(⟨h1,h2⟩|rfl)
     ·exact⟨oo,h2⟩
     exact⟨oo,hp⟩
    rintro⟨h1,h2⟩;rcases FA (FD.1 h1)with h|h
    ·exact .inl ⟨h,h2⟩
    exact .inr h.symm
   simp only[hp,eT,DH,if_false,ZB,dI];constructor
   ·rintro⟨h1,h2⟩;exact⟨oo,h2⟩
   rintro⟨h1,h2⟩;rcases FA (FD.1 h1)with h|h
   ·exact⟨h,h2⟩
   exact absurd (h▸h2) hp
def RJ:eM p n<2^n:=by
 refine Ss _ λi _=>?_;cases h:(eM p n).testBit i
 ·rfl
 have:=(nW.1 h).1;omega
def BO{m:Nat}(h:∀ i,m.testBit i=true↔i<n/\p i):m=eM p n:=
 KW λi=>by
   have h1:=h i;rw[<-nW]at h1;cases e1:m.testBit i<;>cases e2:(eM p n).testBit i<;>simp_all
def wN(h:∀ i,i<n->(p i↔q i)):eM p n=eM q n:=BO λi=>by
 rw[nW];exact⟨λ⟨h1,h2⟩=>⟨h1,(h i h1).1 h2⟩,λ⟨h1,h2⟩=>⟨h1,(h i h1).2 h2⟩⟩
end
end Go.Sh
namespace Go.Proofs.YtcaakhmhlfgogaaGreatDoor
open Go Go.Sh Go.Proofs
open Rep (rep)
variable {W0 w w':wD}{b i n p q:Nat}{c:aF}{op:Int}{v0:vL}
def cQ(c:aF)(i:Nat):List Nat:=
 if (bO c i).op=9 then[]else if (bO c i).op=3 then[(bO c i).to.toNat]else if (bO c i).op=2/\(bO c i).to≠(i:Int)+1 then[i+1,(bO c i).to.toNat]else[i+1]
def zZ(hc:aM c){i j:Nat}(hi:i<c.I.length)(h:j∈cQ c i):j<c.I.length/\eC c j=eC c i:=by
 have h9:=yg hc (a:=(i:Int)) oo oo;have g0:=Js hc (a:=(i:Int)) oo oo;simp only[qM]at h9 g0;unfold cQ at h;split at h
 ·cases h
 rename_i ho;have h1:=h9 ho;have e1:((i+1:Nat):Int)=(i:Int)+1:=oo;split at h
 ·rename_i h3;simp only[bF,dL,dI]at h;subst h;have h2:=g0 (.inr h3);rw[IP h2.1];exact⟨oo,h2.2.2⟩
 split at h
 ·rename_i h2;simp only[bF,dL,dI]at h;rcases h with rfl|rfl
  ·exact⟨oo,by rw[e1];exact h1.2⟩
  have h2:=g0 (.inl h2.1);rw[IP h2.1];exact⟨oo,h2.2.2⟩
 simp only[bF,dL,dI]at h;subst h;exact⟨oo,by rw[e1];exact h1.2⟩
def OE(c:aF)(i:Nat):(cQ c i).length<=2:=by
 unfold cQ;split
 ·simp
 split
 ·simp
 split<;>simp
section
variable {P:pG}{w:wD}{K:VW}
def KO(l:List Int):List vL:=l.map λx=>iV x
theorem J9{w:wD}:∀{l:List Int},(∀x∈l,bR x)->aO [] w (KO l) l
 |[],_=>⟨rfl,rfl⟩
 |x :: l,h=>⟨[],[],[iV x],KO l,rfl,rfl,⟨rfl,rfl,h x ss⟩,J9 λy hy=>h y (by simp[hy])⟩
def zFS{l:List Int}{e:Nat}(hl:∀ x∈l,bR x)(hm:l.length<=maxLen):eG w.heap.size (w.alloc (.cells (KO l).toArray e)) (.slice (some ⟨w.heap.size,0,none⟩) l.length l.length) l:=by
 have hB:cA w.heap.size e (w.alloc (.cells (KO l).toArray e)) (KO l):=heap_alloc_new w _;refine⟨[w.heap.size],⟨⟨_,⟨some ⟨w.heap.size,0,none⟩,l.length,[],KO l,rfl,lr _,hm,J9 hl,.inr ⟨_,_,rfl,rfl,hB.range,?_⟩⟩,rfl⟩,ss,λ_ hi=>?_⟩,ss⟩
 ·exact(Array.getElem?_eq_some_iff.1 hB).1
 simp only[bF,dL,dI]at hi;subst hi;exact⟨_,_,hB⟩
theorem Vz{t e:TypeId}{by_:Nat}{x y:Int}(ht:P.underlying t=some (.slice e))(he:cT P e=some (1,by_,false))(hz:kO P e=some [iV 0])(hx:bR x)(hy:bR y)
   (k:∀v w',aB w w'->eG w.heap.size w' v [x,y]->K v w'):OP P (Instr.buildSlice t 2 #[(0,iV x),(1,iV y)]) w K:=by
 unfold kO at hz;cases hi:P.info? e with
 |none=>simp[hi]at hz
 | some i=>
   simp only[hi]at hz;obtain⟨v,hv,g1⟩:=CB.1 hz;refine⟨_,w.alloc (.cells (KO [x,y]).toArray e),?_,k _ _ (oK w _) (zFS (l:=[x,y]) (e:=e) (by simp[hx,hy]) (by simp[maxLen]))⟩;have g0:v.cells=#[iV 0]:=GA (by simpa using g1);have e1:∀n:Int,(Value.int .i64 n).cells=#[iV n]:=λ_=>rfl;simp only[Instr.buildSlice,Sem.run_bind,run_underlying ht,Result.andThen_ok,qX he];have e2:Array.range 2=#[0,1]:=by decide
   simp[zeroValue,typeInfo,hi,hv,newRow,Instr.fill,g0,KO,e1,e2]
end
def Jw:kO tp 3=some [iV 0]:=by kernel_rfl
def Fk(hA:At W0 b 0 c)(e0:aB W0 w)(hc:aM c)(hi:i<c.I.length) :
   aJ tp 142 [pT b 0,iV i] w λr w'=>aB w w'/\eG w.heap.size w' r (bN (cQ c i)):=by
 refine co (g:=kf [] [] []) Tryz.func142 ?_;have:=hc.f.I;have g1:=Js hc (a:=(i:Int)) oo oo;simp only[qM]at g1;refine bZ.mk rfl<|aE mT<|aE eW<|aL eJ (fV hA) e0 λ_ g3=>bC eQ fE g3 hi λ_ _ g2=>?_;rw[oM]at g2;have C:cQ c i=if (bO c i).op=9 then[]else if (bO c i).op=3 then[(bO c i).to.toNat]else if (bO c i).op=2/\(bO c i).to≠(i:Int)+1 then[i+1,(bO c i).to.toNat]else[i+1]:=rfl;generalize bO c i=I at *;refine aL fE g2 e0 λ_ g4=>mB zL rfl fE rfl g4 e0 λ_ D g0 _=>aE lV<|aS aG (lW g0) xx λ_=>bI<|br (λc9=>?_) λc9=>?_
 ·rw[C,aP c9];exact⟨D,XO rfl⟩
 rw[aH c9]at C;refine bI<|br (λc3=>?_) λc3=>?_
 ·rw[aP c3]at C;have ht:=g1 (.inr c3);refine aE yU<|aS aG (CD g0) xx λhI=>CU (x:=I.to) bG aG z3 dD (xN hI) λv w2 M hr=>⟨xx,?_⟩;rw[C];have e:bN [I.to.toNat]=[I.to]:=by simp[bN,IP ht.1]
  rw[e];have:=D.size;exact hr.own.own.mono oo
 rw[aH c3]at C;have e1:bN [i+1]=[((i+1:Nat):Int)]:=by simp[bN]
 refine bI<|br (λc2=>?_) λc2=>?_
 ·have ht:=g1 (.inl c2);refine aE yU<|aS aG (CD g0) xx λhI=>aU<|fP<|br (λcn=>?_) λcn=>?_
  ·rw[aP ⟨c2,oo⟩]at C;refine aU<|aE yU<|aS aG (CD g0) xx λ_=>Vz bG aG Jw io hI λv w2 M hr=>⟨xx,?_⟩;have e:bN [i+1,I.to.toNat]=[((i+1:Nat):Int),I.to]:=by simp[bN,IP ht.1]
   rw[C,e];have:=D.size;exact hr.mono oo
  rw[aH (λh=>cn (by have:=h.2;omega))]at C;refine aU<|CU (x:=((i+1:Nat):Int)) bG aG z3 dD (xN io) λv w2 M hr=>⟨xx,?_⟩;rw[C,e1];have:=D.size;exact hr.own.own.mono oo
 rw[aH (λh=>c2 h.1)]at C;refine aU<|CU (x:=((i+1:Nat):Int)) bG aG z3 dD (xN io) λv w2 M hr=>⟨xx,?_⟩;rw[C,e1];have:=D.size;exact hr.own.own.mono oo
def Iy(h0:Is W0 v0 c)(e0:aB W0 w)(hc:aM c)(hi:i<c.I.length) :
   aJ tp 240 [v0,iV i] w λr w'=>aB w w'/\eG w.heap.size w' r (bN (cQ c i)):=by
 refine co (g:=kf [] [] []) Tryz.func240 ?_;have:=hc.f.I;have g1:=Js hc (a:=(i:Int)) oo oo;simp only[qM]at g1;refine iR h0 e0 λ_ g2 hA=>aE eW<|aL eJ (fV hA) xx λ_ g5=>bC eQ fE g5 hi λ_ _ g3=>?_;rw[oM]at g3;have C:cQ c i=if (bO c i).op=9 then[]else if (bO c i).op=3 then[(bO c i).to.toNat]else if (bO c i).op=2/\(bO c i).to≠(i:Int)+1 then[i+1,(bO c i).to.toNat]else[i+1]:=rfl;generalize bO c i=I at *;refine aL fE g3 xx λ_ g9=>mB zL rfl fE rfl g9 xx λ_ g4 g0 _=>?_;have:=g2.size;have:=g4.size;have D:=g2.t g4;have e1:bN [i+1]=[((i+1:Nat):Int)]:=by simp[bN]
 refine aE lV<|aS aG (lW g0) xx λ_=>bI<|br (λc2=>?_) λc2=>?_
 ·have ht:=g1 (.inl c2);rw[aH oo,aH oo]at C;refine aE yU<|aS aG (CD g0) xx λhI=>aU<|bI<|br (λcn=>?_) λcn=>?_
  ·rw[aH (λh=>h.2 oo)]at C;refine aU<|CU (x:=((i+1:Nat):Int)) bG aG z3 dD (xN io) λv w2 M hr=>⟨xx,?_⟩;rw[C,e1];exact hr.own.own.mono oo
  rw[aP ⟨c2,oo⟩]at C;refine aU<|aE yU<|aS aG (CD g0) xx λ_=>Vz bG aG Jw io hI λv w2 M hr=>⟨xx,?_⟩;have e:bN [i+1,I.to.toNat]=[((i+1:Nat):Int),I.to]:=by simp[bN,IP ht.1]
  rw[C,e];exact hr.mono oo
 refine bI<|br (λc3=>?_) λc3=>?_
 ·rw[aH oo,aP c3]at C;have ht:=g1 (.inr c3);refine aE yU<|aS aG (CD g0) xx λhI=>CU (x:=I.to) bG aG z3 dD (xN hI) λv w2 M hr=>⟨xx,?_⟩;rw[C];have e:bN [I.to.toNat]=[I.to]:=by simp[bN,IP ht.1]
  rw[e];exact hr.own.own.mono oo
 refine bI<|br (λc9=>?_) λc9=>?_
 ·rw[aP c9]at C;rw[C];refine pR (α:=Int) bG aG λa w2 M hr=>?_;have:=M.size;exact⟨xx,hr.own.own.mono oo⟩
 rw[aH c9,aH c3,aH (λh=>c2 h.1)]at C;refine aU<|CU (x:=((i+1:Nat):Int)) bG aG z3 dD (xN io) λv w2 M hr=>⟨xx,?_⟩;rw[C,e1];exact hr.own.own.mono oo
section
variable {P:pG}{w w':wD}
def KD{α:Type}[Rep α][dN α]{F:List Nat}{v:vL}{l:List α}(hm:aZ F w v l)(hl:l≠[]):∃b o cap,v=.slice (some ⟨b,o,none⟩) l.length cap/\F=[b]:=by
 obtain⟨⟨_,⟨_,cap,_,xs,rfl,_,_,hc,h4⟩,rfl⟩,_,_⟩:=hm;rcases h4 with⟨h4,_⟩|⟨b,o,rfl,rfl,_,_⟩
 ·exact absurd h4 hl
 have g0:=aO.flat (xs:=xs) hc;subst g0;exact⟨b,o,cap,rfl,rfl⟩
def oC{α:Type}[Rep α][dN α](h1:Rep.size α=1){t by_ m n i:Nat}{l:List α}{y:α}{u:vL}{K:wD->Prop}(ht:cT P t=some (1,by_,Rep.agg α))(hm:aZ [m] w (.slice (some ⟨m,0,none⟩) n n) l)(hl:l.length=n)(hi:i<n)(hu:aZ [] w u y)
   (k:∀w',cH [m] w w'->aZ [m] w' (.slice (some ⟨m,0,none⟩) n n) (l.set i y)->K w'):fA P (Instr.storeAt t (pT m (i*1)) u) w K:=by
 obtain⟨b,_,cap,_,hv,hL⟩:=Oe hm (k:=i) oo;simp only[Value.slice.injEq,iU,Addr.mk.injEq,and_true]at hv;obtain⟨⟨rfl,rfl⟩,_⟩:=hv;rw[h1,vO]at hL;refine KU (y':=y) (by rw[h1];exact ht) hL hu λw8 F' g1 g0 g2=>?_
 have g3:F'=[m]:=by
   obtain⟨b,_,cap,hv,g4⟩:=KD g0 (by intro e;have h:=cS List.length e;rw[HN,hl]at h;simp only[eU]at h;omega);subst g4;have:=g2 b ss;simpa using this
 subst g3;exact k w8 g1 g0
def oA{α:Type}[Rep α]{t e by_ m n i:Nat}{K:vL->Prop}(h1:Rep.size α=1)(ht:P.underlying t=some (.slice e))(he:cT P e=some (1,by_,Rep.agg α))(hi:i<n)(kk:K (pT m (i*1))) :
   RD P (Instr.indexAt t (.slice (some ⟨m,0,none⟩) n n) (iV i)) w K:=Ou ht he hi kk
end
structure WI(w1 w:wD)(m n lo hi:Nat)(tv:vL)(L:List Nat)(ms:List Bool):Prop where
 chg:aN m (m+1) w1 w
 row:bQ lo hi 3 w tv (bN L)
 mks:aZ [m] w (.slice (some ⟨m,0,none⟩) n n) ms
 l0:w1.heap.size<=lo
 m1:m<lo
 h2:lo<=hi
 h3:hi<=w.heap.size
section
variable {w1 w w':wD}{m n lo hi:Nat}{tv:vL}{L:List Nat}{ms:List Bool}
def WI.step(h:WI w1 w m n lo hi tv L ms)(hx:aB w w'):WI w1 w' m n lo hi tv L ms:=
 ⟨h.chg.trans hx.toI,h.row.ext hx,h.mks.ext hx,h.l0,h.m1,h.h2,eH h.h3 hx.size⟩
def WI.push{g2:vL}{x:Nat}{g0 g1:Nat}(h:WI w1 w m n lo hi tv L ms)(hc:aN lo hi w w')(hr:bQ g0 g1 3 w' g2 (bN L++[(x:Int)]))(hd:g0=lo/\g1=hi\/g0=w.heap.size/\g1=w'.heap.size) :
   WI w1 w' m n g0 g1 g2 (L++[x]) ms:=by
 have hs:=hc.size;have:=h.l0;have:=h.h2;have:=h.h3;have h4:=h.chg.size;have:=h.m1;have g3:=h.mks.lt m ss;refine⟨⟨hc.os.trans h.chg.os,hc.tape.trans h.chg.tape,hc.output.trans h.chg.output,eH h4 hs,λb hb ho=>(hc.block b (kP hb h4) oo).trans (h.chg.block b hb ho)⟩,by rw[HG];exact hr,h.mks.keep λb hb=>?_,oo,oo,oo,oo⟩;simp only[bF,dL,dI]at hb;subst hb;exact hc.block b g3 oo
def WI.mark{g1:List Bool}(h:WI w1 w m n lo hi tv L ms)(hc:cH [m] w w')(hm:aZ [m] w' (.slice (some ⟨m,0,none⟩) n n) g1):WI w1 w' m n lo hi tv L g1:=by
 have g0:aN m (m+1) w w':=hc.toI λ_ hb=>by simp only[bF,dL,dI]at hb;omega
 have h5:=h.m1;exact⟨h.chg.trans g0,h.row.chg g0 oo,hm,h.l0,h5,h.h2,eH h.h3 g0.size⟩
end
def SB:kO tp 4=some [.bool false]:=by kernel_rfl
def DC{x:Int}(lo hi:Nat)(h:bR x):aK lo hi w (iV x) x:=⟨[],xN h,ss⟩
def zD{b:Bool}:aZ [] w (.bool b) b:=⟨⟨[.bool b],⟨rfl,rfl⟩,rfl⟩,kM,Wr.nil w⟩
def W6{a:Nat}(h0:Is W0 v0 c)(e0:aB W0 w)(hc:aM c)(ha:a<c.I.length) :
   aJ tp 244 [v0,iV a] w λr w'=>aB w w'/\∃m,r=.slice (some ⟨m,0,none⟩) c.I.length c.I.length/\w.heap.size<=m/\aZ [m] w' (.slice (some ⟨m,0,none⟩) c.I.length c.I.length) (cZ c.I.length (RP (cQ c) a)):=by
 refine co (g:=kf [] [(4,36028797018899392,[6,7]),(8,36028796750529088,[6,9])] [(6,[0,1,2,3,4,5,6],0)]) Tryz.func244 ?_;have hil:=hc.f.I;have gD:=λ{i j:Nat}=>zZ hc (i:=i) (j:=j);refine iR h0 e0 λw1 gl hA=>aE eW<|aL eJ (fV hA) xx λ_ gE=>aX eQ gE ?_;generalize hn:c.I.length=n at *;refine SX (α:=Bool) eY cE rfl rfl SB oo oo λw2 gn gF=>?_;have hs1:=gl.size;have hs2:=gn.size
 have g5:aZ [w1.heap.size] w2 (.slice (some ⟨w1.heap.size,0,none⟩) n n) (List.replicate n (aV.zv:Bool)):=by
   obtain⟨_,hM,_⟩:=gF.own;obtain⟨b,_,_,hv,gp⟩:=KD hM (by intro e;have:=cS List.length e;simp at this;omega);simp only[Value.slice.injEq,iU,Addr.mk.injEq,zI,and_true]at hv;obtain⟨⟨hb,ho⟩,_⟩:=hv;rw[<-hb]at gp;rwa[gp]at hM
 have gG:(List.replicate n (aV.zv:Bool))=List.replicate n false:=rfl;rw[gG]at g5;refine CU (x:=(a:Int)) bG aG z3 dD (xN io) λgq w3 g9 gH=>?_;have gI:=g9.size;generalize hm:w1.heap.size=m at *;have gJ:WI w1 w3 m n w2.heap.size w3.heap.size gq [a] (List.replicate n false):=⟨(gn.t g9).toI,gH,g5.ext g9,oo,by have:=g5.lt m ss;omega,gI,iD _⟩;refine bV (1+n) (λh us w'=>∃(tv:vL)(lo hi:Nat)(L:List Nat)(ms:List Bool),us=[tv,iV h]/\h<=L.length/\WI w1 w' m n lo hi tv L ms/\nS (cQ c) n a (List.replicate n false) ms (L.drop h) h) 0 (z0 _) ⟨gq,_,_,[a],_,rfl,ss,gJ,nS.start ss ha⟩ ?_;rintro h mk _ w4 _ ⟨tv,lo,hi,L,ms,hu,_,g4,D⟩;obtain⟨gK,gL⟩:=dQ hu;rw[gK,gL];have gM:=D.bound;rw[wL]at gM;refine aX bG g4.row.is ?_;rw[cB];refine bM<|br (λ_=>?_) λ_=>?_
 case refine_2=>
   have gN:h=L.length:=oo;rw[gN,BA]at D;have gb:=D.fin λi hi=>absurd hi GY
   have gO:ms=cZ n (RP (cQ c) a):=DS D.len λi hi=>by
     rw[gb i];exact⟨λh=>h.resolve_left GY,.inr⟩
   rw[<-gO];have gP:aB w1 w4:=(aC w1).xI g4.chg oo;exact⟨xx,m,rfl,oo,g4.mks⟩
 have hh:h<L.length:=oo;have gQ:=cO w4;have M:=g4.step gQ;generalize World.drew1 w4=w5 at *;have gr:∀{w:wD}{lo hi tv L ms},WI w1 w m n lo hi tv L ms->aB w1 w:=λh=>(aC w1).xI h.chg oo;refine aL cP hA (gr M) λ_ gR=>bC bG aG (i:=h) M.row.is (by rw[cB];exact hh) λb1 o1 V=>?_;rw[nI]at V;refine aS aG V xx λ_=>?_;generalize hx:L[h]=x at *;have gc:L.drop h=x :: L.drop (h+1):=by rw[tD hh,hx]
 have gs:x<n:=(D.tdo x (by rw[gc];simp)).2;refine(Iy gR (gr M) hc (by rw[hn];exact gs)).mono ?_;rintro gd w6 ⟨gS,gT⟩;have hm6:=M.mks.lt m ss;have gW:mZ (cQ c) n a (List.replicate n false) ms (L.drop (h+1)) h x 0:=D.pop (λi=>by rw[gc];simp[or_comm]) (by rw[gc];simp);have hl2:=OE c x;refine bV (cQ c x).length (λq us w'=>∃(tv:vL)(lo hi:Nat)(L:List Nat)(ms:List Bool),us=[tv,iV q]/\q<=(cQ c x).length/\h<L.length/\WI w1 w' m n lo hi tv L ms/\mZ (cQ c) n a (List.replicate n false) ms (L.drop (h+1)) h x q/\aK w5.heap.size w6.heap.size w' gd (bN (cQ c x))/\(hi<=w5.heap.size\/w6.heap.size<=lo)/\w6.heap.size<=w'.heap.size) 0 (z0 _) ⟨tv,lo,hi,L,ms,rfl,z0 _,hh,(M.step gS),gW,gT.toI,.inl M.h3,iD _⟩ ?_;rintro q gt _ w7 _ ⟨gx,gy,gz,L7,O,gX,_,gY,Z,g0,g1,gZ,h4⟩;obtain⟨gf,gg⟩:=dQ gX;rw[gf,gg];refine aX bG g1.is ?_;rw[cB];refine bM<|br (λ_=>?_) λ_=>?_
 case refine_2=>refine aU<|⟨mk-1,oo,h+1,oo,gx,gy,gz,L7,O,rfl,oo,Z,g0.done oo⟩
 have hq:q<(cQ c x).length:=oo
 have gh:∀{w:wD}{K:vL->Prop}(ho:aK w5.heap.size w6.heap.size w gd (bN (cQ c x)))(k:K (iV (((cQ c x)[q]:Nat):Int))),RD tp (Instr.indexAt 31 gd (iV q)) w λh5=>RD tp (Instr.loadAt 3 h5) w K:=λho k=>by
   refine bC bG aG (i:=q) ho.is (by rw[cB];exact hq) λb1 o1 V=>?_;rw[nI]at V;exact aS aG V xx λ_=>k
 have hy:=gD gs (cY hq);refine gh g1 ?_;have C:=g0.len;refine bC eY cE Z.mks.is (by rw[C];exact hy.1) λ_ _ h6=>iY cE h6 xx<|dG ?_;have g2:=kS (ms:=O) (i:=(cQ c x)[q]) (by rw[C];exact hy.1);refine bW (λhf=>?_) λhf=>?_
 ·have gi:¬cN O (cQ c x)[q]:=by rw[g2];simpa using hf
  refine gh g1<|oA (α:=Bool) rfl eY cE hy.1<|oC (α:=Bool) rfl cE Z.mks C hy.1 zD λw8 gA h8=>?_;have gB:=Z.mark gA h8;have g3:aN m (m+1) w7 w8:=gA.toI λb hb=>by simp only[bF,dL,dI]at hb;omega
  have gC:=g1.chg g3 oo;refine gh gC ?_;have h9:=g0.push hq hy.1 gi;generalize (cQ c x)[q]=y at *
  have hLb:L7.length<=2+n:=by
    have h1:=g0.cnt;have h2:=LL O;rw[wL]at h1;omega
  refine JZ (x:=(y:Int)) bG aG z3 wQ dD gB.row (DC 0 0 io) (by rw[eB,cB];omega) (by rw[cB];omega) λhd _ he hg gj hj hk=>?_;have hr:=g3.size;refine aU<|⟨gt-1,oo,q+1,oo,hd,he,hg,L7++[y],_,rfl,oo,by simp;omega,(gB.push gj hj hk),?_,gC.chg gj oo,oo,by have:=gj.size;omega⟩;rw[Kq oo];exact h9
 have gi:cN O (cQ c x)[q]:=by rw[g2];simpa using hf
 refine aU<|⟨gt-1,oo,q+1,oo,gx,gy,gz,L7,O,rfl,oo,gY,Z,g0.skip hq gi,g1,gZ,h4⟩
section
variable {P:pG}{w:wD}{α:Type}[Rep α][dN α]{lo hi e:Nat}{v:vL}{l:List α}
def eo{t e b o n cap k by_:Nat}{K:vL->Prop}(ht:P.underlying t=some (.slice e))(he:cT P e=some (Rep.size α,by_,Rep.agg α))(hk:k<=n)(hn:n<=cap)(kk:K (.slice (some ⟨b,o,none⟩) k cap)) :
   RD P (Instr.sliceAt t (.slice (some ⟨b,o,none⟩) n cap) none (some (iV k)) none) w K:=by
 refine dY (λw' _=>?_) kk
 have g0:(Instr.sliceBounds true n cap none (some (iV k)) none).run P w'=.ok (0,k,cap) w':=by
   have h5:(k:Int)<=(cap:Int):=oo;simp[Instr.sliceBounds,Instr.sliceBound,asIntOf,h5];intro _;omega
 simp only[Instr.sliceAt,Instr.slice,Sem.run_bind,run_underlying ht,Result.andThen_ok,g0,qX he];simp[Addr.add_mid]
def zCj(h:bQ lo hi e w v l)(hl:l≠[]){k:Nat}(hk:k<=l.length):∃g cap,v=.slice (some ⟨g,0,none⟩) l.length cap/\l.length<=cap/\bQ lo hi e w (.slice (some ⟨g,0,none⟩) k cap) (l.take k):=by
 rcases h with⟨_,_,h⟩|⟨F,⟨xs,_,⟨g0,ho⟩,hc,hF,_⟩,hn,hb⟩
 ·exact absurd h hl
 rcases ho with⟨_,h0⟩|⟨g,cap,cur,rfl,_,hg,h1,h2,h3,h4⟩
 ·exact absurd (qC h0) hl
 refine⟨g,cap,rfl,h1,.inr ⟨F,⟨xs.take (k*Rep.size α),[],⟨?_,.inr ⟨g,cap,cur,?_,z0 _,hg,by rw[fY];omega,h2,h3,?_⟩⟩,?_,?_,Wr.nil w⟩,hn,hb⟩⟩
 ·rw[fY,fY,g0,GJ hk];exact GJ (IK _ hk)
 ·rw[fY,GJ hk]
 ·rw[fY,GJ hk,<-h4,List.take_take,GJ (IK _ hk)]
 ·have e1:l=l.take k++l.drop k:=by simp
  have g1:=aO.flat (xs:=xs) hc;subst g1;rw[e1]at hc;obtain⟨_,_,x1,_,_,g2,c1,_⟩:=aO.split hc;have g4:=aO.flat (xs:=x1) c1;subst g4;have g3:=aO.len c1;rw[fY,GJ hk]at g3;rw[g2,SF g3];exact c1
 have g1:=aO.flat (xs:=xs) hc;subst g1;rw[hF];rfl
end
def yr{a:Nat}(h0:Is W0 v0 c)(e0:aB W0 w)(hc:aM c)(ha:a<c.I.length) :
   aJ tp 244 [v0,iV a] w λr w'=>aB w w'/\eG w.heap.size w' r (cZ c.I.length (RP (cQ c) a)):=
 (W6 h0 e0 hc ha).mono λr w' ⟨hx,m,hr,hm,hM⟩=>⟨hx,[m],by rw[hr];exact hM,λb hb=>by simp only[bF,dL,dI]at hb;omega⟩
def GO(W0 w:wD)(b:Nat)(c:aF):Prop:=∃F cs,Rep.rep F W0 cs c/\w.rangeAt b 0 cs/\b<w.heap.size
def GO.at(h:GO W0 w b c)(hx:aB W0 w):At w b 0 c:=by
 obtain⟨F,cs,hr,hc,_⟩:=h;exact⟨F,cs,rH hr hx,hc⟩
def GO.keep(h:GO W0 w b c)(hb:w'.heap[b]?=w.heap[b]?)(hs:w.heap.size<=w'.heap.size):GO W0 w' b c:=by
 obtain⟨F,cs,hr,hc,_⟩:=h;exact⟨F,cs,hr,yT hc hb,oo⟩
def GO.lt(h:GO W0 w b c):b<w.heap.size:=by obtain⟨_,_,_,_,h⟩:=h;exact h
def Zv{b m n a:Nat}{M:List Bool}(hk:GO W0 w b c)(e0:aB W0 w)(hc:aM c)(hn:c.I.length=n)(ha:a<n)(hM:aZ [m] w (.slice (some ⟨m,0,none⟩) n n) M)(hl:M.length=n)(h0:W0.heap.size<=m)(hb:b≠m)
   (gb:∀i,cN M i->i≠a->∀j∈cQ c i,cN M j) :
   aJ tp 75 [pT b 0,.slice (some ⟨m,0,none⟩) n n,iV a] w λr w'=>r=.tuple #[]/\aN m (m+1) w w'/\aZ [m] w' (.slice (some ⟨m,0,none⟩) n n) (cZ n λi=>cN M i\/RP (cQ c) a i):=by
 refine co (g:=kf [] [(1,140737488351936,[6]),(5,140736414614080,[6,30])] []) Tryz.func75 ?_;have gE:=hc.f.I;have gi:=λ{i j:Nat}=>zZ hc (i:=i) (j:=j);rw[hn]at gi gE;refine CU (x:=(a:Int)) bG aG z3 dD (xN io) λgj w1 g5 gF=>?_;have gG:WI w w1 m n w.heap.size w1.heap.size gj [a] M:=⟨g5.toI,gF,hM.ext g5,lr _,hM.lt m ss,g5.size,iD _⟩;have gH:∀{w':wD}{lo hi tv L ms},WI w w' m n lo hi tv L ms->At w' b 0 c:=λh=>(hk.keep (h.chg.block b hk.lt oo) h.chg.size).at (e0.xI h.chg h0);refine bV (1+n) (λh us w'=>∃(tv:vL)(lo hi:Nat)(L:List Nat)(ms:List Bool),us=[tv]/\WI w w' m n lo hi tv L ms/\nS (cQ c) n a M ms L h) 0 (z0 _) ⟨gj,_,_,[a],_,rfl,gG,nS.start hl ha⟩ ?_;rintro h mk _ w4 _ ⟨tv,lo,hi,L,ms,hu,C,O⟩;try replace hu:=cJ hu
 rw[hu];have hb4:=O.bound;refine aX bG C.row.is ?_;rw[cB];refine oN<|br (λ_=>?_) λ_=>?_
 case refine_2=>have gI:L=[]:=qC oo;rw[gI]at O;have g9:=O.fin gb;have gJ:ms=cZ n (λi=>cN M i\/RP (cQ c) a i):=DS O.len λi hi=>g9 i;rw[<-gJ];exact⟨rfl,C.chg,C.mks⟩
 obtain⟨z,hz⟩:∃z,L.length=z+1:=⟨L.length-1,oo⟩;have gl:z<L.length:=oo;have gK:bN L≠[]:=λe=>by have:=cS List.length e;rw[cB,hz]at this;cases this
 refine aX bG C.row.is ?_;rw[cB];refine kQ io ?_;have ez:(L.length:Int)-1=(z:Int):=oo;rw[ez];refine bC bG aG (i:=z) C.row.is (by rw[cB];exact gl) λ_ _ gn=>?_;rw[nI]at gn;refine aS aG gn xx λ_=>?_;generalize hx:L[z]=x at *;refine aX bG C.row.is ?_;rw[cB];refine kQ io ?_;rw[ez];obtain⟨g,cap,gp,g0,gq⟩:=zCj C.row gK (k:=z) (by rw[cB];omega);rw[cB]at gp g0;rw[gp];refine eo (α:=Int) bG aG oo g0 ?_
 have gr:L=L.take z++[x]:=by
   have:=tk gl;rw[<-hz,sF,hx]at this;exact this
 rw[<-zzV]at gq;have g4:WI w w4 m n lo hi (.slice (some ⟨g,0,none⟩) z cap) (L.take z) ms:=⟨C.chg,gq,C.mks,C.l0,C.m1,C.h2,C.h3⟩;have gs:x<n:=(O.tdo x (by rw[gr];simp)).2;refine(Fk (gH g4) xx hc (by rw[hn];exact gs)).mono ?_;rintro gL w6 ⟨gM,gt⟩;have hm6:=g4.mks.lt m ss
 have gP:∀i,i∈L↔i∈L.take z\/i=x:=λi=>by
   have:i∈L↔i∈L.take z++[x]:=by rw[<-gr]
   rw[this];simp
 have gQ:mZ (cQ c) n a M ms (L.take z) h x 0:=O.pop gP (by rw[fY];omega);have hl2:=OE c x;refine aX bG gt.is ?_;rw[cB];refine bV (cQ c x).length (λq us w'=>∃(tv:vL)(lo hi:Nat)(L:List Nat)(ms:List Bool),us=[tv,iV q]/\q<=(cQ c x).length/\WI w w' m n lo hi tv L ms/\mZ (cQ c) n a M ms L h x q/\aK w4.heap.size w6.heap.size w' gL (bN (cQ c x))/\(hi<=w4.heap.size\/w6.heap.size<=lo)/\w6.heap.size<=w'.heap.size) 0 (z0 _) ⟨_,lo,hi,_,ms,rfl,z0 _,(g4.step gM),gQ,gt.toI,.inl g4.h3,iD _⟩ ?_;rintro q gx _ w7 _ ⟨gy,gz,gA,L7,V,gR,_,Z,g1,gc,gS,gT⟩;obtain⟨gd,gf⟩:=dQ gR;rw[gd,gf];refine bM<|br (λ_=>?_) λ_=>?_
 case refine_2=>exact⟨mk-1,oo,h+1,oo,gy,gz,gA,L7,V,rfl,Z,g1.done oo⟩
 have hq:q<(cQ c x).length:=oo;have hy:=gi gs (cY hq);refine bC bG aG (i:=q) gc.is (by rw[cB];exact hq) λ_ _ gB=>?_;rw[nI]at gB;refine aS aG gB xx λ_=>?_;have D:=g1.len;refine bC eY cE Z.mks.is (by rw[D];exact hy.1) λ_ _ gU=>iY cE gU xx<|dG ?_;have g2:=kS (ms:=V) (i:=(cQ c x)[q]) (by rw[D];exact hy.1);refine bW (λhf=>?_) λhf=>?_
 ·have gg:¬cN V (cQ c x)[q]:=by rw[g2];simpa using hf
  refine oA (α:=Bool) rfl eY cE hy.1<|oC (α:=Bool) rfl cE Z.mks D hy.1 zD λw8 gC gV=>?_;have gD:=Z.mark gC gV;have g3:aN m (m+1) w7 w8:=gC.toI λb hb=>by simp only[bF,dL,dI]at hb;omega
  have gW:=gc.chg g3 oo;have gX:=g1.push hq hy.1 gg;generalize (cQ c x)[q]=y at *
  have hLb:L7.length<=2+n:=by
    have h1:=g1.cnt;have h2:=LL V;omega
  refine JZ (x:=(y:Int)) bG aG z3 wQ dD gD.row (DC 0 0 io) (by rw[eB,cB];omega) (by rw[cB];omega) λgY _ gZ h4 gh h5 h6=>?_;have h9:=g3.size;refine aU<|⟨gx-1,oo,q+1,oo,gY,gZ,h4,L7++[y],_,rfl,oo,(gD.push gh h5 h6),gX,gW.chg gh oo,oo,by have:=gh.size;omega⟩
 have gg:cN V (cQ c x)[q]:=by rw[g2];simpa using hf
 refine aU<|⟨gx-1,oo,q+1,oo,gy,gz,gA,L7,V,rfl,oo,Z,g1.skip hq gg,gc,gS,gT⟩
def IH(ms:List Bool)(n:Nat):List Nat:=(List.range n).filter λi=>ms.getD i false
def Ab(ms:List Bool)(n:Nat):IH ms (n+1)=IH ms n++(if ms.getD n false then[n]else[]):=by
 simp only[IH,HA,JL,List.filter_cons,List.filter_nil]
def St(ms:List Bool)(n:Nat):(IH ms n).length<=n:=eH (TR _ _) ss
def YL(n:Nat)(p:Nat->Prop):IH (cZ n p) n=cC n p:=by
 refine List.filter_congr λi hi=>?_;have g0:=rC.1 hi;have:=lY (n:=n) (p:=p) (i:=i);unfold cN at this;by_cases h:p i
 ·rw[this.2 ⟨g0,h⟩];simp[h]
 have h2:(cZ n p).getD i false≠true:=λe=>h (this.1 e).2;simp only[h,eT];cases hh:(cZ n p).getD i false
 ·rfl
 exact absurd hh h2
def Bo{ms:List Bool}(h0:Is W0 v0 ms)(e0:aB W0 w)(hn:ms.length<=1000000) :
   aJ tp 236 [v0] w λr w'=>aB w w'/\eG w.heap.size w' r (bN (IH ms ms.length)):=by
 refine co (g:=kf [] [(3,1048536,[3,4])] []) Tryz.func236 ?_;refine pR (α:=Int) bG aG λ_ _ g1 g3=>?_;refine bV ms.length (λk us w'=>∃(v:vL),us=[v,iV k]/\k<=ms.length/\aB w w'/\bQ w.heap.size w'.heap.size 3 w' v (bN (IH ms k))) 0 (z0 _) ⟨_,rfl,z0 _,g1,g3.mono g1.size (lr _)⟩ ?_;rintro k mk _ w2 _ ⟨v,hu,_,C,g0⟩;obtain⟨g5,g9⟩:=dQ hu;rw[g5,g9];refine aX eY h0<|bM<|br (λ_=>?_) λ_=>?_
 case refine_2=>
   have:k=ms.length:=oo;rw[this]at g0;exact⟨C,g0.own.own⟩
 have hk:k<ms.length:=oo;have g2:=C.size;have hg:ms.getD k false=ms[k]:=by rw[List.getD_eq_getElem?_getD,List.getElem?_eq_getElem hk];rfl
 have hil:=St ms k;refine bC eY cE h0 hk λ_ _ gb=>iY cE gb xx<|bW (λhf=>?_) λhf=>?_
 ·refine oS (lo2:=w2.heap.size) (hi2:=w2.heap.size) (x:=(k:Int)) bG aG z3 wQ dD g0 g2 (DC _ _ io) (lr _) g2 (by rw[eB,cB];omega) (by rw[cB];omega) λgc _ gd gf=>?_;refine aU<|⟨mk-1,oo,k+1,oo,gc,rfl,oo,C.xI gd (lr _),?_⟩;rw[Ab,hg,hf,aP rfl,HG];exact gf
 refine aU<|⟨mk-1,oo,k+1,oo,v,rfl,oo,C,?_⟩;rw[Ab,hg,hf];simpa using g0
def dE(c:aF)(p:Nat)(i:Nat):Prop:=i=(en c p).toNat\/RP (cQ c) (en c p).toNat i
def WD(h0:Is W0 v0 c)(e0:aB W0 w)(hc:aM c)(hp:p<c.E.length) :
   aJ tp 291 [v0,iV p] w λr w'=>aB w w'/\eG w.heap.size w' r (cZ c.I.length (dE c p)):=by
 refine co (g:=kf [] [] [(1,[0,1,2,3,4,5,6,7],0)]) Tryz.func291 ?_;have:=Rk hc hp;refine iR h0 e0 λw1 g4 hA=>?_;have C:=cO w1;generalize World.drew1 w1=w2 at *;have:=g4.size;have:=C.size;obtain⟨a,g0⟩:∃a:Nat,en c p=(a:Int):=⟨(en c p).toNat,oo⟩
 have gc:dE c p=λi=>i=a\/RP (cQ c) a i:=by
   funext i;unfold dE;rw[g0];rfl
 have ha:a<c.I.length:=oo;rw[gc];refine aL cP hA C λ_ h6=>aE kJ<|aL dT (lJ hA) C λ_ h8=>bC bG aG h8 hp λ_ _ g5=>?_;rw[mP hp,g0]at g5;refine aS aG g5 C λ_=>(W6 h6 C hc ha).mono ?_;rintro _ w3 ⟨g1,m,rfl,_,hM⟩;refine aE kJ<|aL dT (lJ hA) xx λ_ gd=>bC bG aG gd hp λ_ _ g9=>?_;rw[mP hp,g0]at g9;refine aS aG g9 xx λ_=>oA (α:=Bool) rfl eY cE ha<|oC (α:=Bool) rfl cE hM dZ ha zD λw4 gf gb=>?_
 have g2:(cZ c.I.length (RP (cQ c) a)).set a true=cZ c.I.length (λi=>i=a\/RP (cQ c) a i):=DS (by rw[HN,dZ]) λi hi=>by
   rw[wI (by rw[dZ];exact ha),lY];constructor
   ·rintro(⟨_,h⟩|h)
    ·exact .inr h
    exact .inl h
   rintro(h|h)
   ·exact .inr h
   exact .inl ⟨hi,h⟩
 rw[g2]at gb;have g3:aN m (m+1) w3 w4:=gf.toI λb hb=>by simp only[bF,dL,dI]at hb;omega
 exact⟨((g4.t C).trans g1).xI g3 oo,[m],gb,λb hb=>by simp only[bF,dL,dI]at hb;omega⟩
def JC{K:VW}(h0:0<n)(hn:n<=1000000)
   (k:∀w',aB w w'->aZ [w.heap.size] w' (.slice (some ⟨w.heap.size,0,none⟩) n n) (List.replicate n false)->K (.slice (some ⟨w.heap.size,0,none⟩) n n) w'):OP tp (Instr.makeSlice 125 (iV n) (iV n)) w K:=
 SX (α:=Bool) eY cE rfl rfl SB oo oo λw2 hx2 hr2=>by
   refine k w2 hx2 ?_;obtain⟨F,hM,hF⟩:=hr2.own;obtain⟨b,o,cap,hv,hF2⟩:=KD hM (by intro e;have:=cS List.length e;simp at this;omega);simp only[Value.slice.injEq,iU,Addr.mk.injEq,zI,and_true]at hv;obtain⟨⟨hb,ho⟩,_⟩:=hv;rw[<-hb]at hF2;rw[hF2]at hM;exact hM
def XL(n:Nat){p:Nat->Prop}(h:∀ i,¬p i):List.replicate n false=cZ n p:=
 DS ss λi _=>⟨λh=>absurd h GY,λhp=>absurd hp (h i)⟩
def Xu{p p':Nat->Prop}(hq:q<n)(h:∀ i,p' i↔p i\/i=q):(cZ n p).set q true=cZ n p':=
 DS (by rw[HN,dZ]) λi hi=>by
   rw[wI (by rw[dZ];exact hq),lY,h];exact⟨λh=>h.imp (·.2) id,λh=>h.imp (λh=>⟨hi,h⟩) id⟩
def rY(c:aF)(p:Nat)(op:Int)(q:Nat):Prop:=∃i,i<c.I.length/\dE c p i/\(bO c i).op=op/\(bO c i).arg=(q:Int)
def Ms(h0:Is W0 v0 c)(e0:aB W0 w)(hc:aM c)(hp:p<c.E.length)(hop:op=4\/op=5) :
   aJ tp 242 [v0,iV p,iV op] w λr w'=>aB w w'/\eG w.heap.size w' r (bN (cC c.P.length (rY c p op))):=by
 refine co (g:=kf [] [(4,70368744047104,[9])] []) Tryz.func242 ?_;have hil:=hc.f.I;have h8:=hc.1.p8;refine iR h0 e0 λw1 gb hA=>aL cP hA xx λ_ gj=>(WD gj xx hc hp).mono λ_ w2⟨g2,gl⟩=>aE lQ<|aL dC (nF hA) g2 λ_ gn=>aX cL gn ?_;have hs1:=gb.size;have hs2:=g2.size;refine JC h8.2 oo λw3 gc gd=>?_;have gp:=gl.toI.ext gc;have g3:=g2.t gc;generalize hm:w2.heap.size=m at *;rw[XL c.P.length (p:=λq=>∃i,i<0/\dE c p i/\(bO c i).op=op/\(bO c i).arg=(q:Int)) (λi ⟨_,h,_⟩=>oo)]at gd;refine bV c.I.length (λk us w'=>us=[iV k]/\k<=c.I.length/\aN m (m+1) w3 w'/\aZ [m] w' (.slice (some ⟨m,0,none⟩) c.P.length c.P.length) (cZ c.P.length λq=>∃i,i<k/\dE c p i/\(bO c i).op=op/\(bO c i).arg=(q:Int))) 0 (z0 _) ⟨rfl,z0 _,aN.refl _,gd⟩ ?_;rintro k mk _ w4 _ ⟨hu,_,D,M⟩;try replace hu:=cJ hu
 rw[hu];have C:aB w1 w4:=g3.xI D oo;have gq:=gp.chg D oo;refine aE eW<|aL eJ (fV hA) C λ_ gr=>aX eQ gr<|bM<|br (λ_=>?_) λ_=>?_
 case refine_2=>
   have gs:k=c.I.length:=oo;rw[gs]at M;refine(Bo M.is xx (by rw[dZ];omega)).mono ?_;rintro r w5 ⟨gt,gf⟩;rw[dZ,YL]at gf;have hsz:=C.size;exact⟨(gb.t C).trans gt,gf.mono oo⟩
 have hk:k<c.I.length:=oo
 have gg:¬(dE c p k/\(bO c k).op=op)->(cZ c.P.length λq=>∃i,i<k/\dE c p i/\(bO c i).op=op/\(bO c i).arg=(q:Int))=cZ c.P.length λq=>∃i,i<k+1/\dE c p i/\(bO c i).op=op/\(bO c i).arg=(q:Int):=λhn=>rA λq _=>by
   constructor
   ·rintro⟨i,h1,h2⟩;exact⟨i,oo,h2⟩
   rintro⟨i,h1,h2,h3,h4⟩;by_cases h:i=k
   ·subst h;exact absurd ⟨h2,h3⟩ hn
   exact⟨i,oo,h2,h3,h4⟩
 refine bC eY cE (i:=k) gq.is (by rw[dZ];exact hk) λ_ _ gx=>iY cE gx xx ?_;have g4:=lY (n:=c.I.length) (p:=dE c p) (i:=k);rw[kS (by rw[dZ];exact hk)]at g4;refine bW (λhf=>?_) λhf=>?_
 case refine_2=>refine aU<|⟨mk-1,oo,k+1,oo,rfl,oo,D,?_⟩;rw[<-gg λh=>by rw[g4.2 ⟨hk,h.1⟩]at hf;cases hf];exact M
 have g0:=(g4.1 hf).2;refine aE eW<|aL eJ (fV hA) C λ_ gy=>bC eQ fE gy hk λ_ _ gh=>?_;rw[oM]at gh;refine aE lV<|aS aG (lW gh) C λ_=>bI<|br (λho=>?_) λho=>?_
 case refine_2=>refine aU<|⟨mk-1,oo,k+1,oo,rfl,oo,D,?_⟩;rw[<-gg λh=>ho h.2];exact M
 have g1:=(Cy hc hk).2.1;unfold tU at g1;rw[aH oo,aP oo]at g1;obtain⟨q,hq⟩:∃q:Nat,(bO c k).arg=(q:Int):=⟨(bO c k).arg.toNat,oo⟩;have g5:q<c.P.length:=oo;refine aE eW<|aL eJ (fV hA) C λ_ gz=>bC eQ fE gz hk λ_ _ gi=>?_;rw[oM]at gi;refine aE mE<|aS aG (mF gi) C λ_=>?_;rw[hq];refine oA (α:=Bool) rfl eY cE g5<|oC (α:=Bool) rfl cE M dZ g5 zD λw5 gA gB=>?_;have g9:aN m (m+1) w4 w5:=gA.toI λ_ hb=>by simp only[bF,dL,dI]at hb;omega
 refine aU<|⟨mk-1,oo,k+1,oo,rfl,oo,D.trans g9,?_⟩;rw[<-Xu (p:=λq=>∃i,i<k/\dE c p i/\(bO c i).op=op/\(bO c i).arg=(q:Int)) g5 λr=>?_]
 ·exact gB
 constructor
 ·rintro⟨i,h1,h2,h3,h4⟩;by_cases h:i=k
  ·subst h;right;omega
  exact .inl ⟨i,oo,h2,h3,h4⟩
 rintro(⟨i,h1,h2⟩|rfl)
 ·exact⟨i,oo,h2⟩
 exact⟨k,oo,g0,ho,hq⟩
end Go.Proofs.YtcaakhmhlfgogaaGreatDoor
namespace Go.Sh
variable {i k m:Nat}
def sH(m n:Nat):Nat:=Nat.bitwise (λa b=>a&&!b) m n
def AE(m n i:Nat):(sH m n).testBit i=(m.testBit i&&!n.testBit i):=Nat.testBit_bitwise rfl m n i
def PP(m n:Nat):sH m n<=m:=Nat.le_of_testBit λi h=>by rw[AE]at h;simp at h;exact h.1
section
variable {P:pG}{w:wD}{K:vL->Prop}{t:TypeId}{x y:Operand}
def xV{m n:Nat}(hm:m<4611686018427387904)(hn:n<4611686018427387904)(k:K (iV ((m &&& n:Nat):Int))):RD P (bin .and t x y (iV m) (iV n)) w K:=by
 have:m &&& n<=m:=AG;refine dY (λw' _=>?_) k;have e1:IntKind.i64.wrap ((m &&& n:Nat):Int)=((m &&& n:Nat):Int):=IntWalk.i64_in _ oo
 have e2:((BitVec.ofInt 64 (m:Int)) &&& (BitVec.ofInt 64 (n:Int))).toNat=m &&& n:=by
   simp only[BitVec.toNat_and,BitVec.ofInt_natCast,BitVec.toNat_ofNat];rw[EF oo,EF oo]
 show(do eqGuard .and t x y (iV m) (iV n);binOp .and t (iV m) (iV n):Sem vL).run P w'=_;simp only[eqGuard,binOp,Op.intBits];show Result.ok (Value.int .i64 (IntKind.i64.wrap (((BitVec.ofInt 64 (m:Int)) &&& (BitVec.ofInt 64 (n:Int))).toNat:Nat))) w'=_;rw[e2,e1]
def VR{m n:Nat}(hm:m<4611686018427387904)(hn:n<4611686018427387904)(k:K (iV ((sH m n:Nat):Int))):RD P (bin .andNot t x y (iV m) (iV n)) w K:=by
 have hlt:sH m n<=m:=PP m n;refine dY (λw' _=>?_) k;have e1:IntKind.i64.wrap ((sH m n:Nat):Int)=((sH m n:Nat):Int):=IntWalk.i64_in _ oo
 have e2:((BitVec.ofInt 64 (m:Int)) &&& ~~~(BitVec.ofInt 64 (n:Int))).toNat=sH m n:=by
   apply KW;intro i;have g0:m<2^64:=oo;simp only[BitVec.testBit_toNat,BitVec.getLsbD_and,BitVec.getLsbD_not,BitVec.ofInt_natCast,BitVec.getLsbD_ofNat,AE];by_cases hi:i<64
   ·simp[hi]
   have:m.testBit i=false:=PE (kP g0 (tX oo oo));simp[hi,this]
 show(do eqGuard .andNot t x y (iV m) (iV n);binOp .andNot t (iV m) (iV n):Sem vL).run P w'=_;simp only[eqGuard,binOp,Op.intBits];show Result.ok (Value.int .i64 (IntKind.i64.wrap (((BitVec.ofInt 64 (m:Int)) &&& ~~~(BitVec.ofInt 64 (n:Int))).toNat:Nat))) w'=_;rw[e2,e1]
def K2{m n:Nat}{ku:IntKind}(hm:m<4611686018427387904)(k:K (iV ((m >>> n:Nat):Int))):RD P (bin .shr t x y (iV m) (.int ku (n:Int))) w K:=by
 refine dY (λw' _=>?_) k;have e0:¬((n:Int)<0):=oo
 have e1:(m:Int).fdiv (2^(min n 64))=((m >>> n:Nat):Int):=by
   rw[QL];have h2:((2:Int)^(min n 64))=((2^(min n 64):Nat):Int):=by simp
   rw[h2,Vc _ (Int.natCast_nonneg _),<-Int.natCast_ediv];by_cases h:n<=64
   ·rw[GJ h]
   rw[Nat.min_eq_right oo,WP oo,WP (kP (by omega:m<2^64) (tX oo oo))]
 show(do eqGuard .shr t x y (iV m) (.int ku (n:Int));binOp .shr t (iV m) (.int ku (n:Int)):Sem vL).run P w'=_;simp only[eqGuard,binOp,Op.shift,e0,if_false,qM];show Result.ok (Value.int .i64 ((m:Int).fdiv (2^(min n 64)))) w'=_;rw[e1]
end
def uQ(m:Nat):Nat->List Int
 |0=>[]
 |k+1=>if m.testBit k then uQ m k++[(k:Int)]else uQ m k
theorem YA(m:Nat):∀k,(uQ m k).length<=k
 |0=>iD _
 | k+1=>by
   have:=YA m k;rw[uQ];split
   ·simp;omega
   omega
theorem Sf{m k:Nat}(h:m<2^k):∀{j:Nat},k<=j->uQ m j=uQ m k
 |0,hj=>by rw[Nat.le_zero.1 hj]
 | j+1,hj=>by
   by_cases e:k=j+1
   ·rw[e]
   rw[uQ,aH,Sf h oo];rw[PE (kP h (tX oo oo))];simp
def iK(m:Nat):List Int:=uQ m 64
def Gl(h:m<2^k)(hk:k<=64):iK m=uQ m k:=Sf h hk
theorem KM{m:Nat}{x:Int}:∀{k:Nat},x∈uQ m k↔∃i,i<k/\x=(i:Int)/\m.testBit i=true
 |0=>by simp[uQ]
 | k+1=>by
   rw[uQ];constructor
   ·intro h;split at h
    ·rename_i hb;rcases dF.1 h with h|h
     ·obtain⟨i,h1,h2,h3⟩:=KM.1 h;exact⟨i,oo,h2,h3⟩
     simp at h;exact⟨k,oo,h,hb⟩
    obtain⟨i,h1,h2,h3⟩:=KM.1 h;exact⟨i,oo,h2,h3⟩
   rintro⟨i,h1,h2,h3⟩;by_cases e:i=k
   ·subst e;rw[aP h3];simp[h2]
   have:=(KM (m:=m) (x:=x) (k:=k)).2 ⟨i,oo,h2,h3⟩;split
   ·simp[this]
   exact this
def A4(m i:Nat):decide (((m >>> i &&& 1:Nat):Int)=1)=m.testBit i:=by
 have h:m >>> i &&& 1=(m.testBit i).toNat:=by
   rw[Ln,Nat.testBit_eq_decide_div_mod_eq,QL];rcases X1 (m / 2^i)with h|h<;>simp[h]
 rw[h];cases m.testBit i<;>rfl
theorem zCl(m i:Nat):decide (((m &&& 2^i:Nat):Int)≠0)=m.testBit i:=by
 cases hb:m.testBit i with
 | false=>
   have:m &&& 2^i=0:=by
     apply KW;intro j;rw[wO,AQ];by_cases e:i=j
     ·subst e;simp[hb]
     simp[e]
   simp[this]
 | true=>
   have:m &&& 2^i≠0:=λe=>by
     have:=cS (·.testBit i) e;simp[wO,AQ,hb]at this
   simp only[ne_eq,lZ];omega
def O9:m >>> i=0↔m<2^i:=by
 rw[QL,Nat.div_eq_zero_iff];have:¬(2^i=0):=by have:0<2^i:=Nat.pow_pos oo;omega
 simp[this]
end Go.Sh
namespace Go.Proofs.YtcaakhmhlfgogaaGreatDoor
open Go Go.Sh Go.Proofs
open Rep (rep)
variable {C F G out:List Nat}{K:vL->Prop}{P:pG}{W0 W1 w:wD}{a op:Int}{ag:Bool}{b h i j k l m n o p q r:Nat}{c:aF}{v0 v1:vL}
def QN  (hm:m<4611686018427387904)(hi:i<4611686018427387904) :
   aJ tp 212 [iV m,iV i] w λr w'=>aB w w'/\(r=.bool (m.testBit i)):=by
 refine co (g:=kf [] [] []) Tryz.func212 ?_;refine sN kK sR oo<|K2 oo<|xV (n:=1) (uU (Nat.shiftRight_le m i) hm) oo<|bI<|⟨xx,?_⟩;rw[A4]
def JO  (hm:m<4611686018427387904) :
   aJ tp 161 [iV m] w λr w'=>aB w w'/\(eG w.heap.size w' r (iK m)):=by
 refine co (g:=kf [] [(3,524280,[3,4])] []) Tryz.func161 ?_;refine bV (62) (λk us w'=>∃v:vL,us=[v,iV k]/\aB w w'/\(bQ w.heap.size w'.heap.size 3 w' v (uQ m k))) (0) oo ⟨_,rfl,xx,uC _ _ _ _⟩ ?_;rintro k m3 _ _ _ ⟨_,hu,y1,C⟩;have σ1:=y1.size;obtain⟨g1,g2⟩:=dQ hu;try rw[g1]
 try rw[g2]
 try clear g1 g2
 have:=YA m k;refine sN kK sR oo<|K2 oo<|fP<|br (λc1=>?_) λc1=>?_
 ·have:k<62:=by
    rcases kR k 62 with h|h
    ·exact h
    have h1:m<2^k:=kP (show m<2^62 by omega) (tX oo h);exact absurd (by rw[O9.2 h1];rfl) c1
  refine(QN oo oo).mM λg3 y2=>?_;have σ2:=y2.size;refine bW (λc2=>?_) λc2=>?_
  ·refine oS (α:=Int) bG aG z3 wQ dD (C.ext y2) oo (ownI_int (lo:=g3.heap.size) (hi:=g3.heap.size) (by first|assumption|(unfold bR at *;omega))) oo oo (by rw[eB];omega) oo λ_ _ g0 g4=>?_;refine aU<|⟨m3-1,oo,k+1,oo,_,rfl,(aB.xI xx g0 oo),?_⟩;rw[uQ,aP c2];exact g4
  refine aU<|⟨m3-1,oo,k+1,oo,_,rfl,xx,?_⟩;rw[uQ,aH (by simp[c2])];exact(C.ext y2).mono oo oo
 refine⟨y1,?_⟩;have h1:m >>> k=0:=by have:=eK.1 c1;omega
 rw[Gl (O9.1 h1) oo];exact C.own.own
def PQ  (hi:i<62) :
   aJ tp 238 [iV i] w λr w'=>aB w w'/\(r=iV ((2^i:Nat):Int)):=by
 refine co (g:=kf [] [] []) Tryz.func238 ?_;refine sN kK sR oo<|DM oo<|⟨xx,?_⟩;rfl
def vt  (hm:m<4611686018427387904)(hi:i<62) :
   aJ tp 246 [iV m,iV i] w λr w'=>aB w w'/\(r=.bool (m.testBit i)):=by
 refine co (g:=kf [] [] []) Tryz.func246 ?_;refine(PQ oo).mM λ_ y1=>?_;have:2^i<4611686018427387904:=kP (CX oo hi) (by omega:2^62<=4611686018427387904);refine xV oo oo<|fP<|⟨y1,?_⟩;rw[zCl]
def Ts    :
   aJ tp 293 [iV a] w λr w'=>aB w w'/\(r=.bool (decide (0<=a/\a<=63))):=by
 refine co (g:=kf [] [] []) Tryz.func293 ?_;refine(eS ).mM λ_ y1=>?_;refine⟨y1,?_⟩;rfl
def Nl(hm:m<64)(hi:i<6):m ||| 2^i<64:=zO (n:=6) hm (CX oo hi)
def pN(sets:List Nat)(l:List Int):Nat:=l.foldl (λa i=>a ||| sets.getD i.toNat 0) 0
def zf(C:List Nat)(l:List Int)(i:Int):pN C (l++[i])=pN C l ||| C.getD i.toNat 0:=by simp[pN]
def Cu(hs:∀ x∈C,x<256)(l:List Int):pN C l<256:=by
 have g0:∀(l:List Int)(a:Nat),a<256->l.foldl (λa i=>a ||| C.getD i.toNat 0) a<256:=λl=>by
   induction l with
   |nil=>exactλa h=>h
   | cons i l ih=>
     intro a ha;rw[HR];refine ih _ (zO (n:=8) ha ?_);rw[List.getD_eq_getElem?_getD];cases h:C[i.toNat]? with
     |none=>simp
     |some x=>exact hs x (List.mem_of_getElem? h)
 exact g0 l 0 oo
def Ce(h0:Is W0 v0 (bN C))(e0:aB W0 w)(hs:∀ x∈C,x<256)(hl:C.length<=8)(hm:m<2^C.length) :
   aJ tp 144 [v0,iV m] w λr w'=>aB w w'/\r=iV (pN C (iK m):Nat):=by
 refine co (g:=kf [] [(3,4192416,[5,11])] []) Tryz.func144 ?_;have gb:2^C.length<=2^8:=tX oo hl;refine(JO (m:=m) oo).mono ?_;rintro _ w1 ⟨g3,g4⟩;have hbl:(iK m).length<=64:=YA m 64;refine aX bG g4.is<|bV (iK m).length (λk us w'=>us=[iV ((pN C ((iK m).take k):Nat):Int),iV k]/\k<=(iK m).length/\aB w1 w') 0 (z0 _) ⟨rfl,z0 _,xx⟩ ?_;rintro k mk _ _ _ ⟨hu,_,g0⟩;obtain⟨gc,gd⟩:=dQ hu;rw[gc,gd];refine bM<|br (λ_=>?_) λ_=>?_
 case refine_2=>
   have:k=(iK m).length:=oo;rw[this,sF];exact⟨xx,rfl⟩
 have hk:k<(iK m).length:=oo;have g1:(iK m)[k]∈iK m:=cY hk;obtain⟨i,_,hi2,g5⟩:=KM.1 g1
 have g2:i<C.length:=NS λ_=>by
   have:=PE (kP hm (tX oo (by omega:C.length<=i)));rw[this]at g5;cases g5
 refine bC bG aG (i:=k) g4.is hk λ_ _ gf=>aS aG gf g0 λ_=>?_;rw[hi2];refine bC bG aG (i:=i) h0 (by rw[cB];exact g2) λ_ _ g9=>?_;rw[nI]at g9;refine aS aG g9 ((e0.t g3).trans g0) λ_=>?_;have h1:=Cu hs ((iK m).take k);have h2:=hs C[i] (cY g2);refine xB oo oo<|aU<|⟨mk-1,oo,k+1,oo,?_,oo,g0⟩;rw[tk hk,zf,hi2,qM,List.getD_eq_getElem?_getD,List.getElem?_eq_getElem g2];rfl
noncomputable def EK(c:aF)(p:Nat):List Nat:=cC c.P.length (rY c p 4)
def Fo{a:Nat}(h0:Is W0 v0 c)(e0:aB W0 w)(hc:aM c)(ha:a<c.P.length) :
   aJ tp 177 [v0,iV a] w λr w'=>aB w w'/\∃m,r=.slice (some ⟨m,0,none⟩) c.P.length c.P.length/\w.heap.size<=m/\aZ [m] w' (.slice (some ⟨m,0,none⟩) c.P.length c.P.length) (cZ c.P.length λi=>i=a\/RP (EK c) a i):=by
 refine co (g:=kf [] [(5,288230376151188416,[6,7]),(9,288230374004228672,[6,9])] [(7,[0,1,2,3,4,5,6],0)]) Tryz.func177 ?_;have h8:=hc.1.p8;have hep:=hc.2.1.1;have gb:∀x,EK c x=cC c.P.length (rY c x 4):=λ_=>rfl;refine iR h0 e0 λw1 gr hA=>aE lQ<|aL dC (nF hA) xx λ_ gI=>aX cL gI ?_;generalize hn:c.P.length=n at *;have gJ:∀{i j:Nat},i<n->j∈EK c i->j<n/\True:=λ{i j} _ hj=>by rw[gb]at hj;exact⟨(mG.1 hj).1,trivial⟩
 have gc:∀x,(EK c x).length<=n:=λx=>by rw[gb];exact pC
 refine JC h8.2 oo λw2 gs gK=>?_;have hs1:=gr.size;have hs2:=gs.size;refine oA (α:=Bool) rfl eY cE ha<|oC (α:=Bool) rfl cE gK ss ha zD λgt gL g0=>?_;have g1:aN w1.heap.size (w1.heap.size+1) w2 gt:=gL.toI λb hb=>by simp only[bF,dL,dI]at hb;omega
 have gM:=g1.size;have gd:((List.replicate n false).set a true).length=n:=by simp
 have gx:∀i,cN ((List.replicate n false).set a true) i↔i=a:=λi=>by
   rw[wI (by simp;exact ha)];exact⟨λh=>h.resolve_left GY,.inr⟩
 generalize (List.replicate n false).set a true=M0 at *;refine CU (x:=(a:Int)) bG aG z3 dD (xN io) λgy w3 gf gN=>?_;have gO:=gf.size;generalize hm:w1.heap.size=m at *;have gP:WI w1 w3 m n gt.heap.size w3.heap.size gy [a] M0:=⟨(gs.toI.trans g1).trans gf.toI,gN,g0.ext gf,oo,by have:=g0.lt m ss;omega,gO,iD _⟩;generalize EK c=nx at *;refine bV (1+n) (λh us w'=>∃(tv:vL)(lo hi:Nat)(L:List Nat)(ms:List Bool),us=[tv,iV h]/\h<=L.length/\WI w1 w' m n lo hi tv L ms/\nS nx n a M0 ms (L.drop h) h) 0 (z0 _) ⟨gy,_,_,[a],_,rfl,ss,gP,nS.start gd ha⟩ ?_;rintro h mk _ w4 _ ⟨tv,lo,hi,L,ms,hu,_,g9,D⟩;obtain⟨gQ,gR⟩:=dQ hu;rw[gQ,gR];have gS:=D.bound;rw[wL]at gS;refine aX bG g9.row.is ?_;rw[cB];refine bM<|br (λ_=>?_) λ_=>?_
 case refine_2=>
   have gT:h=L.length:=oo;rw[gT,BA]at D;have gg:=D.fin λi hi gU=>absurd ((gx i).1 hi) gU;have gV:ms=cZ n (λi=>i=a\/RP nx a i):=DS D.len λi hi=>by rw[gg i,gx]
   rw[<-gV];have gW:aB w1 w4:=(aC w1).xI g9.chg oo;exact⟨xx,m,rfl,oo,g9.mks⟩
 have hh:h<L.length:=oo;have gX:=cO w4;have M:=g9.step gX;generalize World.drew1 w4=w5 at *;have gz:∀{w:wD}{lo hi tv L ms},WI w1 w m n lo hi tv L ms->aB w1 w:=λh=>(aC w1).xI h.chg oo;refine aL cP hA (gz M) λ_ gY=>bC bG aG (i:=h) M.row.is (by rw[cB];exact hh) λb1 o1 V=>?_;rw[nI]at V;refine aS aG V xx λ_=>?_;generalize hx:L[h]=x at *;have gh:L.drop h=x :: L.drop (h+1):=by rw[tD hh,hx]
 have gZ:x<n:=(D.tdo x (by rw[gh];simp)).2;refine(Ms gY (gz M) hc oo (.inl rfl)).mono ?_;rintro gi w6 ⟨h4,gA⟩;rw[hn,<-gb]at gA;have hm6:=M.mks.lt m ss;have h9:mZ nx n a M0 ms (L.drop (h+1)) h x 0:=D.pop (λi=>by rw[gh];simp[or_comm]) (by rw[gh];simp);have hl2:=gc x;refine bV (nx x).length (λq us w'=>∃(tv:vL)(lo hi:Nat)(L:List Nat)(ms:List Bool),us=[tv,iV q]/\q<=(nx x).length/\h<L.length/\WI w1 w' m n lo hi tv L ms/\mZ nx n a M0 ms (L.drop (h+1)) h x q/\aK w5.heap.size w6.heap.size w' gi (bN (nx x))/\(hi<=w5.heap.size\/w6.heap.size<=lo)/\w6.heap.size<=w'.heap.size) 0 (z0 _) ⟨tv,lo,hi,L,ms,rfl,z0 _,hh,(M.step h4),h9,gA.toI,.inl M.h3,iD _⟩ ?_;rintro q gB _ w7 _ ⟨gC,gD,gE,L7,O,hd,_,he,Z,g2,g3,hg,hk⟩;obtain⟨gj,gl⟩:=dQ hd;rw[gj,gl];refine aX bG g3.is ?_;rw[cB];refine bM<|br (λ_=>?_) λ_=>?_
 case refine_2=>refine aU<|⟨mk-1,oo,h+1,oo,gC,gD,gE,L7,O,rfl,oo,Z,g2.done oo⟩
 have hq:q<(nx x).length:=oo
 have gn:∀{w:wD}{K:vL->Prop}(ho:aK w5.heap.size w6.heap.size w gi (bN (nx x)))(k:K (iV (((nx x)[q]:Nat):Int))),RD tp (Instr.indexAt 31 gi (iV q)) w λhl=>RD tp (Instr.loadAt 3 hl) w K:=λho k=>by
   refine bC bG aG (i:=q) ho.is (by rw[cB];exact hq) λb1 o1 V=>?_;rw[nI]at V;exact aS aG V xx λ_=>k
 have hy:=gJ gZ (cY hq);refine gn g3 ?_;have C:=g2.len;refine bC eY cE Z.mks.is (by rw[C];exact hy.1) λ_ _ hr=>iY cE hr xx<|dG ?_;have g4:=kS (ms:=O) (i:=(nx x)[q]) (by rw[C];exact hy.1);refine bW (λhf=>?_) λhf=>?_
 ·have gp:¬cN O (nx x)[q]:=by rw[g4];simpa using hf
  refine gn g3<|oA (α:=Bool) rfl eY cE hy.1<|oC (α:=Bool) rfl cE Z.mks C hy.1 zD λw8 gF hs=>?_;have gG:=Z.mark gF hs;have g5:aN m (m+1) w7 w8:=gF.toI λb hb=>by simp only[bF,dL,dI]at hb;omega
  have gH:=g3.chg g5 oo;refine gn gH ?_;have ht:=g2.push hq hy.1 gp;generalize (nx x)[q]=y at *
  have hLb:L7.length<=2+n:=by
    have h1:=g2.cnt;have h2:=LL O;rw[wL]at h1;omega
  refine JZ (x:=(y:Int)) bG aG z3 wQ dD gG.row (DC 0 0 io) (by rw[eB,cB];omega) (by rw[cB];omega) λhv _ hw hz gq hB hC=>?_;have hF:=g5.size;refine aU<|⟨gB-1,oo,q+1,oo,hv,hw,hz,L7++[y],_,rfl,oo,by simp;omega,(gG.push gq hB hC),?_,gH.chg gq oo,oo,by have:=gq.size;omega⟩;rw[Kq oo];exact ht
 have gp:cN O (nx x)[q]:=by rw[g4];simpa using hf
 refine aU<|⟨gB-1,oo,q+1,oo,gC,gD,gE,L7,O,rfl,oo,he,Z,g2.skip hq gp,g3,hg,hk⟩
noncomputable def m6(p:Nat->Prop):Nat:=eM p 6
def TE{p:Nat->Prop}:(m6 p).testBit l=true↔l<6/\p l:=nW
def ED{p:Nat->Prop}:m6 p<64:=RJ (n:=6)
def ID(h:m<64)(hb:m.testBit l=true):l<6:=NS λhc=>by
 have:=PE (kP (show m<2^6 from h) (tX oo (by omega:6<=l)));rw[this]at hb;cases hb
def XY{p:Nat->Prop}(h:m<64)(hb:∀ l,l<6->(m.testBit l=true↔p l)):m=m6 p:=
 BO λl=>⟨λe=>⟨ID h e,(hb l (ID h e)).1 e⟩,λe=>(hb l e.1).2 e.2⟩
def O5{p q:Nat->Prop}(h:∀ l,l<6->(p l↔q l)):m6 p=m6 q:=wN h
def YF(h:¬m.testBit l=false):m.testBit l=true:=by simpa using h
def bD(l:List Nat)(i:Nat):Nat:=l.getD i 0
def pQ{l:List Nat}(h:i<l.length):l[i]=bD l i:=by unfold bD;rw[List.getD_eq_getElem?_getD,List.getElem?_eq_getElem h];rfl
def uF{l:List Nat}{i j v:Nat}(hi:i<l.length):bD (l.set i v) j=if i=j then v else bD l j:=by
 unfold bD;rw[List.getD_eq_getElem?_getD,List.getD_eq_getElem?_getD,List.getElem?_set];by_cases h:i=j
 ·subst h;simp[hi]
 simp[h]
theorem QU:∀{l:List Nat}{i v:Nat},i<l.length->(l.set i v).sum+bD l i=l.sum+v
 |x :: l,0,v,_=>by simp[bD];omega
 | x :: l,i+1,v,h=>by
   have:=QU (l:=l) (i:=i) (v:=v) (by simpa using h);simp only[bD,List.set_cons_succ,Ao,List.getD_cons_succ]at this ⊢;omega
def NC(l:List Nat)(i v:Nat):bN (l.set i v)=(bN l).set i (v:Int):=by simp[bN,Hp]
theorem sum_le{l:List Nat}(h:∀ x∈l,x<=b):l.sum<=l.length*b:=by
 induction l with
 |nil=>simp
 | cons x l ih=>
   have:=ih λy hy=>h y (by simp[hy]);have:=h x ss;rw[Ao,dA,xM];omega
def Hc{l:List Nat}(h:i<l.length):bD l i∈l:=by rw[<-pQ h];exact cY h
def oQ{l:List Nat}(h:i<(bN l).length):(bN l)[i]=(bD l i:Int):=by rw[nI,pQ]
def eN(c:aF)(p:Nat):Nat:=(en c p).toNat
def zN(c:aF)(p:Nat):Nat:=(iF c p-1).toNat
def bS(c:aF)(i:Nat):Nat:=(bO c i).arg.toNat
def vM(hc:aM c){p:Nat}(hp:p<c.E.length):en c p=(eN c p:Int)/\eN c p<c.I.length/\eC c (eN c p)=p:=by
 have h:=Rk hc hp;unfold eN;rw[IP h.1];exact⟨rfl,oo,h.2.2⟩
def HM(hc:aM c){p:Nat}(hp:p<c.E.length):iF c p=(zN c p:Int)+1/\eN c p<=zN c p/\zN c p<c.I.length:=by
 have:=hc.f.lt p hp;have:=hc.f.nonneg hp;have:=hc.f.lt p hp;unfold zN eN;omega
def rB(hc:aM c){p i:Nat}(hp:p<c.E.length)(h:dE c p i):i<c.I.length/\eC c i=p:=by
 have he:=vM hc hp;rcases h with rfl|h
 ·exact⟨he.2.1,he.2.2⟩
 refine h.keeps (p:=λi=>i<c.I.length/\eC c i=p) ⟨he.2.1,he.2.2⟩ λi _ hi hj=>?_;have:=zZ hc hi.1 hj;exact⟨this.1,this.2.trans hi.2⟩
def iw(h:dE c p i)(hj:j∈cQ c i):dE c p j:=by
 rcases h with rfl|h
 ·exact .inr (.one hj)
 exact .inr (.more h hj)
def Hx(hc:aM c){p i:Nat}(hi:i<c.I.length)(hp:p<c.E.length)(h:eC c i=p):eN c p<=i/\i<=zN c p:=by
 obtain⟨q,_,_,_,_⟩:=hc.f.find hc.1.p8.2 (a:=(i:Int)) oo oo;have:q=p:=oo;subst this;have h4:=HM hc hp;have h5:=vM hc hp;omega
def Fa(hc:aM c){p i:Nat}(hp:p<c.E.length)(h1:eN c p<=i)(h2:i<=zN c p):eC c i=p:=by
 have:=HM hc hp;have:=vM hc hp;exact hc.f.proc hp oo oo
def sW(hc:aM c){i:Nat}(hi:i<c.I.length)(ho:(bO c i).op=4\/(bO c i).op=5):(bO c i).arg=(bS c i:Int)/\bS c i<c.P.length:=by
 have g0:=(Cy hc hi).2.1;unfold tU at g0;rw[aH oo,aP oo]at g0;unfold bS;omega
def yD(hc:aM c){i:Nat}(hi:i<c.I.length)(ho:(bO c i).op=6\/(bO c i).op=7):(bO c i).arg=(bS c i:Int)/\bS c i<c.L.length/\bS c i<6:=by
 have:=xh hc hi ho;have:=hc.1.locks6;unfold bS;omega
def UE(c:aF)(K G:Nat->Nat->Prop)(i l:Nat):Prop:=((bO c i).op=7/\bS c i=l)\/((bO c i).op=4/\¬K (bS c i) l/\¬G (bS c i) l)
def VX(c:aF)(G:Nat->Nat->Prop)(i l:Nat):Prop:=¬((bO c i).op=6/\bS c i=l)/\¬((bO c i).op=4/\G (bS c i) l)
inductive eI(c:aF)(K G:Nat->Nat->Prop)(p:Nat)(h:Nat->Prop):Nat->Nat->Prop
 |ent {l:Nat} (h0:¬h l):eI c K G p h (eN c p) l
 |gen {i j l:Nat} (h0:dE c p i) (hj:j∈cQ c i) (h1:UE c K G i l):eI c K G p h j l
 |pass {i j l:Nat} (h0:dE c p i) (hj:j∈cQ c i) (h1:eI c K G p h i l) (h2:VX c G i l):eI c K G p h j l
theorem eI.mono{K K' G G':Nat->Nat->Prop}{h h':Nat->Prop}(hK:∀ q l,K' q l->K q l)(hG:∀ q l,G' q l->G q l)(hh:∀ l,h' l->h l){i l:Nat}(hl:eI c K G p h i l):eI c K' G' p h' i l:=by
 induction hl with
 |ent h0=>exact .ent λe=>h0 (hh _ e)
 |gen h0 hj h1=>exact .gen h0 hj (h1.imp id λ⟨a,b,d⟩=>⟨a,λe=>b (hK _ _ e),λe=>d (hG _ _ e)⟩)
 |pass h0 hj _ h2 ih=>exact .pass h0 hj ih ⟨h2.1,λ⟨a,b⟩=>h2.2 ⟨a,hG _ _ b⟩⟩
abbrev fX:=List (Nat×Nat)
def tbl(T:fX)(q:Nat):Nat×Nat:=T.getD q (0,0)
def tK(T:fX)(q l:Nat):Prop:=(tbl T q).1.testBit l=true
def tG(T:fX)(q l:Nat):Prop:=(tbl T q).2.testBit l=true
def SO{T:fX}(h:q<T.length):T[q]=tbl T q:=by unfold tbl;rw[List.getD_eq_getElem?_getD,List.getElem?_eq_getElem h];rfl
def zFU{T:fX}{v:Nat×Nat}(h:q<T.length):tbl (T.set q v) r=if q=r then v else tbl T r:=by
 unfold tbl;rw[List.getD_eq_getElem?_getD,List.getD_eq_getElem?_getD,List.getElem?_set];by_cases e:q=r
 ·subst e;simp[h]
 simp[e]
def EW(c:aF)(T:fX):Prop:=T.length=c.P.length/\∀q,(tbl T q).1<64/\(tbl T q).2<64
def aft(c:aF)(T:fX)(i m:Nat):Nat:=
 if (bO c i).op=6 then m ||| 2^bS c i else if (bO c i).op=7 then sH m (2^bS c i)else if (bO c i).op=4 then(m &&& (tbl T (bS c i)).1) ||| (tbl T (bS c i)).2 else m
def Wk{T:fX}(hc:aM c)(hT:EW c T){i m:Nat}(hi:i<c.I.length)(hm:m<64):aft c T i m<64:=by
 unfold aft;split
 ·rename_i h;exact Nl hm (yD hc hi (.inl h)).2.2
 split
 ·exact uU (PP _ _) hm
 split
 ·exact zO (n:=6) (uU AG hm) (hT.2 _).2
 exact hm
def XT{T:fX}:(aft c T i m).testBit l=false↔UE c (tK T) (tG T) i l\/(VX c (tG T) i l/\m.testBit l=false):=by
 unfold aft UE VX tK tG;split
 ·rename_i h;rw[vA,AQ];have e6:((bO c i).op=6)=True:=eq_true h;have e4:((bO c i).op=4)=False:=eq_false oo;have e7:((bO c i).op=7)=False:=eq_false oo;simp only[e6,e4,e7,true_and,false_and,false_or,dI,not_false_eq_true,and_true,Bool.or_eq_false_iff,decide_eq_false_iff_not];exact⟨λ⟨a,b⟩=>⟨b,a⟩,λ⟨a,b⟩=>⟨b,a⟩⟩
 rename_i h6;have e6:((bO c i).op=6)=False:=eq_false h6;split
 ·rename_i h;have e7:((bO c i).op=7)=True:=eq_true h;have e4:((bO c i).op=4)=False:=eq_false oo;rw[AE,AQ];simp only[e6,e4,e7,true_and,false_and,false_or,dI,not_false_eq_true,and_true,TQ,WR,lZ];exact⟨λh=>h.elim .inr .inl,λh=>h.elim .inr .inl⟩
 rename_i h7;have e7:((bO c i).op=7)=False:=eq_false h7;split
 ·rename_i h;have e4:((bO c i).op=4)=True:=eq_true h;rw[vA,wO];simp only[e6,e4,e7,true_and,false_and,false_or,not_false_eq_true];cases (tbl T (bS c i)).1.testBit l<;>cases (tbl T (bS c i)).2.testBit l<;>cases m.testBit l<;>simp
 rename_i h4;simp[h6,h7,h4]
noncomputable def lL(c:aF)(T:fX)(p h:Nat):List Nat:=(List.range c.I.length).map λi=>m6 λl=>¬eI c (tK T) (tG T) p (λl=>h.testBit l=true) i l
def LF(c:aF)(T:fX)(p h:Nat):(lL c T p h).length=c.I.length:=by simp[lL]
def Ax{T:fX}(hi:i<c.I.length):bD (lL c T p h) i=m6 λl=>¬eI c (tK T) (tG T) p (λl=>h.testBit l=true) i l:=by
 rw[<-pQ (by rw[LF];exact hi)];simp[lL]
def WF{T:fX}:∀x∈lL c T p h,x<64:=λx hx=>by
 unfold lL at hx;obtain⟨i,_,rfl⟩:=sT.1 hx;exact ED
structure FL(c:aF)(T:fX)(p h:Nat)(out:List Nat):Prop where
 len:out.length=c.I.length
 lt:∀x∈out,x<64
 snd:∀i l,i<c.I.length->l<6->(bD out i).testBit l=false->eI c (tK T) (tG T) p (λl=>h.testBit l=true) i l
 ent:∀l,l<6->h.testBit l=false->(bD out (eN c p)).testBit l=false
def FL.lt0{T:fX}(h:FL c T p h out)(i:Nat):bD out i<64:=by
 rcases kR i out.length with hi|hi
 ·exact h.lt _ (Hc hi)
 unfold bD;rw[List.getD_eq_getElem?_getD,List.getElem?_eq_none hi];simp
def XI(h:l<6):(63:Nat).testBit l=true:=by
 have:l=0\/l=1\/l=2\/l=3\/l=4\/l=5:=oo;rcases this with rfl|rfl|rfl|rfl|rfl|rfl<;>rfl
def FL.start{T:fX}(hc:aM c)(hp:p<c.E.length)(hh:h<64):FL c T p h ((List.replicate c.I.length 63).set (eN c p) h):=by
 have he:=(vM hc hp).2.1;have hr:(List.replicate c.I.length 63).length=c.I.length:=by simp
 have hg:∀i,i<c.I.length->bD (List.replicate c.I.length 63) i=63:=λi hi=>by rw[<-pQ (by rw[hr];exact hi)];simp
 refine⟨ss,λ_ hx=>?_,λi l hi hl hb=>?_,λl hl hb=>?_⟩
 ·rcases OS hx with rfl|hx
  ·exact hh
  rw[(Ja.1 hx).2];omega
 ·rw[uF (by rw[hr];exact he)]at hb;split at hb
  ·rename_i e;subst e;exact .ent (by rw[hb];simp)
  rw[hg i hi,XI hl]at hb;cases hb
 rw[uF (by rw[hr];exact he),aP rfl];exact hb
def FL.upd{T:fX}(hF:FL c T p h out)(hc:aM c)(hp:p<c.E.length)(hT:EW c T){i j:Nat}(hi:dE c p i)(hj:j∈cQ c i) :
   FL c T p h (out.set j (bD out j &&& aft c T i (bD out i))):=by
 have g0:=(rB hc hp hi).1;have g1:=(zZ hc g0 hj).1;refine⟨by simp[hF.len],λx hx=>?_,λk l hk hl hb=>?_,λl hl hb=>?_⟩
 ·rcases OS hx with rfl|hx
  ·exact uU AG (hF.lt0 j)
  exact hF.lt x hx
 ·rw[uF (by rw[hF.len];exact g1)]at hb;split at hb
  ·rename_i e;subst e;rw[wO,TQ]at hb;rcases hb with hb|hb
   ·exact hF.snd j l hk hl hb
   rcases XT.1 hb with h1|⟨h1,h2⟩
   ·exact .gen hi hj h1
   exact .pass hi hj (hF.snd i l g0 hl h2) h1
  exact hF.snd k l hk hl hb
 rw[uF (by rw[hF.len];exact g1)];split
 ·rename_i e;rw[wO,e,hF.ent l hl hb];rfl
 exact hF.ent l hl hb
def Tm{a b:Nat}(h:a &&& b≠a):a &&& b<a:=by
 have:a &&& b<=a:=AG;omega
def VZ(c:aF)(T:fX)(out:List Nat)(i:Nat):Prop:=∀j∈cQ c i,bD out j &&& aft c T i (bD out i)=bD out j
def FL.fin{T:fX}(hF:FL c T p h out)(hc:aM c)(hp:p<c.E.length)(hs:∀ i,dE c p i->VZ c T out i):out=lL c T p h:=by
 refine wE (by rw[hF.len,LF]) λi h1 h2=>?_;rw[pQ h1,pQ h2,Ax (by rw[<-hF.len];exact h1)];refine XY (hF.lt0 i) λl hl=>⟨λhb hn=>?_,λhn=>YF λhb=>hn (hF.snd i l (by rw[<-hF.len];exact h1) hl hb)⟩
 have g0:∀{i l:Nat},eI c (tK T) (tG T) p (λl=>h.testBit l=true) i l->l<6->(bD out i).testBit l=false:=λ{i l} hn=>by
   induction hn with
   |ent h0=>exactλhl=>hF.ent _ hl (by simpa using h0)
   | gen h0 hj h1=>
     intro hl;rw[<-hs _ h0 _ hj,wO,XT.2 (.inl h1),DW]
   | pass h0 hj _ h2 ih=>
     intro hl;rw[<-hs _ h0 _ hj,wO,XT.2 (.inr ⟨h2,ih hl⟩),DW]
 rw[g0 hn hl]at hb;cases hb
def bL(c:aF)(p q:Nat):Prop:=q=p\/RP (EK c) p q
def bL.lt(hp:p<c.P.length)(h:bL c p q):q<c.P.length:=by
 rcases h with rfl|h
 ·exact hp
 exact h.keeps (p:=λi=>i<c.P.length) hp λi _ _ hj=>(mG.1 hj).1
def bL.trans(h:bL c p q)(k:bL c q r):bL c p r:=by
 rcases h with rfl|h
 ·exact k
 rcases k with rfl|k
 ·exact .inr h
 exact .inr (h.trans k)
def bL.call(h:bL c p q)(hr:r<c.P.length)(k:rY c q 4 r):bL c p r:=h.trans (.inr (.one (mG.2 ⟨hr,k⟩)))
noncomputable def uJ(c:aF)(p:Nat):Nat:=m6 λl=>¬ ∃q i,q<c.P.length/\bL c p q/\dE c q i/\(bO c i).op=7/\bS c i=l
inductive lB(c:aF):Nat->Nat->Nat->Prop
 |ent {p l:Nat}:lB c p (eN c p) l
 |unl {p i j l:Nat} (h0:dE c p i) (hj:j∈cQ c i) (ho:(bO c i).op=7) (ha:bS c i=l):lB c p j l
 |cal {p i j l:Nat} (h0:dE c p i) (hj:j∈cQ c i) (ho:(bO c i).op=4) (hk:(uJ c (bS c i)).testBit l=false) (h1:lB c (bS c i) (zN c (bS c i)) l):lB c p j l
 |bck {p i j l:Nat} (h0:dE c p i) (hj:j∈cQ c i) (ho:(bO c i).op=4) (h2:lB c p i l) (h1:lB c (bS c i) (zN c (bS c i)) l):lB c p j l
 |pass {p i j l:Nat} (h0:dE c p i) (hj:j∈cQ c i) (h6:¬((bO c i).op=6/\bS c i=l)) (h4:¬(bO c i).op=4) (h1:lB c p i l):lB c p j l
noncomputable def fC(c:aF):fX:=(List.range c.P.length).map λp=>(uJ c p,m6 λl=>¬lB c p (zN c p) l)
def Od(c:aF):(fC c).length=c.P.length:=by simp[fC]
def Sm(hp:p<c.P.length):tbl (fC c) p=(uJ c p,m6 λl=>¬lB c p (zN c p) l):=by
 rw[<-SO (by rw[Od];exact hp)];simp[fC]
def q9{T:fX}(hl:T.length=c.P.length)(h:∀ q,q<c.P.length->(tbl T q).1<64/\(tbl T q).2<64):EW c T:=⟨hl,λq=>by
 rcases kR q c.P.length with hq|hq
 ·exact h q hq
 unfold tbl;rw[List.getD_eq_getElem?_getD,List.getElem?_eq_none oo];simp⟩
def Fm(c:aF):EW c (fC c):=q9 (Od c) λq hq=>by rw[Sm hq];exact⟨ED,ED⟩
noncomputable def qZ(c:aF)(T:fX)(p:Nat):Nat:=bD (lL c T p 0) (zN c p)
def YX(hc:aM c){T:fX}{p l:Nat}(hp:p<c.P.length)(hl:l<6):(qZ c T p).testBit l=false↔eI c (tK T) (tG T) p (λl=>(0:Nat).testBit l=true) (zN c p) l:=by
 have hz:=(HM hc (p:=p) (by rw[hc.2.1.1];exact hp)).2.2;unfold qZ;rw[Ax hz];constructor
 ·intro h;refine QW λhn=>?_;rw[TE.2 ⟨hl,hn⟩]at h;cases h
 intro h;cases e:(m6 λl=>¬eI c (tK T) (tG T) p (λl=>(0:Nat).testBit l=true) (zN c p) l).testBit l
 ·rfl
 exact absurd h (TE.1 e).2
def ZO(hc:aM c){T:fX}{p:Nat}(hp:p<c.P.length):qZ c T p<64:=by
 have hz:=(HM hc (p:=p) (by rw[hc.2.1.1];exact hp)).2.2;unfold qZ;rw[Ax hz];exact ED
structure EI(c:aF)(T:fX):Prop where
 tab:EW c T
 keep:∀p,p<c.P.length->(tbl T p).1=uJ c p
 snd:∀p l,p<c.P.length->l<6->(tbl T p).2.testBit l=false->lB c p (zN c p) l
 desc:∀p l,p<c.P.length->l<6->(tbl T p).2.testBit l=false->(qZ c T p).testBit l=false
theorem EI.lost(hc:aM c){T:fX}(h:EI c T){p i l:Nat}(hp:p<c.P.length)(hl:l<6)(k:eI c (tK T) (tG T) p (λl=>(0:Nat).testBit l=true) i l):lB c p i l:=by
 have he:=hc.2.1.1
 induction k with
 |ent _=>exact .ent
 | gen h0 hj h1=>
   have hi:=(rB hc (by rw[he];exact hp) h0).1;rcases h1 with⟨h1,h2⟩|⟨h1,h2,h3⟩
   ·exact .unl h0 hj h1 h2
   have hq:=(sW hc hi (.inl h1)).2;refine .cal h0 hj h1 ?_ (h.snd _ _ hq hl (by unfold tG at h3;simpa using h3));unfold tK at h2;rw[h.keep _ hq]at h2;simpa using h2
 | @pass i j l h0 hj _ h2 ih=>
   have hi:=(rB hc (by rw[he];exact hp) h0).1;by_cases h4:(bO c i).op=4
   ·refine .bck h0 hj h4 (ih hl) (h.snd _ _ ((sW hc hi (.inl h4)).2) hl ?_);have:=h2.2;unfold tG at this;simpa[h4]using this
   exact .pass h0 hj h2.1 h4 (ih hl)
def EI.start(c:aF)(hc:aM c):EI c ((List.range c.P.length).map λp=>(uJ c p,63)):=by
 have hl:((List.range c.P.length).map λp=>(uJ c p,63)).length=c.P.length:=by simp
 have g0:∀p,p<c.P.length->tbl ((List.range c.P.length).map λp=>(uJ c p,63)) p=(uJ c p,63):=λp hp=>by
   rw[<-SO (by rw[hl];exact hp)];simp
 refine⟨q9 hl λq hq=>by rw[g0 q hq];exact⟨ED,oo⟩,λp hp=>by rw[g0 p hp],λp l hp h6 hb=>?_,λp l hp h6 hb=>?_⟩
 ·rw[g0 p hp,XI h6]at hb;cases hb
 rw[g0 p hp,XI h6]at hb;cases hb
def EI.upd(hc:aM c){T:fX}(h:EI c T){p:Nat}(hp:p<c.P.length):EI c (T.set p ((tbl T p).1,qZ c T p)):=by
 have g0:p<T.length:=by rw[h.tab.1];exact hp
 have D:=λr=>zFU (T:=T) (q:=p) (r:=r) (v:=((tbl T p).1,qZ c T p)) g0
 have g1:∀q l,l<6->(tbl T q).2.testBit l=false->(tbl (T.set p ((tbl T p).1,qZ c T p)) q).2.testBit l=false:=λq l hl hb=>by
   rw[D];split
   ·rename_i e;subst e;exact h.desc p l hp hl hb
   exact hb
 have C:∀{q l:Nat},q<c.P.length->l<6->(qZ c T q).testBit l=false->(qZ c (T.set p ((tbl T p).1,qZ c T p)) q).testBit l=false:=λ{q l} hq hl hb=>by
   rw[YX hc hq hl]at hb ⊢
   have g2:∀{i l:Nat},l<6->eI c (tK T) (tG T) q (λl=>(0:Nat).testBit l=true) i l->eI c (tK (T.set p ((tbl T p).1,qZ c T p))) (tG (T.set p ((tbl T p).1,qZ c T p))) q (λl=>(0:Nat).testBit l=true) i l:=λ{i l} hl k=>by
     have hK:∀r l,tK (T.set p ((tbl T p).1,qZ c T p)) r l↔tK T r l:=λr l=>by
       unfold tK;rw[D];split
       ·rename_i e;rw[<-e]
       exact Iff.rfl
     have hG:∀r,tG (T.set p ((tbl T p).1,qZ c T p)) r l->tG T r l:=λr e=>by
       unfold tG at e ⊢;refine YF λhf=>?_;rw[g1 r l hl hf]at e;cases e
     clear hb
     induction k with
     |ent h0=>exact .ent h0
     |gen h0 hj h1=>exact .gen h0 hj (h1.imp id λ⟨a,b,d⟩=>⟨a,λe=>b ((hK _ _).1 e),λe=>d (hG _ e)⟩)
     |pass h0 hj _ h2 ih=>exact .pass h0 hj (ih hl hG) ⟨h2.1,λ⟨a,b⟩=>h2.2 ⟨a,hG _ b⟩⟩
   exact g2 hl hb
 refine⟨⟨by simp[h.tab.1],λq=>?_⟩,λq hq=>?_,λq l hq hl hb=>?_,λq l hq hl hb=>?_⟩
 ·rw[D];split
  ·exact⟨(h.tab.2 p).1,ZO hc hp⟩
  exact h.tab.2 q
 ·rw[D];split
  ·rename_i e;subst e;exact h.keep p hp
  exact h.keep q hq
 ·rw[D]at hb;split at hb
  ·rename_i e;subst e;exact h.lost hc hp hl ((YX hc hp hl).1 hb)
  exact h.snd q l hq hl hb
 rw[D]at hb;split at hb
 ·rename_i e;subst e;exact C hp hl hb
 exact C hq hl (h.desc q l hq hl hb)
def EI.le(hc:aM c){T:fX}(h:EI c T){p:Nat}(hp:p<c.P.length):qZ c T p<=(tbl T p).2:=by
 refine Nat.le_of_testBit λl hb=>?_;have hl:=ID (ZO hc hp) hb;refine YF λhf=>?_;rw[h.desc p l hp hl hf]at hb;cases hb
def EI.fin(hc:aM c){T:fX}(h:EI c T)(hs:∀ p,p<c.P.length->qZ c T p=(tbl T p).2):T=fC c:=by
 refine wE (by rw[h.tab.1,Od]) λp h1 h2=>?_;have hp:p<c.P.length:=by rw[<-h.tab.1];exact h1
 rw[SO h1,SO h2,Sm hp]
 have g0:∀{p i l:Nat},lB c p i l->p<c.P.length->l<6->eI c (tK T) (tG T) p (λl=>(0:Nat).testBit l=true) i l:=λ{p i l} k=>by
   have hz:∀{i l:Nat},(bO c i).op=4->i<c.I.length->l<6->(bS c i<c.P.length->l<6->eI c (tK T) (tG T) (bS c i) (λl=>(0:Nat).testBit l=true) (zN c (bS c i)) l)->¬tG T (bS c i) l:=λ{i l} ho hi hl k1=>by
     have hq:=(sW hc hi (.inl ho)).2;have:=(YX hc hq hl).2 (k1 hq hl);rw[hs _ hq]at this;unfold tG;rw[this];simp
   induction k with
   |ent=>exactλ_ _=>.ent ss
   |unl h0 hj ho ha=>exactλ_ _=>.gen h0 hj (.inl ⟨ho,ha⟩)
   | cal h0 hj ho hk _ ih=>
     intro hp hl;have hi:=(rB hc (by rw[hc.2.1.1];exact hp) h0).1;have hq:=(sW hc hi (.inl ho)).2;refine .gen h0 hj (.inr ⟨ho,?_,hz ho hi hl ih⟩);unfold tK;rw[h.keep _ hq,hk];simp
   | bck h0 hj ho _ _ ih2 ih1=>
     intro hp hl;have hi:=(rB hc (by rw[hc.2.1.1];exact hp) h0).1;exact .pass h0 hj (ih2 hp hl) ⟨λh=>oo,λh=>hz ho hi hl ih1 h.2⟩
   |pass h0 hj h6 h4 _ ih=>exactλhp hl=>.pass h0 hj (ih hp hl) ⟨h6,λh=>h4 h.1⟩
 refine Prod.ext (h.keep p hp) (XY (h.tab.2 p).2 λl hl=>⟨λhb hn=>?_,λhn=>YF λhb=>hn (h.snd p l hp hl hb)⟩);have:=(YX hc hp hl).2 (g0 hn hp hl);rw[hs p hp]at this;rw[this]at hb;cases hb
def EH(T:fX):Nat:=(T.map (·.2)).sum
def zg{T:fX}{v:Nat×Nat}(hp:p<T.length):EH (T.set p v)+(tbl T p).2=EH T+v.2:=by
 unfold EH;rw[Hp];have:=QU (l:=T.map (·.2)) (i:=p) (v:=v.2) (by simpa using hp);rw[<-pQ (by simpa using hp)]at this;rw[<-SO hp];simpa using this
def mH(c:aF):Nat:=(plc uR c.P).toNat
inductive bE(c:aF):Nat->Prop
 |main:bE c (mH c)
 |spawn {r p q:Nat} (h0:bE c r) (h1:bL c r p) (h2:rY c p 5 q) (hq:q<c.P.length):bE c q
def bU(c:aF)(p:Nat):Prop:=∃r,bE c r/\bL c r p
def IJ(hc:aM c):plc uR c.P=(mH c:Int)/\mH c<c.P.length:=by
 have:=pv hc;have:=hc.2.1.1;unfold mH;omega
theorem bE.lt(hc:aM c){r:Nat}(h:bE c r):r<c.P.length:=by
 cases h with
 |main=>exact(IJ hc).2
 |spawn _ _ _ hq=>exact hq
def bU.lt(hc:aM c){p:Nat}(h:bU c p):p<c.P.length:=by
 obtain⟨_,h1,h2⟩:=h;exact h2.lt (h1.lt hc)
def bU.call(h:bU c p)(hq:q<c.P.length)(k:rY c p 4 q):bU c q:=by
 obtain⟨r,h1,h2⟩:=h;exact⟨r,h1,h2.call hq k⟩
inductive iH(c:aF)(K G:Nat->Nat->Prop):Nat->Option Nat->Nat->Prop
 |root {p l:Nat} (h:bE c p):iH c K G p none l
 |call {p i l:Nat} (hu:bU c p) (h0:dE c p i) (ho:(bO c i).op=4) (h:iH c K G p (some i) l):iH c K G (bS c i) none l
 |ent {p l:Nat} (h:iH c K G p none l):iH c K G p (some (eN c p)) l
 |gen {p i j l:Nat} (h0:dE c p i) (hj:j∈cQ c i) (h1:UE c K G i l):iH c K G p (some j) l
 |pass {p i j l:Nat} (h0:dE c p i) (hj:j∈cQ c i) (h1:iH c K G p (some i) l) (h2:VX c G i l):iH c K G p (some j) l
noncomputable def AK(c:aF)(p:Nat):Nat:=m6 λl=>¬iH c (tK (fC c)) (tG (fC c)) p none l
noncomputable def OA(c:aF):List Nat:=(List.range c.P.length).map (AK c)
def Ad(c:aF):(OA c).length=c.P.length:=by simp[OA]
def Hv(hp:p<c.P.length):bD (OA c) p=AK c p:=by rw[<-pQ (by rw[Ad];exact hp)];simp[OA]
structure BI(c:aF)(out:List Nat):Prop where
 len:out.length=c.P.length
 lt:∀x∈out,x<64
 snd:∀p l,p<c.P.length->l<6->(bD out p).testBit l=false->iH c (tK (fC c)) (tG (fC c)) p none l
 root:∀p l,bE c p->l<6->(bD out p).testBit l=false
def BI.lt0(h:BI c out)(i:Nat):bD out i<64:=by
 rcases kR i out.length with hi|hi
 ·exact h.lt _ (Hc hi)
 unfold bD;rw[List.getD_eq_getElem?_getD,List.getElem?_eq_none hi];simp
def Oq{T:fX}(hi:i<c.I.length)(hl:l<6):(bD (lL c T p h) i).testBit l=false↔eI c (tK T) (tG T) p (λl=>h.testBit l=true) i l:=by
 rw[Ax hi];constructor
 ·intro h;refine QW λhn=>?_;rw[TE.2 ⟨hl,hn⟩]at h;cases h
 intro k;cases e:(m6 λl=>¬eI c (tK T) (tG T) p (λl=>h.testBit l=true) i l).testBit l
 ·rfl
 exact absurd k (TE.1 e).2
def BI.start(hc:aM c)(out:List Nat)(hl:out.length=c.P.length)(h:∀ p,p<c.P.length->(bE c p->bD out p=0)/\(¬bE c p->bD out p=63)):BI c out:=by
 refine⟨hl,λ_ hx=>?_,λp l hp h6 hb=>?_,λp l hr h6=>?_⟩
 ·obtain⟨i,hi,rfl⟩:=List.getElem_of_mem hx;rw[pQ hi];have:=h i oo;by_cases hr:bE c i
  ·rw[this.1 hr];omega
  rw[this.2 hr];omega
 ·by_cases hr:bE c p
  ·exact .root hr
  rw[(h p hp).2 hr,XI h6]at hb;cases hb
 rw[(h p (hr.lt hc)).1 hr];simp
theorem BI.lost(h:BI c out){p i l:Nat}(hp:p<c.P.length)(hl:l<6)(k:eI c (tK (fC c)) (tG (fC c)) p (λl=>(bD out p).testBit l=true) i l):iH c (tK (fC c)) (tG (fC c)) p (some i) l:=by
 induction k with
 |ent h0=>exact .ent (h.snd p _ hp hl (by simpa using h0))
 |gen h0 hj h1=>exact .gen h0 hj h1
 |pass h0 hj _ h2 ih=>exact .pass h0 hj (ih hl) h2
def BI.upd(hc:aM c){out:List Nat}(h:BI c out){p i:Nat}(hu:bU c p)(hi:dE c p i)(ho:(bO c i).op=4) :
   BI c (out.set (bS c i) (bD out (bS c i) &&& bD (lL c (fC c) p (bD out p)) i)):=by
 have hp:=hu.lt hc;have g0:=(rB hc (by rw[hc.2.1.1];exact hp) hi).1;have hq:=(sW hc g0 (.inl ho)).2;refine⟨by simp[h.len],λx hx=>?_,λr l hr hl hb=>?_,λr l hr hl=>?_⟩
 ·rcases OS hx with rfl|hx
  ·exact uU AG (h.lt0 _)
  exact h.lt x hx
 ·rw[uF (by rw[h.len];exact hq)]at hb;split at hb
  ·rename_i e;subst e;rw[wO,TQ]at hb;rcases hb with hb|hb
   ·exact h.snd _ l hr hl hb
   refine .call hu hi ho<|h.lost hp hl ((Oq g0 hl).1 hb)
  exact h.snd r l hr hl hb
 rw[uF (by rw[h.len];exact hq)];split
 ·rename_i e;rw[wO,e,h.root r l hr hl];rfl
 exact h.root r l hr hl
def BI.fin(hc:aM c){out:List Nat}(h:BI c out)(hs:∀ p i,bU c p->dE c p i->(bO c i).op=4->bD out (bS c i) &&& bD (lL c (fC c) p (bD out p)) i=bD out (bS c i)):out=OA c:=by
 refine wE (by rw[h.len,Ad]) λp h1 h2=>?_;have hp:p<c.P.length:=by rw[<-h.len];exact h1
 rw[pQ h1,pQ h2,Hv hp]
 have g0:∀{p:Nat}{o:Option Nat}{l:Nat},iH c (tK (fC c)) (tG (fC c)) p o l->l<6->match o with
     |none=>(bD out p).testBit l=false
     |some i=>eI c (tK (fC c)) (tG (fC c)) p (λl=>(bD out p).testBit l=true) i l:=λ{p o l} k=>by
   induction k with
   |root hr=>exactλhl=>h.root _ _ hr hl
   | @call p i l hu h0 ho _ ih=>
     intro hl;have g1:=(rB hc (by rw[hc.2.1.1];exact hu.lt hc) h0).1;simp only;rw[<-hs p i hu h0 ho,wO,(Oq g1 hl).2 (ih hl),DW]
   |ent _ ih=>exactλhl=>.ent (by have:=ih hl;simp only at this;rw[this];simp)
   |gen h0 hj h1=>exactλhl=>.gen h0 hj h1
   |pass h0 hj _ h2 ih=>exactλhl=>.pass h0 hj (ih hl) h2
 refine XY (h.lt0 p) λl hl=>⟨λhb hn=>?_,λhn=>YF λhb=>hn (h.snd p l hp hl hb)⟩;have:=g0 hn hl;simp only at this;rw[this]at hb;cases hb
noncomputable def BU(c:aF)(i:Nat):Nat:=@ite _ (bU c (eC c i).toNat) (Classical.propDecidable _) (bD (lL c (fC c) (eC c i).toNat (AK c (eC c i).toNat)) i) 63
noncomputable def BW(c:aF):List Nat:=(List.range c.I.length).map (BU c)
def Ap(c:aF):(BW c).length=c.I.length:=by simp[BW]
def zCp(hi:i<c.I.length):bD (BW c) i=BU c i:=by rw[<-pQ (by rw[Ap];exact hi)];simp[BW]
def yL{l:List Nat}(h:∀ x∈l,x<64)(i:Nat):bD l i<64:=by
 rcases kR i l.length with hi|hi
 ·exact h _ (Hc hi)
 unfold bD;rw[List.getD_eq_getElem?_getD,List.getElem?_eq_none hi];simp
def za(c:aF)(i:Nat):BU c i<64:=by
 unfold BU;split
 ·exact yL WF i
 omega
def Ge(c:aF):∀x∈BW c,x<64:=λx hx=>by
 obtain⟨i,_,rfl⟩:=sT.1 hx;exact za c i
def Xa(hp:eC c i=p)(hu:bU c p):BU c i=bD (lL c (fC c) p (AK c p)) i:=by
 unfold BU;rw[hp,qM,aP hu]
def G9(hp:eC c i=p)(hu:¬bU c p):BU c i=63:=by
 unfold BU;rw[hp,qM,aH hu]
inductive cD(c:aF):Nat->Prop
 |root {p:Nat} (h:bE c p):cD c (eN c p)
 |call {i:Nat} (h:cD c i) (ho:(bO c i).op=4):cD c (eN c (bS c i))
 |next {i j:Nat} (h:cD c i) (ho:¬(bO c i).op=4) (hj:j∈cQ c i):cD c j
 |back {i j:Nat} (h:cD c i) (ho:(bO c i).op=4) (hz:cD c (zN c (bS c i))) (hj:j∈cQ c i):cD c j
theorem cD.lt(hc:aM c){i:Nat}(h:cD c i):i<c.I.length:=by
 induction h with
 |root h=>exact(vM hc (by rw[hc.2.1.1];exact h.lt hc)).2.1
 |call _ ho ih=>exact(vM hc (by rw[hc.2.1.1];exact(sW hc ih (.inl ho)).2)).2.1
 |next _ _ hj ih=>exact(zZ hc ih hj).1
 |back _ _ _ hj ih _=>exact(zZ hc ih hj).1
inductive fT(c:aF):Nat->Nat->Prop
 |lock {i j l:Nat} (h:cD c i) (ho:(bO c i).op=6) (ha:bS c i=l) (hj:j∈cQ c i):fT c j l
 |pass {i j l:Nat} (h:cD c i) (ho:¬(bO c i).op=4) (ha:¬((bO c i).op=7/\bS c i=l)) (hm:fT c i l) (hj:j∈cQ c i):fT c j l
 |call {i l:Nat} (h:cD c i) (ho:(bO c i).op=4) (hm:fT c i l):fT c (eN c (bS c i)) l
 |back {i j l:Nat} (h:cD c i) (ho:(bO c i).op=4) (hz:cD c (zN c (bS c i))) (hm:fT c (zN c (bS c i)) l) (hj:j∈cQ c i):fT c j l
noncomputable def nH(c:aF):List Bool:=cZ c.I.length (cD c)
noncomputable def xL(c:aF):List Nat:=(List.range c.I.length).map λi=>m6 (fT c i)
def As(c:aF):(xL c).length=c.I.length:=by simp[xL]
def Kx(hi:i<c.I.length):bD (xL c) i=m6 (fT c i):=by rw[<-pQ (by rw[As];exact hi)];simp[xL]
def K3(c:aF):∀x∈xL c,x<64:=λx hx=>by
 obtain⟨i,_,rfl⟩:=sT.1 hx;exact ED
structure ML(c:aF)(M:Nat->Prop):Prop where
 root:∀p,bE c p->M (eN c p)
 call:∀i,M i->(bO c i).op=4->M (eN c (bS c i))
 next:∀i j,M i->¬(bO c i).op=4->j∈cQ c i->M j
 back:∀i j,M i->(bO c i).op=4->M (zN c (bS c i))->j∈cQ c i->M j
theorem ML.all{M:Nat->Prop}(h:ML c M){i:Nat}(k:cD c i):M i:=by
 induction k with
 |root h1=>exact h.root _ h1
 |call _ ho ih=>exact h.call _ ih ho
 |next _ ho hj ih=>exact h.next _ _ ih ho hj
 |back _ ho _ hj ih1 ih2=>exact h.back _ _ ih1 ho ih2 hj
structure OD(c:aF)(H:Nat->Nat->Prop):Prop where
 lock:∀i j,cD c i->(bO c i).op=6->j∈cQ c i->H j (bS c i)
 pass:∀i j l,cD c i->l<6->¬(bO c i).op=4->¬((bO c i).op=7/\bS c i=l)->H i l->j∈cQ c i->H j l
 call:∀i l,cD c i->l<6->(bO c i).op=4->H i l->H (eN c (bS c i)) l
 back:∀i j l,cD c i->l<6->(bO c i).op=4->cD c (zN c (bS c i))->H (zN c (bS c i)) l->j∈cQ c i->H j l
theorem OD.all{H:Nat->Nat->Prop}(h:OD c H){i l:Nat}(hl:l<6)(k:fT c i l):H i l:=by
 induction k with
 |lock hm ho ha hj=>exact ha▸h.lock _ _ hm ho hj
 |pass hm ho ha _ hj ih=>exact h.pass _ _ _ hm hl ho ha (ih hl) hj
 |call hm ho _ ih=>exact h.call _ _ hm hl ho (ih hl)
 |back hm ho hz _ hj ih=>exact h.back _ _ _ hm hl ho hz (ih hl) hj
structure dX where
 keep:Int
 gen:Int
def dX.ext_iff{x y:dX}:x=y↔(x.keep=y.keep/\x.gen=y.gen):=⟨λh=>by rw[h];exact⟨rfl,rfl⟩,λh=>by obtain⟨h0,h1⟩:=h;cases x;cases y;simp only at h0 h1;simp only[h0,h1]⟩
instance:DecidableEq dX:=λx y=>decidable_of_iff (x.keep=y.keep/\x.gen=y.gen) dX.ext_iff.symm
instance:Rep dX:=Rep.via λx=>(x.keep,x.gen)
def Xb{x:dX}(h:At w b o x):At w b (o+0) x.keep:=qI (α:=Int) (β:=Int) (p:=(x.keep,x.gen)) h
def An{x:dX}(h:At w b o x):At w b (o+1) x.gen:=kE (α:=Int) (β:=Int) (p:=(x.keep,x.gen)) h
instance:aV dX:=⟨⟨(aV.zv:Int),(aV.zv:Int)⟩,aV.zc (Int×Int),λw=>aV.zr (α:=Int×Int) w⟩
def ph{γ:Type}{H:List Nat->wD->γ->Prop}{x:dX}{upd:dX->γ}(h:bT H F w b o G x upd) :
   ∃G1,bT H F w b (o+1) G1 x.gen (λy=>upd ⟨x.keep,y⟩):=by
 have h':bT H F w b o G (x.keep,x.gen) (λp:Int×Int=>upd ⟨p.1,p.2⟩):=⟨h.here,h.sub,λw' G' _ hc hO hs=>h.back w' G' _ hc hO hs⟩;obtain⟨_,h'⟩:=h'.snd;exact⟨_,h'⟩
def xw{x:dX}(h_keep:bR x.keep)(h_gen:bR x.gen):aZ [] w (.agg #[iV x.keep,iV x.gen]) x:=⟨⟨[iV x.keep,iV x.gen],⟨[],[],[iV x.keep],[iV x.gen],rfl,rfl,⟨rfl,rfl,h_keep⟩,⟨rfl,rfl,h_gen⟩⟩,rfl⟩,kM,Wr.nil w⟩
instance:dN dX:=⟨λh=>dN.flat (α:=Int×Int) h⟩
def GN(x:Nat×Nat):dX:=⟨(x.1:Int),(x.2:Int)⟩
def oP(T:fX):List dX:=T.map GN
def KH(T:fX):(oP T).length=T.length:=by simp[oP]
def OC{T:fX}(h:q<(oP T).length):(oP T)[q]=GN (tbl T q):=by
 have h':q<T.length:=by rw[<-KH];exact h
 rw[<-SO h'];simp[oP]
def ug(T:fX)(q:Nat)(v:Nat×Nat):oP (T.set q v)=(oP T).set q (GN v):=by simp[oP,Hp]
def HE(h:n<6):2^n<64:=CX (n:=6) oo h
def FL.updM{T:fX}(hF:FL c T p h out)(hc:aM c)(hp:p<c.E.length){i j:Nat}(hi:dE c p i)(hj:j∈cQ c i)
   (hm:∀l,l<6->m.testBit l=false->eI c (tK T) (tG T) p (λl=>h.testBit l=true) i l):FL c T p h (out.set j (bD out j &&& aft c T i m)):=by
 have g1:=(rB hc hp hi).1;have g0:=(zZ hc g1 hj).1;refine⟨by simp[hF.len],λx hx=>?_,λk l hk hl hb=>?_,λl hl hb=>?_⟩
 ·rcases OS hx with rfl|hx
  ·exact uU AG (hF.lt0 j)
  exact hF.lt x hx
 ·rw[uF (by rw[hF.len];exact g0)]at hb;split at hb
  ·rename_i e;subst e;rw[wO,TQ]at hb;rcases hb with hb|hb
   ·exact hF.snd j l hk hl hb
   rcases XT.1 hb with h1|⟨h1,h2⟩
   ·exact .gen hi hj h1
   exact .pass hi hj (hm l hl h2) h1
  exact hF.snd k l hk hl hb
 rw[uF (by rw[hF.len];exact g0)];split
 ·rename_i e;rw[wO,e,hF.ent l hl hb];rfl
 exact hF.ent l hl hb
def rb{T:fX}(h0:Is W0 v0 (bO c i))(e0:aB W0 w)(h1:Is W1 v1 (oP T))(e1:aB W1 w)(hc:aM c)(hT:EW c T)(hi:i<c.I.length)(hm:m<64) :
   aJ tp 263 [v0,v1,iV m] w λr w'=>aB w w'/\r=iV (aft c T i m:Nat):=by
 refine co (g:=kf [] [] [(7,[0,1,2,3,4,5,6,7,8,9,10,11,12,13,14,15],0)]) Tryz.func263 ?_;refine iR h0 e0 λw1 g2 hA=>?_;have g3:=λh=>sW hc hi (.inl h);have g0:=λh=>yD hc hi h;have g1:aft c T i m=if (bO c i).op=6 then m ||| 2^bS c i else if (bO c i).op=7 then sH m (2^bS c i)else if (bO c i).op=4 then(m &&& (tbl T (bS c i)).1) ||| (tbl T (bS c i)).2 else m:=rfl;rw[g1];clear g1;generalize bS c i=q at *;generalize bO c i=I at *;refine aE lV<|aS aG (lW hA) xx λ_=>bI<|br (λc6=>?_) λc6=>?_
 ·obtain⟨ha,_,hq⟩:=g0 (.inl c6);have hp:=HE hq;rw[aP c6];refine aE mE<|aS aG (mF hA) xx λ_=>?_;rw[ha];refine sN kK sR oo<|DM oo<|xB oo oo<|⟨g2,rfl⟩
 rw[aH c6];refine bI<|br (λc7=>?_) λc7=>?_
 ·obtain⟨ha,_,hq⟩:=g0 (.inr c7);have hp:=HE hq;rw[aP c7];refine aE mE<|aS aG (mF hA) xx λ_=>?_;rw[ha];refine sN kK sR oo<|DM oo<|VR oo oo<|⟨g2,rfl⟩
 rw[aH c7];refine bI<|br (λc4=>?_) λc4=>?_
 ·obtain⟨ha,hq⟩:=g3 c4;rw[aP c4];have g4:=cO w1;generalize World.drew1 w1=w2 at *;have g5:q<(oP T).length:=by rw[KH,hT.1];exact hq
  have:=hT.2 q;have C:=g2.t g4;refine aE mE<|aS aG (mF hA) g4 λ_=>?_;rw[ha];refine bC FH HH h1 g5 λ_ _ hE=>?_;rw[OC]at hE;refine aE U8<|aS aG (Xb hE) (e1.trans C) λ_=>xV (n:=(tbl T q).1) oo oo<|aE mE<|aS aG (mF hA) g4 λ_=>?_;rw[ha];refine bC FH HH h1 g5 λ_ _ g9=>?_;rw[OC]at g9;refine aE UG<|aS aG (An g9) (e1.trans C) λ_=>?_;have:=AG (n:=m) (m:=(tbl T q).1);refine xB (n:=(tbl T q).2) oo oo<|⟨C,rfl⟩
 rw[aH c4];exact⟨g2,rfl⟩
def Jk{a:Nat}  (ha:a<64)(hb:b<64) :
   aJ tp 239 [iV a,iV b] w λr w'=>aB w w'/\(r=iV ((a &&& (63-b):Nat):Int)):=by
 refine co (g:=kf [] [] []) Tryz.func239 ?_;refine(Ts ).mM λ_ y1=>mL<|br (λc1=>?_) λc1=>?_
 ·refine⟨y1,?_⟩
  first|rfl|(exfalso;omega)
 refine(Ts ).mM λ_ y2=>mL<|br (λc2=>?_) λc2=>?_
 ·refine⟨xx,?_⟩
  first|rfl|(exfalso;omega)
 have g0:(63:Int)-(b:Int)=((63-b:Nat):Int):=oo;refine kQ io ?_;rw[g0];refine xV oo oo<|⟨xx,?_⟩
 first|rfl|(exfalso;omega)
def No{a b:Nat}(ha:a<64)(hb:b<64):a &&& (63-b)=sH a b:=by
 refine KW λl=>?_;rw[wO,AE];cases h:a.testBit l
 ·rfl
 have hl:=ID ha h;have:=Nat.testBit_two_pow_sub_succ (n:=6) (x:=b) hb l;rw[show 2^6-(b+1)=63-b by omega]at this;rw[this,decide_eq_true hl,KF]
def mh{T:fX}(h0:Is W0 v0 (bO c i))(e0:aB W0 w)(h1:Is W1 v1 (oP T))(e1:aB W1 w)(hc:aM c)(hT:EW c T)(hi:i<c.I.length)(hm:m<64) :
   aJ tp 292 [v0,v1,iV m] w λr w'=>aB w w'/\r=iV (aft c T i m:Nat):=by
 refine co (g:=kf [] [] [(7,[0,1,2,3,4,5,6,7,8,9,10,11,12,13,14,15],0)]) Tryz.func292 ?_;refine iR h0 e0 λw1 g2 hA=>?_;have g3:=λh=>sW hc hi (.inl h);have g0:=λh=>yD hc hi h;have g1:aft c T i m=if (bO c i).op=6 then m ||| 2^bS c i else if (bO c i).op=7 then sH m (2^bS c i)else if (bO c i).op=4 then(m &&& (tbl T (bS c i)).1) ||| (tbl T (bS c i)).2 else m:=rfl;rw[g1];clear g1;generalize bS c i=q at *;generalize bO c i=I at *;refine aE lV<|aS aG (lW hA) xx λ_=>bI<|br (λc6=>?_) λc6=>?_
 ·obtain⟨ha,_,hq⟩:=g0 (.inl c6);have hp:=HE hq;rw[aP c6];refine aE mE<|aS aG (mF hA) xx λ_=>?_;rw[ha];refine(PQ oo).mM λw2 C=>xB oo oo<|⟨xx,rfl⟩
 rw[aH c6];refine bI<|br (λc7=>?_) λc7=>?_
 ·obtain⟨ha,_,hq⟩:=g0 (.inr c7);have hp:=HE hq;rw[aP c7];refine aE mE<|aS aG (mF hA) xx λ_=>?_;rw[ha];refine(PQ oo).mM λw2 C=>(Jk hm hp).mM λ_ g9=>?_;exact⟨(g2.t C).trans g9,by rw[No hm hp]⟩
 rw[aH c7];refine bI<|br (λc4=>?_) λc4=>?_
 ·obtain⟨ha,hq⟩:=g3 c4;rw[aP c4];have C:=cO w1;generalize World.drew1 w1=w2 at *;have g4:q<(oP T).length:=by rw[KH,hT.1];exact hq
  have:=hT.2 q;have D:=g2.t C;refine aE mE<|aS aG (mF hA) C λ_=>?_;rw[ha];refine bC FH HH h1 g4 λ_ _ hE=>?_;rw[OC]at hE;refine aE U8<|aS aG (Xb hE) (e1.trans D) λ_=>xV (n:=(tbl T q).1) oo oo<|aE mE<|aS aG (mF hA) C λ_=>?_;rw[ha];refine bC FH HH h1 g4 λ_ _ g5=>?_;rw[OC]at g5;refine aE UG<|aS aG (An g5) (e1.trans D) λ_=>?_;have:=AG (n:=m) (m:=(tbl T q).1);refine xB (n:=(tbl T q).2) oo oo<|⟨D,rfl⟩
 rw[aH c4];exact⟨g2,rfl⟩
def HJ(c:aF)(i:Nat):Prop:=∃p,p<c.P.length/\dE c p i
structure WL(W0:wD)(b:Nat)(c:aF):Prop where
 code:At W0 b 0 c
 live:At W0 b (0+5) (cZ c.I.length (HJ c))
theorem Fs{p:Nat->Prop}(h:n<=m)(hp:∀ i,n<=i->i<m->¬p i):cC m p=cC n p:=by
 induction m with
 |zero=>(have:n=0:=by omega);subst this;rfl
 | succ m ih=>
   by_cases e:n=m+1
   ·rw[e]
   rw[xU (hp m oo oo),ih oo λi h1 _=>hp i h1 oo]
def VB(hW:WL W0 b c)(e0:aB W0 w)(hc:aM c)(hp:p<c.P.length) :
   aJ tp 143 [pT b 0,iV p] w λr w'=>aB w w'/\eG w.heap.size w' r (bN (cC c.I.length (dE c p))):=by
 refine co (g:=kf [] [(3,68719444064,[5,6])] []) Tryz.func143 ?_;have D:p<c.E.length:=by rw[hc.2.1.1];exact hp
 have hil:=hc.f.I;have h8:=hc.1.p8;obtain⟨g9,_,_⟩:=vM hc D;obtain⟨gb,_,_⟩:=HM hc D
 have g4:∀i,dE c p i->eN c p<=i/\i<=zN c p:=λi h=>by
   have:=rB hc D h;exact Hx hc this.1 D this.2
 refine bZ.mk rfl<|aE mT<|aE kJ<|aL dT (lJ hW.code) e0 λ_ gc=>bC bG aG gc D λ_ _ g5=>?_;rw[mP D,g9]at g5;refine aS aG g5 e0 λ_=>?_;generalize hE:eN c p=E at *;generalize hZ:zN c p=Z at *
 have h0:cC E (dE c p)=[]:=by
   rw[Fs (n:=0) (z0 _) λi _ h2 h3=>by have:=g4 i h3;omega];rfl
 refine bV (Z+1-E) (λk us w'=>∃(v:vL),us=[v,iV ((E+k:Nat):Int)]/\E+k<=Z+1/\aB w w'/\bQ w.heap.size w'.heap.size 3 w' v (bN (cC (E+k) (dE c p)))) 0 (z0 _) ⟨_,rfl,oo,xx,by rw[JY,h0];exact uC _ _ _ _⟩ ?_;rintro k mk _ _ _ ⟨v,hu,_,O,g2⟩;obtain⟨gd,gf⟩:=dQ hu;rw[gd,gf];have M:=e0.t O;have hs2:=O.size;refine bZ.mk rfl<|aE mT<|aL cP hW.code M λ_ gg=>(PX gg M oo).mM λw3 C=>?_;rw[gb];have g0:=M.t C;refine bM<|br (λ_=>?_) λ_=>?_
 case refine_2=>
   have hk:E+k=Z+1:=oo;refine⟨xx,?_⟩;rw[Fs (n:=Z+1) oo λi h1 _ h3=>by have:=g4 i h3;omega,<-hk];exact(g2.ext C).own.own
 have hk:E+k<c.I.length:=oo;refine bZ.mk rfl<|aE Br<|aL lT hW.live g0 λ_ gh=>bC eY cE (i:=E+k) gh (by rw[dZ];exact hk) λ_ _ gi=>iY cE gi g0 ?_;have g3:=lY (n:=c.I.length) (p:=HJ c) (i:=E+k);rw[kS (by rw[dZ];exact hk)]at g3
 have g1:HJ c (E+k)↔dE c p (E+k):=by
   constructor
   ·rintro⟨q,hq,hl⟩;have h1:=rB hc (by rw[hc.2.1.1];exact hq) hl;have h2:=Fa hc (p:=p) (i:=E+k) D oo oo;have:q=p:=oo;rwa[this]at hl
   exactλh=>⟨p,hp,h⟩
 have hsl:=pC (n:=E+k) (p:=dE c p);refine bW (λhf=>?_) λhf=>?_
 ·refine oS (lo2:=w3.heap.size) (hi2:=w3.heap.size) (x:=((E+k:Nat):Int)) bG aG z3 wQ dD (g2.ext C) (by have:=C.size;omega) (DC _ _ io) (by have:=C.size;omega) (by have:=C.size;omega) (by rw[eB,cB];omega) (by rw[cB];omega) λgj _ gl gn=>?_;refine aU<|⟨mk-1,oo,k+1,oo,gj,rfl,oo,(O.t C).xI gl oo,?_⟩;rw[<-DU,AS (g1.1 (g3.1 hf).2),HG];exact gn
 refine aU<|⟨mk-1,oo,k+1,oo,v,rfl,oo,xx,?_⟩;rw[<-DU,xU λh=>by rw[g3.2 ⟨hk,g1.2 h⟩]at hf;cases hf];exact(g2.ext C).mono (lr _) C.size
def FK{K:VW}(h0:0<n)(hn:n<=1000000)
   (k:∀w',aB w w'->aZ [w.heap.size] w' (.slice (some ⟨w.heap.size,0,none⟩) n n) (bN (List.replicate n 0))->K (.slice (some ⟨w.heap.size,0,none⟩) n n) w'):OP tp (Instr.makeSlice 31 (iV n) (iV n)) w K:=
 SX (α:=Int) bG aG rfl rfl Jw oo oo λw2 hx2 hr2=>by
   refine k w2 hx2 ?_;obtain⟨_,hM,_⟩:=hr2.own;obtain⟨_,_,_,hv,hF2⟩:=KD hM (by intro e;have:=cS List.length e;simp at this;omega);simp only[Value.slice.injEq,iU,Addr.mk.injEq,zI,and_true]at hv;obtain⟨⟨hb,_⟩,_⟩:=hv;rw[<-hb]at hF2;rw[hF2]at hM;have e:bN (List.replicate n 0)=List.replicate n (aV.zv:Int):=by simp only[bN,List.map_replicate];rfl
   rw[e];exact hM
def TK{t ty e:TypeId}{a:Option Addr}{n c:Nat}(ht:P.underlying t=some (.slice e))(k:K (iV n)) :
   RD P (Builtin.len_ #[t] ty [Value.slice a n c].toArray) w K:=dY (λw' _=>by simp[Builtin.len_,run_underlying ht];rfl) k
structure FW(w1 w:wD)(g n:Nat)(out:List Nat):Prop where
 ext:aB w1 w
 mine:aZ [g] w (.slice (some ⟨g,0,none⟩) n n) (bN out)
 g0:w1.heap.size<=g
section
variable {w1 w w':wD}{g n:Nat}{out:List Nat}
def FW.step(h:FW w1 w g n out)(hx:aB w w'):FW w1 w' g n out:=⟨h.ext.trans hx,h.mine.ext hx,h.g0⟩
def FJ(hc:cH [g] w w'):aN g (g+1) w w':=hc.toI λb hb=>by simp only[bF,dL,dI]at hb;omega
def FW.set{i v:Nat}(h:FW w1 w g n out)(hc:cH [g] w w')(hm:aZ [g] w' (.slice (some ⟨g,0,none⟩) n n) ((bN out).set i (v:Int))):FW w1 w' g n (out.set i v):=
 ⟨h.ext.xI (FJ hc) h.g0,by rw[NC];exact hm,h.g0⟩
def FW.lt(h:FW w1 w g n out):g<w.heap.size:=h.mine.lt g ss
def FW.own(h:FW w1 w g n out):eG w1.heap.size w (.slice (some ⟨g,0,none⟩) n n) (bN out):=⟨[g],h.mine,λb hb=>by simp only[bF,dL,dI]at hb;have:=h.g0;omega⟩
end
def tN{v:Nat}(h:v<9223372036854775808):aZ [] w (iV v) (v:Int):=xN io
def fil(n k:Nat):List Nat:=List.replicate k 63++List.replicate (n-k) 0
def Mj(h:k<=n):(fil n k).length=n:=by simp[fil];omega
def Lc(h:k<n):(fil n k).set k 63=fil n (k+1):=by
 obtain⟨m,hm⟩:∃m,n-k=m+1:=⟨n-k-1,oo⟩;unfold fil;rw[MQ _ _ ss,hm,pY,Hh,List.replicate_succ,List.set_cons_zero,Ek,show n-(k+1)=m by omega];simp
def Lx(n:Nat):fil n n=List.replicate n 63:=by simp[fil]
structure FP(c:aF)(T:fX)(p h:Nat)(out0 L:List Nat)(k:Nat)(ag:Bool)(out:List Nat):Prop where
 fl:FL c T p h out
 yes:ag=true->out.sum<out0.sum
 no:ag=false->out=out0/\∀i∈L.take k,VZ c T out0 i
structure FQ(c:aF)(T:fX)(p h:Nat)(out0 L:List Nat)(k i q:Nat)(ag:Bool)(out:List Nat):Prop where
 fl:FL c T p h out
 yes:ag=true->out.sum<out0.sum
 no:ag=false->out=out0/\(∀i∈L.take k,VZ c T out0 i)/\∀j∈(cQ c i).take q,bD out0 j &&& aft c T i (bD out0 i)=bD out0 j
section
variable {c:aF}{T:fX}{p h k i q m:Nat}{out0 L out:List Nat}{ag:Bool}
def FP.enter(H:FP c T p h out0 L k ag out)(i:Nat):FQ c T p h out0 L k i 0 ag out:=⟨H.fl,H.yes,λe=>⟨(H.no e).1,(H.no e).2,ss⟩⟩
theorem FQ.set(H:FQ c T p h out0 L k i q ag out)(hc:aM c)(hp:p<c.E.length)(hi:dE c p i)(hq:q<(cQ c i).length)(hm:∀ l,l<6->m.testBit l=false->eI c (tK T) (tG T) p (λl=>h.testBit l=true) i l)
   (g1:bD out (cQ c i)[q] &&& aft c T i m≠bD out (cQ c i)[q]):FQ c T p h out0 L k i (q+1) true (out.set (cQ c i)[q] (bD out (cQ c i)[q] &&& aft c T i m)):=by
 have hj:=cY hq;have g0:=(zZ hc (rB hc hp hi).1 hj).1;refine⟨H.fl.updM hc hp hi hj hm,λ_=>?_,λe=>by cases e⟩;have h1:=QU (l:=out) (i:=(cQ c i)[q]) (v:=bD out (cQ c i)[q] &&& aft c T i m) (by rw[H.fl.len];exact g0);have h2:=Tm g1;cases ag with
 |true=>have:=H.yes rfl;omega
 |false=>rw[(H.no rfl).1]at h1 h2 ⊢;omega
def FQ.skip(H:FQ c T p h out0 L k i q ag out)(hq:q<(cQ c i).length)(hz:ag=false->m=bD out0 i)(he:bD out (cQ c i)[q] &&& aft c T i m=bD out (cQ c i)[q]):FQ c T p h out0 L k i (q+1) ag out:=by
 refine⟨H.fl,H.yes,λe=>⟨(H.no e).1,(H.no e).2.1,λj hj=>?_⟩⟩;rw[tk hq]at hj;rcases dF.1 hj with hj|hj
 ·exact(H.no e).2.2 j hj
 simp only[bF,dL,dI]at hj;rw[(H.no e).1,hz e]at he;rw[hj];exact he
def FQ.done(H:FQ c T p h out0 L k i q ag out)(hk:k<L.length)(hi:L[k]=i)(hq:(cQ c i).length<=q):FP c T p h out0 L (k+1) ag out:=by
 refine⟨H.fl,H.yes,λe=>⟨(H.no e).1,λi' g0=>?_⟩⟩;rw[tk hk]at g0;rcases dF.1 g0 with h1|h1
 ·exact(H.no e).2.1 i' h1
 simp only[bF,dL,dI]at h1;rw[h1,hi];have:=(H.no e).2.2;rw[iO hq]at this;exact this
end
def Ha{T:fX}(hW:WL W0 b c)(e0:aB W0 w)(h1:Is W1 v1 (oP T))(e1:aB W1 w)(hc:aM c)(hT:EW c T)(hp:p<c.P.length)(hh:h<64) :
   aJ tp 209 [pT b 0,v1,iV p,iV h] w λr w'=>aB w w'/\eG w.heap.size w' r (bN (lL c T p h)):=by
 refine co (g:=kf [] [(3,17045652480,[27]),(10,158456325028528393712111374336,[12]),(13,158456325028526423387274399744,[12,51]),(17,79228153069531371854253658112,[12,73])] [(15,[0,1,2,3,4,5,6,7,8,9,10,11,12,13,14],0),(19,[0,1,2,3,4,5,6,7,8,9,10],0)]) Tryz.func209 ?_;have Z:p<c.E.length:=by rw[hc.2.1.1];exact hp
 have ht:=hc.f.I;obtain⟨hv,gt,_⟩:=vM hc Z;have gx:=FL.start (T:=T) hc Z hh;have gy:=λ{out}=>FL.fin (c:=c) (T:=T) (p:=p) (h:=h) (out:=out);refine bZ.mk rfl<|aE mT<|aE eW<|aL eJ (fV hW.code) e0 λ_ hw=>aX eQ hw ?_;have hn:c.I.length=c.I.length:=rfl;generalize hnn:c.I.length=n at hn;rw[hnn]at gt gx ht;refine FK oo oo λw2 hx gS=>?_;generalize hg:w.heap.size=g at *;have gT:FW w w2 g n (fil n 0):=⟨hx,by simpa[fil]using gS,oo⟩;refine TK bG<|bV n (λk us w'=>us=[iV k]/\k<=n/\FW w w' g n (fil n k)) 0 (z0 _) ⟨rfl,z0 _,gT⟩ ?_;rintro k mk u _ gU ⟨hu,gV,g1⟩;try replace hu:=cJ hu
 rw[hu];refine bM<|br (λgW=>?_) λgX=>?_
 ·have hk:k<n:=oo;refine oA (α:=Int) rfl bG aG hk<|oC (α:=Int) rfl aG g1.mine (by rw[cB,Mj gV]) hk (tN (v:=63) oo) λw4 gz gA=>?_;have g4:=g1.set (v:=63) gz gA;rw[Lc hk]at g4;refine aU<|⟨mk-1,oo,k+1,oo,rfl,oo,g4⟩
 have hk:k=n:=oo;rw[hk,Lx]at g1;clear gT gS hu gU;refine bZ.mk rfl<|aE mT<|aE kJ<|aL dT (lJ hW.code) (e0.t g1.ext) λ_ hy=>bC bG aG hy Z λb1 o1 g9=>?_;rw[mP Z,hv]at g9;refine aS aG g9 (e0.t g1.ext) λ_=>oA (α:=Int) rfl bG aG gt<|oC (α:=Int) rfl aG g1.mine (by rw[cB];simp) gt (tN (v:=h) oo) λw4 gz gA=>?_;have g4:=g1.set (v:=h) gz gA;refine(VB hW (e0.t g4.ext) hc hp).mono ?_;rintro gB w5 ⟨hz,hA⟩;have gY:=g4.step hz;have hg4:=g4.lt;have hL:∀i∈cC c.I.length (dE c p),dE c p i:=λi hi=>(mG.1 hi).2;have hB:∀i,dE c p i->i∈cC c.I.length (dE c p):=λi hi=>mG.2 ⟨(rB hc Z hi).1,hi⟩;have hLl:(cC c.I.length (dE c p)).length<=1500:=eH pC (by rw[hnn];omega);generalize cC c.I.length (dE c p)=L at *;generalize (List.replicate n 63).set (eN c p) h=out at gx gY;have hC:=hA.toI;generalize hlo:w4.heap.size=lo at *;generalize hhi:w5.heap.size=hi at *;refine iB.mk (λm us w'=>∃(ag:Bool)(out:List Nat),us=[.bool ag]/\m=out.sum+(if ag then 1 else 0)/\FW w w' g n out/\aK lo hi w' gB (bN L)/\FL c T p h out/\(ag=false->∀i,dE c p i->VZ c T out i)) (out.sum+1) ⟨true,out,rfl,rfl,gY,hC,gx,λe=>by cases e⟩ ?_;rintro m u _ ⟨ag,out,hu,hm,gC,gZ,h4,hD⟩;try replace hu:=cJ hu
 rw[hu];refine bW (λgD=>?_) λgD=>?_
 case refine_2=>have:=gy h4 hc Z (hD gD);rw[<-this];have h5:=gC.own;rw[hg]at h5;exact⟨gC.ext,h5⟩
 rw[gD,aP rfl]at hm;refine aX bG gZ.is ?_;rw[cB];refine bV L.length (λk us w'=>∃(ag:Bool)(out':List Nat),us=[.bool ag,iV k]/\k<=L.length/\FW w w' g n out'/\aK lo hi w' gB (bN L)/\FP c T p h out L k ag out') 0 (z0 _) ⟨false,out,rfl,z0 _,gC,gZ,h4,λe=>(by cases e),λ_=>⟨rfl,ss⟩⟩ ?_;rintro k mk u w7 gU ⟨gb,D,hu,gV,h6,gE,V⟩;obtain⟨gF,gG⟩:=dQ hu;clear hu;rw[gF,gG];refine bM<|br (λgW=>?_) λgX=>?_
 case refine_2=>
   refine⟨D.sum+(if gb then 1 else 0),?_,gb,D,rfl,rfl,h6,gE,V.fl,λe i hi=>?_⟩
   ·cases gb with
    |true=>have:=V.yes rfl;simp;omega
    |false=>rw[(V.no rfl).1];simp;omega
   have:=V.no e;rw[this.1];exact this.2 i (by rw[iO oo];exact hB i hi)
 have hk:k<L.length:=oo;refine bC bG aG (i:=k) gE.is (by rw[cB];exact hk) λ_ _ h8=>?_;rw[nI]at h8;refine aS aG h8 xx λ_=>?_;generalize hix:L[k]=i at *;have h9:dE c p i:=hL i (by rw[<-hix];exact cY hk);have g2:=(rB hc Z h9).1;have ha:=cO w7;have g5:=h6.step ha;have hG:=gE.ext ha;generalize World.drew1 w7=w8 at *;refine bZ.mk rfl<|aE mT<|aE eW<|aL eJ (fV hW.code) (e0.t g5.ext) λ_ hH=>bC eQ fE hH g2 λ_ _ hd=>?_;rw[oM]at hd;refine aL fE hd (e0.t g5.ext) λ_ hI=>?_;have hJ:=V.fl.len;refine bC bG aG (i:=i) g5.mine.is (by rw[cB,hJ];exact g2) λ_ _ he=>?_;rw[oQ]at he;refine aS aG he xx λ_=>?_;have gc:=V.fl.lt0 i;have hK:∀l,l<6->(bD D i).testBit l=false->eI c (tK T) (tG T) p (λl=>h.testBit l=true) i l:=λl hl hb=>V.fl.snd i l g2 hl hb;have hM:gb=false->bD D i=bD out i:=λe=>by rw[(V.no e).1]
 generalize bD D i=mm at *;refine(rb hI (e0.t g5.ext) h1 (e1.trans g5.ext) hc hT g2 gc).mM λw9 hf=>?_;have gH:=g5.step hf;have hN:=hG.ext hf;have haf:=Wk hc hT g2 gc;refine(Fk hW.code (e0.t gH.ext) hc g2).mono ?_;rintro hO hP ⟨gd,gf⟩;have hg9:=gH.lt;have hl2:=OE c i;refine aX bG gf.is ?_;rw[cB];refine bV (cQ c i).length (λq us w'=>∃(ag:Bool)(out':List Nat),us=[.bool ag,iV q]/\q<=(cQ c i).length/\FW w w' g n out'/\aK lo hi w' gB (bN L)/\aK w9.heap.size hP.heap.size w' hO (bN (cQ c i))/\FQ c T p h out L k i q ag out'/\(ag=false->mm=bD out i)) 0 (z0 _) ⟨gb,D,rfl,z0 _,(gH.step gd),(hN.ext gd),gf.toI,(V.enter i),hM⟩ ?_;rintro q mq u hr _ ⟨gg,C,hu,_,gh,gi,gj,O,gl⟩;obtain⟨gF,gG⟩:=dQ hu;rw[gF,gG];refine bM<|br (λgW=>?_) λgX=>?_
 case refine_2=>refine aU<|⟨mk-1,oo,k+1,oo,gg,C,rfl,oo,gh,gi,O.done hk hix oo⟩
 have hq:q<(cQ c i).length:=oo;refine bC bG aG (i:=q) gj.is (by rw[cB];exact hq) λ_ _ hs=>?_;rw[nI]at hs;refine aS aG hs xx λ_=>?_;have g3:=cO hr;have M:=gh.step g3;have gn:=gi.ext g3;have gp:=gj.ext g3;generalize World.drew1 hr=w12 at *;have hj:=zZ hc g2 (cY hq);have gq:=O.fl.len;have gM:=O.set (m:=mm) hc Z h9 hq hK;have gr:=O.skip (m:=mm) hq gl;have hQ:=O.fl.lt0 (cQ c i)[q];have gN:=hj.1;rw[hnn]at gN;generalize (cQ c i)[q]=j at *
 have gO:∀{w':wD}{K:vL->Prop}(hF:FW w w' g n C)(k:K (iV (bD C j:Int))),RD tp (Instr.indexAt 31 (.slice (some ⟨g,0,none⟩) n n) (iV j)) w' λhR=>RD tp (Instr.loadAt 3 hR) w' K:=λhF k=>by
   refine bC bG aG (i:=j) hF.mine.is (by rw[cB,gq];exact hj.1) λb1 o1 g9=>?_;rw[oQ]at g9;exact aS aG g9 xx λ_=>k
 refine gO M<|xV oo oo<|gO M<|fP<|br (λhS=>?_) λhU=>?_
 ·have gP:bD C j &&& aft c T i mm≠bD C j:=λe=>hS (by rw[e]);refine gO M<|xV oo oo<|oA (α:=Int) rfl bG aG gN ?_;have hvl:=AG (n:=bD C j) (m:=aft c T i mm);refine oC (α:=Int) rfl aG M.mine (by rw[cB,gq,hnn]) gN (tN (v:=bD C j &&& aft c T i mm) oo) λ_ gs gQ=>?_;have gR:=M.set (v:=bD C j &&& aft c T i mm) gs gQ;have g0:=FJ gs;refine aU<|⟨mq-1,oo,q+1,oo,true,_,rfl,oo,gR,gn.chg g0 oo,gp.chg g0 oo,gM gP,λe=>by cases e⟩
 refine aU<|⟨mq-1,oo,q+1,oo,gg,C,rfl,oo,M,gn,gp,gr (xC.1 (eK.1 hU)),gl⟩
def Oy{T:fX}(h0:Is W0 v0 c)(e0:aB W0 w)(h1:Is W1 v1 (oP T))(e1:aB W1 w)(hc:aM c)(hT:EW c T)(hp:p<c.P.length)(hh:h<64) :
   aJ tp 235 [v0,v1,iV p,iV h] w λr w'=>aB w w'/\eG w.heap.size w' r (bN (lL c T p h)):=by
 refine co (g:=kf [] [(3,2143290368,[10]),(10,20282409603651670406355065495552,[13]),(13,20282409603651670388762879451136,[13,14]),(17,20282409603651526308759175634944,[13,16])] [(15,[0,1,2,3,4,5,6],0),(19,[0,1,2,3,4,5,6,7,8,9,10,11,12,13,14,15,16,17,18,19,20,21,22,23,24,25],8388608)]) Tryz.func235 ?_;have V:p<c.E.length:=by rw[hc.2.1.1];exact hp
 have hC:=hc.f.I;obtain⟨hD,gC,_⟩:=vM hc V;have gD:=FL.start (T:=T) hc V hh;have gE:=λ{out}=>FL.fin (c:=c) (T:=T) (p:=p) (h:=h) (out:=out);refine iR h0 e0 λw1 gF hA=>?_;have hs1:=gF.size;refine aE eW<|aL eJ (fV hA) xx λ_ hG=>aX eQ hG ?_;have hn:c.I.length=c.I.length:=rfl;generalize hnn:c.I.length=n at hn;rw[hnn]at gC gD hC;refine FK oo oo λw2 hH h5=>?_;generalize hg:w1.heap.size=g at *;have h6:FW w1 w2 g n (fil n 0):=⟨hH,by simpa[fil]using h5,oo⟩;refine bV n (λk us w'=>us=[iV k]/\k<=n/\FW w1 w' g n (fil n k)) 0 (z0 _) ⟨rfl,z0 _,h6⟩ ?_;rintro k mk u _ h8 ⟨hu,h9,g3⟩;try replace hu:=cJ hu
 rw[hu];refine TK bG<|bM<|br (λha=>?_) λhd=>?_
 ·have hk:k<n:=oo;refine oA (α:=Int) rfl bG aG hk<|oC (α:=Int) rfl aG g3.mine (by rw[cB,Mj h9]) hk (tN (v:=63) oo) λw4 gG gH=>?_;have g4:=g3.set (v:=63) gG gH;rw[Lc hk]at g4;refine aU<|⟨mk-1,oo,k+1,oo,rfl,oo,g4⟩
 have hk:k=n:=oo;rw[hk,Lx]at g3;clear h6 h5 hu h8;refine aE kJ<|aL dT (lJ hA) g3.ext λ_ hI=>bC bG aG hI V λb1 o1 O=>?_;rw[mP V,hD]at O;refine aS aG O g3.ext λ_=>oA (α:=Int) rfl bG aG gC<|oC (α:=Int) rfl aG g3.mine (by rw[cB];simp) gC (tN (v:=h) oo) λw4 gG gH=>?_;have g4:=g3.set (v:=h) gG gH;refine aL cP hA g4.ext λ_ hJ=>(WD hJ g4.ext hc V).mono ?_;rintro _ w5 ⟨he,hK⟩;have gz:=g4.step he;refine(Bo hK.is xx (by rw[dZ,hnn];omega)).mono ?_;rintro gd hM ⟨gI,gf⟩;rw[dZ,YL]at gf;have gz:=gz.step gI;have hg4:=g4.lt;have hg5:g<w5.heap.size:=by have:=he.size;omega
 have hL:∀i∈cC c.I.length (dE c p),dE c p i:=λi hi=>(mG.1 hi).2;have hN:∀i,dE c p i->i∈cC c.I.length (dE c p):=λi hi=>mG.2 ⟨(rB hc V hi).1,hi⟩;have hLl:(cC c.I.length (dE c p)).length<=1500:=eH pC (by rw[hnn];omega);generalize cC c.I.length (dE c p)=L at *;generalize (List.replicate n 63).set (eN c p) h=out at gD gz;have hP:=gf.toI;generalize hlo:w5.heap.size=lo at *;generalize hhi:hM.heap.size=hi at *;refine iB.mk (λm us w'=>∃(ag:Bool)(out:List Nat),us=[.bool ag]/\m=out.sum+(if ag then 1 else 0)/\FW w1 w' g n out/\aK lo hi w' gd (bN L)/\FL c T p h out/\(ag=false->∀i,dE c p i->VZ c T out i)) (out.sum+1) ⟨true,out,rfl,rfl,gz,hP,gD,λe=>by cases e⟩ ?_;rintro m u _ ⟨ag,out,hu,hm,gJ,hQ,hf,hR⟩;try replace hu:=cJ hu
 rw[hu];refine bW (λgK=>?_) λgK=>?_
 case refine_2=>have:=gE hf hc V (hR gK);rw[<-this];exact⟨gF.t gJ.ext,gJ.own.mono oo⟩
 rw[gK,aP rfl]at hm;refine bV L.length (λk us w'=>∃(ag:Bool)(out':List Nat),us=[.bool ag,iV k]/\k<=L.length/\FW w1 w' g n out'/\aK lo hi w' gd (bN L)/\FP c T p h out L k ag out') 0 (z0 _) ⟨false,out,rfl,z0 _,gJ,hQ,hf,λe=>(by cases e),λ_=>⟨rfl,ss⟩⟩ ?_;rintro k mk u w7 h8 ⟨gA,g5,hu,h9,hr,gL,gg⟩;obtain⟨gM,gN⟩:=dQ hu;clear hu;rw[gM,gN];refine aX bG gL.is ?_;rw[cB];refine bM<|br (λha=>?_) λhd=>?_
 case refine_2=>
   refine⟨g5.sum+(if gA then 1 else 0),?_,gA,g5,rfl,rfl,hr,gL,gg.fl,λe i hi=>?_⟩
   ·cases gA with
    |true=>have:=gg.yes rfl;simp;omega
    |false=>rw[(gg.no rfl).1];simp;omega
   have:=gg.no e;rw[this.1];exact this.2 i (by rw[iO oo];exact hN i hi)
 have hk:k<L.length:=oo;have hs:=cO w7;have gB:=hr.step hs;have ht:=gL.ext hs;generalize World.drew1 w7=w8 at *;refine aL cP hA gB.ext λ_ hS=>bC bG aG (i:=k) ht.is (by rw[cB];exact hk) λ_ _ hv=>?_;rw[nI]at hv;refine aS aG hv xx λ_=>?_
 have hw:∀{w':wD}{K:vL->Prop}(hO:aK lo hi w' gd (bN L))(kk:K (iV ((L[k]:Nat):Int))),RD tp (Instr.indexAt 31 gd (iV k)) w' λgh=>RD tp (Instr.loadAt 3 gh) w' K:=λhO kk=>by
   refine bC bG aG (i:=k) hO.is (by rw[cB];exact hk) λb1 o1 O=>?_;rw[nI]at O;exact aS aG O xx λ_=>kk
 generalize hix:L[k]=i at *;have hx:dE c p i:=hL i (by rw[<-hix];exact cY hk);have g9:=(rB hc V hx).1;refine(Iy hS gB.ext hc g9).mono ?_;rintro gO hy ⟨gi,gP⟩;have hg8:=gB.lt;have hl2:=OE c i;refine bV (cQ c i).length (λq us w'=>∃(ag:Bool)(out':List Nat),us=[.bool ag,iV q]/\q<=(cQ c i).length/\FW w1 w' g n out'/\aK lo hi w' gd (bN L)/\aK w8.heap.size hy.heap.size w' gO (bN (cQ c i))/\FQ c T p h out L k i q ag out') 0 (z0 _) ⟨gA,g5,rfl,z0 _,(gB.step gi),(ht.ext gi),gP.toI,(gg.enter i)⟩ ?_;rintro q mq u hz _ ⟨gj,C,hu,_,gl,gn,gp,D⟩;obtain⟨gM,gN⟩:=dQ hu;rw[gM,gN];refine aX bG gp.is ?_;rw[cB];refine bM<|br (λha=>?_) λhd=>?_
 case refine_2=>refine aU<|⟨mk-1,oo,k+1,oo,gj,C,rfl,oo,gl,gn,D.done hk hix oo⟩
 have hq:q<(cQ c i).length:=oo;have gb:=cO hz;have M:=gl.step gb;have gc:=gn.ext gb;have gq:=gp.ext gb;generalize World.drew1 hz=w12 at *;have hj:=zZ hc g9 (cY hq);have gr:=D.fl.len;have gs:=D.fl.lt0 i;have hU:∀l,l<6->(bD C i).testBit l=false->eI c (tK T) (tG T) p (λl=>h.testBit l=true) i l:=λl hl hb=>D.fl.snd i l g9 hl hb;have gU:=D.set (m:=bD C i) hc V hx hq hU;have gt:=D.skip (m:=bD C i) hq (λe=>by rw[(D.no e).1]);have hV:=D.fl.lt0 (cQ c i)[q];have gV:=hj.1;rw[hnn]at gV
 have gW:∀{w':wD}{K:vL->Prop}(hO:aK w8.heap.size hy.heap.size w' gO (bN (cQ c i)))(kk:K (iV (((cQ c i)[q]:Nat):Int))),RD tp (Instr.indexAt 31 gO (iV q)) w' λgh=>RD tp (Instr.loadAt 3 gh) w' K:=λhO kk=>by
   refine bC bG aG (i:=q) hO.is (by rw[cB];exact hq) λb1 o1 O=>?_;rw[nI]at O;exact aS aG O xx λ_=>kk
 generalize (cQ c i)[q]=j at *
 have gX:∀{w':wD}{K:vL->Prop}{i:Nat}(hF:FW w1 w' g n C)(hi:i<c.I.length)(k:K (iV (bD C i:Int))),RD tp (Instr.indexAt 31 (.slice (some ⟨g,0,none⟩) n n) (iV i)) w' λgh=>RD tp (Instr.loadAt 3 gh) w' K:=λ{w' K i} hF hi k=>by
   refine bC bG aG (i:=i) hF.mine.is (by rw[cB,gr];exact hi) λb1 o1 O=>?_;rw[oQ]at O;exact aS aG O xx λ_=>k
 refine gW gq<|gX M hj.1<|aE eW<|aL eJ (fV hA) M.ext λ_ hW=>hw gc<|bC eQ fE hW g9 λ_ _ hB=>?_;rw[oM]at hB;refine aL fE hB M.ext λ_ hX=>hw gc<|gX M g9<|(mh hX M.ext h1 (e1.trans (gF.t M.ext)) hc hT g9 gs).mM λ_ Z=>?_;refine⟨Z,?_⟩;have g0:=M.step Z;have gx:=gc.ext Z;have g1:=gq.ext Z;have haf:=Wk hc hT g9 gs;have hvl:=AG (n:=bD C j) (m:=aft c T i (bD C i));refine xV (m:=bD C j) (n:=aft c T i (bD C i)) oo oo<|gW g1<|gX g0 hj.1<|fP<|br (λhY=>?_) λhZ=>?_
 ·have gY:bD C j &&& aft c T i (bD C i)≠bD C j:=λe=>hY (by rw[e]);refine gW g1<|oA (α:=Int) rfl bG aG gV<|oC (α:=Int) rfl aG g0.mine (by rw[cB,gr,hnn]) gV (tN (v:=bD C j &&& aft c T i (bD C i)) oo) λ_ gy gZ=>?_;have h4:=g0.set (v:=bD C j &&& aft c T i (bD C i)) gy gZ;have g2:=FJ gy;refine aU<|⟨mq-1,oo,q+1,oo,true,_,rfl,oo,h4,gx.chg g2 oo,g1.chg g2 oo,gU gY⟩
 refine aU<|⟨mq-1,oo,q+1,oo,gj,C,rfl,oo,g0,gx,g1,gt (xC.1 (eK.1 hZ))⟩
theorem Yp{p:Nat->Prop}{n:Nat}:∀{k:Nat},k<=n->uQ (eM p n) k=bN (cC k p)
 |0,_=>rfl
 | k+1,h=>by
   rw[uQ,Yp (k:=k) oo];by_cases hp:p k
   ·rw[aP (nW.2 ⟨oo,hp⟩),AS hp,HG];rfl
   rw[aH λe=>hp (nW.1 e).2,xU hp]
def MT{p:Nat->Prop}(h:n<=62):iK (eM p n)=bN (cC n p):=by
 rw[Gl (k:=n) RJ oo,Yp (lr _)]
def uW{p:Nat->Prop}(h:n<=8):eM p n<256:=kP RJ (tX (n:=2) oo h)
noncomputable def cls(c:aF)(op:Int):List Nat:=(List.range c.P.length).map λp=>eM (rY c p op) c.P.length
noncomputable def frs(c:aF):List Nat:=(List.range c.P.length).map λp=>eM (bL c p) c.P.length
def KY(c:aF)(op:Int):(cls c op).length=c.P.length:=by simp[cls]
def TM(c:aF):(frs c).length=c.P.length:=by simp[frs]
def G8(hp:p<c.P.length):bD (cls c op) p=eM (rY c p op) c.P.length:=by rw[<-pQ (by rw[KY];exact hp)];simp[cls]
def Bc(hp:p<c.P.length):bD (frs c) p=eM (bL c p) c.P.length:=by rw[<-pQ (by rw[TM];exact hp)];simp[frs]
noncomputable def sD(c:aF):Nat:=eM (bE c) c.P.length
noncomputable def rL(c:aF):Nat:=eM (bU c) c.P.length
structure tI(W0:wD)(b:Nat)(c:aF):Prop where
 wl:WL W0 b c
 calls:At W0 b (0+6) (bN (cls c 4))
 spawns:At W0 b (0+7) (bN (cls c 5))
 frm:At W0 b (0+8) (bN (frs c))
 roots:At W0 b (0+9) (sD c:Int)
 used:At W0 b (0+10) (rL c:Int)
def KI(m:Nat)(P:Nat->Prop):Prop:=m<64/\∀l,l<6->(m.testBit l=false↔P l)
def KI.start{P:Nat->Prop}(h:∀ l,¬P l):KI 63 P:=⟨oo,λl hl=>by rw[XI hl];exact⟨λe=>(by cases e),λe=>absurd e (h l)⟩⟩
def KI.drop{m a:Nat}{P P':Nat->Prop}(h:KI m P)(hP:∀ l,P' l↔P l\/a=l):KI (sH m (2^a)) P':=by
 refine⟨uU (PP _ _) h.1,λl hl=>?_⟩;rw[AE,AQ,hP,<-h.2 l hl];simp only[TQ,WR,lZ]
def KI.congr{P P':Nat->Prop}(h:KI m P)(hP:∀ l,P' l↔P l):KI m P':=⟨h.1,λl hl=>by rw[h.2 l hl,hP]⟩
def KI.eq{P:Nat->Prop}(h:KI m P):m=m6 λl=>¬P l:=XY h.1 λl hl=>by rw[<-h.2 l hl];simp
def BJ{α:Type}{l:List α}(hk:k<l.length){x:α}:x∈l.take (k+1)↔x∈l.take k\/x=l[k]:=by
 rw[tk hk,dF];simp
def UZ(c:aF)(q l:Nat):Prop:=∃i,dE c q i/\(bO c i).op=7/\bS c i=l
def zAa(hW:tI W0 b c)(e0:aB W0 w)(hc:aM c)(hp:p<c.P.length) :
   aJ tp 302 [pT b 0,iV p] w λr w'=>aB w w'/\r=iV (uJ c p:Nat):=by
 refine co (g:=kf [] [(3,72057594037404320,[5,19]),(6,36028796884746784,[5,27])] []) Tryz.func302 ?_;have h8:=hc.1.p8;have hil:=hc.f.I;refine bZ.mk rfl<|aE VV<|aL dT hW.frm e0 λ_ gj=>bC bG aG gj (by rw[cB,TM];exact hp) λ_ _ g9=>?_;rw[oQ,Bc hp]at g9;refine aS aG g9 e0 λ_=>?_;have hsm:=uW (p:=bL c p) h8.1;refine(JO (m:=eM (bL c p) c.P.length) oo).mono ?_;rintro _ w1 ⟨gb,g2⟩;rw[MT oo]at g2;have hL:∀q,q∈cC c.P.length (bL c p)↔q<c.P.length/\bL c p q:=λq=>mG;have hLl:=pC (n:=c.P.length) (p:=bL c p);generalize cC c.P.length (bL c p)=L at *;refine aX bG g2.is ?_;rw[cB];refine bV L.length (λk us w'=>∃m:Nat,us=[iV m,iV k]/\k<=L.length/\aB w1 w'/\KI m (λl=>∃q∈L.take k,UZ c q l)) 0 (z0 _) ⟨63,rfl,z0 _,xx,KI.start ss⟩ ?_;rintro k mk u _ _ ⟨m,hu,_,g1,hK⟩;obtain⟨g3,g4⟩:=dQ hu;clear hu;rw[g3,g4];refine bM<|br (λgl=>?_) λgn=>?_
 case refine_2=>
   rw[show L.take k=L from iO oo]at hK;refine⟨xx,?_⟩
   have:m=uJ c p:=by
     rw[hK.eq];refine O5 λl _=>not_congr ?_;constructor
     ·rintro⟨q,hq,i,h1,h2,h3⟩;exact⟨q,i,((hL q).1 hq).1,((hL q).1 hq).2,h1,h2,h3⟩
     rintro⟨q,i,h0,hf,h1,h2,h3⟩;exact⟨q,(hL q).2 ⟨h0,hf⟩,i,h1,h2,h3⟩
   rw[this]
 have hk:k<L.length:=oo;refine bC bG aG (i:=k) (g2.is) (by rw[cB];exact hk) λ_ _ gc=>?_;rw[nI]at gc;refine aS aG gc g1 λ_=>?_;have hq:=(hL L[k]).1 (cY hk);have g5:=λx=>BJ hk (x:=x);generalize L[k]=q at *;have g0:=(e0.t gb).trans g1;refine(VB hW.wl g0 hc hq.1).mono ?_;rintro _ w3 ⟨gd,gf⟩;have hM:∀i,i∈cC c.I.length (dE c q)↔i<c.I.length/\dE c q i:=λi=>mG;have hMl:=pC (n:=c.I.length) (p:=dE c q);generalize cC c.I.length (dE c q)=M at *;refine aX bG gf.is ?_;rw[cB];refine bV M.length (λj us w'=>∃m:Nat,us=[iV m,iV j]/\j<=M.length/\aB w3 w'/\KI m (λl=>(∃q∈L.take k,UZ c q l)\/∃i∈M.take j,(bO c i).op=7/\bS c i=l)) 0 (z0 _) ⟨m,rfl,z0 _,xx,hK.congr λl=>by simp⟩ ?_;rintro j mj u _ _ ⟨m4,hu,_,D,O⟩;obtain⟨g3,g4⟩:=dQ hu;rw[g3,g4];refine bM<|br (λgl=>?_) λgn=>?_
 case refine_2=>
   rw[show M.take j=M from iO oo]at O;refine aU<|⟨mk-1,oo,k+1,oo,m4,rfl,oo,xx,O.congr λl=>?_⟩;constructor
   ·rintro⟨r,hr,h1⟩;rcases(g5 r).1 hr with hr|rfl
    ·exact .inl ⟨r,hr,h1⟩
    obtain⟨i,h1,h2,h3⟩:=h1;exact .inr ⟨i,(hM i).2 ⟨(rB hc (by rw[hc.2.1.1];exact hq.1) h1).1,h1⟩,h2,h3⟩
   rintro(⟨r,hr,h1⟩|⟨i,hi,h2,h3⟩)
   ·exact⟨r,(g5 r).2 (.inl hr),h1⟩
   exact⟨q,(g5 q).2 (.inr rfl),i,((hM i).1 hi).2,h2,h3⟩
 have hj:j<M.length:=oo;refine bC bG aG (i:=j) (gf.is) (by rw[cB];exact hj) λ_ _ gg=>?_;rw[nI]at gg;refine aS aG gg D λ_=>?_;have hi:=(hM M[j]).1 (cY hj);have V:=λx=>BJ hj (x:=x);generalize M[j]=i at *;have C:=g0.t (gd.t D);refine bZ.mk rfl<|aE mT<|aE eW<|aL eJ (fV hW.wl.code) C λ_ gp=>bC eQ fE gp hi.1 λ_ _ gh=>?_;rw[oM]at gh;refine aE lV<|aS aG (lW gh) C λ_=>bI<|br (λc7=>?_) λc7=>?_
 ·obtain⟨ha,_,gq⟩:=yD hc hi.1 (.inr c7);have hpw:=HE gq;refine bZ.mk rfl<|aE mT<|aE eW<|aL eJ (fV hW.wl.code) C λ_ gr=>bC eQ fE gr hi.1 λ_ _ gi=>?_;rw[oM]at gi;refine aE mE<|aS aG (mF gi) C λ_=>?_;rw[ha];refine sN kK sR oo<|DM oo ?_;have h64:=O.1;refine VR (m:=m4) (n:=2^bS c i) oo oo<|aU<|⟨mj-1,oo,j+1,oo,_,rfl,oo,D,O.drop λl=>?_⟩;constructor
  ·rintro(h|⟨r,hr,h1,h2⟩)
   ·exact .inl (.inl h)
   rcases(V r).1 hr with hr|rfl
   ·exact .inl (.inr ⟨r,hr,h1,h2⟩)
   exact .inr h2
  rintro((h|⟨r,hr,h1⟩)|h)
  ·exact .inl h
  ·exact .inr ⟨r,(V r).2 (.inl hr),h1⟩
  exact .inr ⟨i,(V i).2 (.inr rfl),c7,h⟩
 refine aU<|⟨mj-1,oo,j+1,oo,_,rfl,oo,D,O.congr λl=>?_⟩;constructor
 ·rintro(h|⟨r,hr,h1,h2⟩)
  ·exact .inl h
  rcases(V r).1 hr with hr|rfl
  ·exact .inr ⟨r,hr,h1,h2⟩
  exact absurd h1 c7
 rintro(h|⟨r,hr,h1⟩)
 ·exact .inl h
 exact .inr ⟨r,(V r).2 (.inl hr),h1⟩
def zwJ(h0:Is W0 v0 c)(e0:aB W0 w)(hc:aM c)(hp:p<c.P.length) :
   aJ tp 310 [v0,iV p] w λr w'=>aB w w'/\r=iV (uJ c p:Nat):=by
 refine co (g:=kf [] [(4,144115188075848640,[6,7]),(9,144115187807420992,[6,9])] []) Tryz.func310 ?_;have h8:=hc.1.p8;have hil:=hc.f.I;refine iR h0 e0 λ_ gh hA=>aL cP hA xx λ_ gi=>(Fo gi xx hc hp).mono ?_;rintro _ w1 ⟨gj,g,rfl,_,g9⟩;have gl:(λi=>i=p\/RP (EK c) p i)=bL c p:=rfl;rw[gl]at g9;refine bV c.P.length (λk us w'=>∃m:Nat,us=[iV m,iV k]/\k<=c.P.length/\aB w1 w'/\KI m (λl=>∃q,q<k/\bL c p q/\UZ c q l)) 0 (z0 _) ⟨63,rfl,z0 _,xx,KI.start ss⟩ ?_;rintro k mk u _ _ ⟨m,hu,_,g0,hK⟩;obtain⟨g2,g3⟩:=dQ hu;clear hu;rw[g2,g3];have C:=gj.t g0;refine aE lQ<|aL dC (nF hA) C λ_ gn=>aX cL gn<|bM<|br (λgp=>?_) λgq=>?_
 case refine_2=>
   have gr:k=c.P.length:=oo;rw[gr]at hK;refine⟨xx,?_⟩
   have:m=uJ c p:=by
     rw[hK.eq];refine O5 λl _=>not_congr ?_;constructor
     ·rintro⟨q,hq,hf,i,h1,h2,h3⟩;exact⟨q,i,hq,hf,h1,h2,h3⟩
     rintro⟨q,i,h0,hf,h1,h2,h3⟩;exact⟨q,h0,hf,i,h1,h2,h3⟩
   rw[this]
 have hk:k<c.P.length:=oo;refine bC eY cE (i:=k) g9.is (by rw[dZ];exact hk) λ_ _ gs=>iY cE gs g0 ?_;have g4:=lY (n:=c.P.length) (p:=bL c p) (i:=k);rw[kS (by rw[dZ];exact hk)]at g4;refine dG<|bW (λhf=>?_) λhf=>?_
 ·have gt:¬bL c p k:=λh=>by rw[g4.2 ⟨hk,h⟩]at hf;cases hf
  refine aU<|⟨mk-1,oo,k+1,oo,m,rfl,oo,g0,hK.congr λl=>?_⟩;constructor
  ·rintro⟨q,hq,h1,h2⟩;by_cases e:q=k
   ·subst e;exact absurd h1 gt
   exact⟨q,oo,h1,h2⟩
  rintro⟨q,hq,h1⟩;exact⟨q,oo,h1⟩
 have gx:bL c p k:=(g4.1 (by simpa using hf)).2;refine aL cP hA C λ_ gy=>(WD gy C hc (by rw[hc.2.1.1];exact hk)).mono ?_;rintro _ w3 ⟨gb,gz⟩;refine bV c.I.length (λj us w'=>∃m:Nat,us=[iV m,iV j]/\j<=c.I.length/\aB w3 w'/\KI m (λl=>(∃q,q<k/\bL c p q/\UZ c q l)\/∃i,i<j/\dE c k i/\(bO c i).op=7/\bS c i=l)) 0 (z0 _) ⟨m,rfl,z0 _,xx,hK.congr λl=>by simp⟩ ?_;rintro j mj u w4 _ ⟨m4,hu,_,M,O⟩;obtain⟨g2,g3⟩:=dQ hu;rw[g2,g3];have D:=C.t (gb.t M);refine aE eW<|aL eJ (fV hA) D λ_ gA=>aX eQ gA<|bM<|br (λgp=>?_) λgq=>?_
 case refine_2=>
   have gB:j=c.I.length:=oo;rw[gB]at O;refine aU<|⟨mk-1,oo,k+1,oo,m4,rfl,oo,xx,O.congr λl=>?_⟩;constructor
   ·rintro⟨q,hq,h1,h2⟩;by_cases e:q=k
    ·subst e;obtain⟨i,h3,h4⟩:=h2;exact .inr ⟨i,(rB hc (by rw[hc.2.1.1];exact hk) h3).1,h3,h4⟩
    exact .inl ⟨q,oo,h1,h2⟩
   rintro(⟨q,hq,h1⟩|⟨i,_,h2⟩)
   ·exact⟨q,oo,h1⟩
   exact⟨k,oo,gx,i,h2⟩
 have hj:j<c.I.length:=oo;refine bC eY cE (i:=j) gz.is (by rw[dZ];exact hj) λ_ _ gC=>iY cE gC M ?_;have g5:=lY (n:=c.I.length) (p:=dE c k) (i:=j);rw[kS (by rw[dZ];exact hj)]at g5
 have gc:∀w',aB w3 w'->¬(dE c k j/\(bO c j).op=7)->∃m:Nat,[Value.int .i64 (m4:Int),Value.int .i64 ((j+1:Nat):Int)]=[iV m,iV ((j+1:Nat):Int)]/\j+1<=c.I.length/\aB w3 w'/\KI m (λl=>(∃q,q<k/\bL c p q/\UZ c q l)\/∃i,i<j+1/\dE c k i/\(bO c i).op=7/\bS c i=l):=λw' hx hn=>by
   refine⟨m4,rfl,oo,hx,O.congr λl=>or_congr Iff.rfl ?_⟩;constructor
   ·rintro⟨i,h1,h2,h3,h4⟩;by_cases e:i=j
    ·subst e;exact absurd ⟨h2,h3⟩ hn
    exact⟨i,oo,h2,h3,h4⟩
   rintro⟨i,h1,h2⟩;exact⟨i,oo,h2⟩
 refine bW (λg1=>?_) λg1=>?_
 ·refine aE eW ?_;refine aL eJ (fV hA) D λ_ gD=>bC eQ fE gD hj λ_ _ gd=>?_;rw[oM]at gd;refine aE lV<|aS aG (lW gd) D λ_=>bI<|br (λc7=>?_) λc7=>?_
  ·obtain⟨ha,_,gE⟩:=yD hc hj (.inr c7);have gf:=HE gE;refine aE eW<|aL eJ (fV hA) D λ_ gF=>bC eQ fE gF hj λ_ _ gg=>?_;rw[oM]at gg;refine aE mE<|aS aG (mF gg) D λ_=>?_;rw[ha];refine(PQ oo).mM λ_ gG=>(Jk O.1 gf).mM λ_ gH=>?_;rw[No O.1 gf];refine aU<|⟨mj-1,oo,j+1,oo,_,rfl,oo,xx,O.drop λl=>?_⟩;constructor
   ·rintro(h|⟨i,h1,h2,h3,h4⟩)
    ·exact .inl (.inl h)
    by_cases e:i=j
    ·subst e;exact .inr h4
    exact .inl (.inr ⟨i,oo,h2,h3,h4⟩)
   rintro((h|⟨i,h1,h2⟩)|h)
   ·exact .inl h
   ·exact .inr ⟨i,oo,h2⟩
   exact .inr ⟨j,oo,(g5.1 g1).2,c7,h⟩
  refine aU<|⟨mj-1,oo,j+1,oo,gc w4 M λh=>c7 h.2⟩
 refine aU<|⟨mj-1,oo,j+1,oo,gc w4 M λh=>by rw[g5.2 ⟨hj,h.1⟩]at g1;cases g1⟩
def yF(hc:aM c){p:Nat}(hp:p<c.P.length):iF c p=((zN c p+1:Nat):Int)/\uK c p=(zN c p:Int)/\zN c p<c.I.length:=by
 have h:=HM hc (p:=p) (by rw[hc.2.1.1];exact hp);refine⟨oo,?_,h.2.2⟩;rw[JF];omega
def oe{T:fX}(hW:WL W0 b c)(e0:aB W0 w)(h1:Is W1 v1 (oP T))(e1:aB W1 w)(hc:aM c)(hT:EW c T)(hp:p<c.P.length) :
   aJ tp 262 [pT b 0,v1,iV p] w λr w'=>aB w w'/\r=iV (qZ c T p:Nat):=by
 refine co (g:=kf [] [] [(1,[0,1,2,4,5,6,7,8,3,9,10,11,12,13],8)]) Tryz.func262 ?_;obtain⟨g3,_,g4⟩:=yF hc hp;have:=hc.f.I;have:=hc.1.p8;have C:=cO w;generalize World.drew1 w=w1 at *;refine bZ.mk rfl<|aE mT<|aL cP hW.code xx λ_ g5=>(Ha hW xx h1 (e1.trans C) hc hT hp (h:=0) oo).mono ?_;rintro _ _ ⟨g0,g9⟩;refine⟨g0,?_⟩;refine(PX g5 ((e0.t C).trans g0) oo).mM λ_ g1=>?_;rw[g3];refine kQ io ?_;rw[show((zN c p+1:Nat):Int)-1=(zN c p:Int) by omega];refine bC bG aG g9.is (by rw[cB,LF];exact g4) λ_ _ g2=>?_;rw[oQ]at g2;refine aS aG g2 g1 λ_=>⟨xx,rfl⟩
def nv{T:fX}(h0:Is W0 v0 c)(e0:aB W0 w)(h1:Is W1 v1 (oP T))(e1:aB W1 w)(hc:aM c)(hT:EW c T)(hp:p<c.P.length) :
   aJ tp 290 [v0,v1,iV p] w λr w'=>aB w w'/\r=iV (qZ c T p:Nat):=by
 refine co (g:=kf [] [] [(1,[0,1,2,4,5,3,6,7,8,9],8)]) Tryz.func290 ?_;obtain⟨_,g4,g5⟩:=yF hc hp;have:=hc.1.p8;refine iR h0 e0 λw0 g1 hA=>?_;have C:=cO w0;generalize World.drew1 w0=w1 at *;refine aL cP hA C λ_ h7=>aL cP hA C λ_ g9=>(Oy h7 C h1 (e1.trans xx) hc hT hp (h:=0) oo).mono ?_;rintro _ _ ⟨g0,gb⟩;refine⟨g0,?_⟩;refine(NU g9 xx (p:=(p:Int)) oo oo hc.2.1.nonneg).mM λ_ g2=>?_;rw[g4];refine bC bG aG gb.is (by rw[cB,LF];exact g5) λ_ _ g3=>?_;rw[oQ]at g3;refine aS aG g3 g2 λ_=>⟨(g1.t C).trans xx,rfl⟩
noncomputable def DP(c:aF)(k:Nat):fX:=(List.range k).map λp=>(uJ c p,63)
def Qy(c:aF)(k:Nat):oP (DP c (k+1))=oP (DP c k)++[GN (uJ c k,63)]:=by simp[DP,oP,HA]
def Ct(c:aF)(k:Nat):(oP (DP c k)).length=k:=by simp[DP,oP]
def K7(lo hi:Nat){x:Nat×Nat}(h1:x.1<64)(h2:x.2<64):aK lo hi w (.agg #[iV (x.1:Int),iV (x.2:Int)]) (GN x):=
 ⟨[],xw (x:=GN x) (by unfold GN bR;simp only;omega) (by unfold GN bR;simp only;omega),ss⟩
def ml(hW:tI W0 b c)(e0:aB W0 w)(hc:aM c) :
   aJ tp 261 [pT b 0] w λr w'=>aB w w'/\eG w.heap.size w' r (oP (DP c c.P.length)):=by
 refine co (g:=kf [] [(3,4192280,[3,11])] []) Tryz.func261 ?_;have h8:=hc.1.p8;refine bZ.mk rfl<|aE mT<|aE lQ<|aL dC (nF hW.wl.code) e0 λ_ h9=>aX cL h9<|bV c.P.length (λk us w'=>∃v:vL,us=[v,iV k]/\k<=c.P.length/\aB w w'/\bQ w.heap.size w'.heap.size 277 w' v (oP (DP c k))) 0 (z0 _) ⟨_,rfl,z0 _,xx,uC _ _ _ _⟩ ?_;rintro k mk _ _ _ ⟨v,hu,_,g0,g1⟩;obtain⟨g3,g4⟩:=dQ hu;rw[g3,g4];refine bM<|br (λ_=>?_) λ_=>?_
 case refine_2=>
   have:k=c.P.length:=oo;rw[this]at g1;exact⟨g0,g1.own.own⟩
 have hk:k<c.P.length:=oo;have hs2:=g0.size;refine(zAa hW xx hc hk).mM λw3 g2=>?_;have hs3:=g2.size;refine fI (cells:=#[iV (uJ c k:Nat),iV 63]) kK<|oS (lo2:=w3.heap.size) (hi2:=w3.heap.size) (x:=GN (uJ c k,63)) FH HH Ue P1 dD (g1.ext g2) oo (K7 _ _ (x:=(uJ c k,63)) ED oo) oo oo (by rw[eB,Ct];omega) (by rw[Ct];omega) λg5 _ g9 gb=>aU<|⟨mk-1,oo,k+1,oo,g5,rfl,oo,(g0.t g2).xI g9 (lr _),?_⟩;rw[Qy];exact gb
def zAc(h0:Is W0 v0 c)(e0:aB W0 w)(hc:aM c) :
   aJ tp 289 [v0] w λr w'=>aB w w'/\eG w.heap.size w' r (oP (DP c c.P.length)):=by
 refine co (g:=kf [] [(3,1048536,[3,4])] []) Tryz.func289 ?_;have h8:=hc.1.p8;refine iR h0 e0 λw0 g2 hA=>?_;have hs0:=g2.size;refine pR (α:=dX) FH HH λ_ _ g3 g4=>?_;refine bV c.P.length (λk us w'=>∃v:vL,us=[v,iV k]/\k<=c.P.length/\aB w0 w'/\bQ w0.heap.size w'.heap.size 277 w' v (oP (DP c k))) 0 (z0 _) ⟨_,rfl,z0 _,g3,g4.mono g3.size (lr _)⟩ ?_;rintro k mk _ _ _ ⟨v,hu,_,C,g0⟩;obtain⟨g9,gb⟩:=dQ hu;rw[g9,gb];refine aE lQ<|aL dC (nF hA) C λ_ h9=>aX cL h9<|bM<|br (λ_=>?_) λ_=>?_
 case refine_2=>
   have:k=c.P.length:=oo;rw[this]at g0;exact⟨xx,g0.own.own.mono oo⟩
 have hk:k<c.P.length:=oo;have hs2:=C.size;refine aL cP hA C λ_ gc=>(zwJ gc C hc hk).mM λw3 g1=>?_;have hs3:=g1.size;refine fI (cells:=#[iV (uJ c k:Nat),iV 63]) kK<|oS (lo2:=w3.heap.size) (hi2:=w3.heap.size) (x:=GN (uJ c k,63)) FH HH Ue P1 dD (g0.ext g1) oo (K7 _ _ (x:=(uJ c k,63)) ED oo) oo oo (by rw[eB,Ct];omega) (by rw[Ct];omega) λgd _ gf gg=>aU<|⟨mk-1,oo,k+1,oo,gd,rfl,oo,(C.t g1).xI gf oo,?_⟩;rw[Qy];exact gg
structure FE(w1 w:wD)(g:Nat)(v:vL)(T:fX):Prop where
 ext:aB w1 w
 mine:aZ [g] w v (oP T)
 g0:w1.heap.size<=g
section
variable {w1 w w':wD}{g:Nat}{v:vL}{T:fX}
def FE.step(h:FE w1 w g v T)(hx:aB w w'):FE w1 w' g v T:=⟨h.ext.trans hx,h.mine.ext hx,h.g0⟩
def FE.own(h:FE w1 w g v T):eG w1.heap.size w v (oP T):=⟨[g],h.mine,λb hb=>by simp only[bF,dL,dI]at hb;have:=h.g0;omega⟩
def FE.make(ho:eG w1.heap.size w v (oP T))(hx:aB w1 w)(hT:T≠[]):∃g,FE w1 w g v T:=by
 obtain⟨_,hm,hF⟩:=ho;obtain⟨b,_,_,_,rfl⟩:=KD hm (by intro e;exact hT (List.map_eq_nil_iff.1 e));exact⟨b,hx,hm,hF b ss⟩
def O7{q m:Nat}{K:wD->Prop}(h:FE w1 w g v T)(hT:T≠[])(hq:q<T.length)(hm:m<64)(k:∀ w',FE w1 w' g v (T.set q ((tbl T q).1,m))->aN g (g+1) w w'->K w') :
   RD tp (Instr.indexAt 239 v (iV q)) w λa=>RD tp (Instr.fieldAt 277 a 1) w λf=>fA tp (Instr.storeAt 3 f (iV m)) w K:=by
 refine zGL (α:=dX) (β:=Int) (sel:=dX.gen) (g:=λa y=>⟨a.keep,y⟩) FH HH UG aG (λh=>ph h) h.mine (by rw[KH];exact hq) (tN (v:=m) oo) λw2 F2 g3 g1 g4=>?_
 have hF:F2=[g]:=by
   obtain⟨b,_,_,_,rfl⟩:=KD g1 (by intro e;have:=cS List.length e;rw[HN,KH]at this;simp only[eU]at this;omega);have:=g4 b ss;simpa using this
 subst hF;have g2:=FJ g3;refine k w2 ⟨h.ext.xI g2 h.g0,?_,h.g0⟩ g2;rw[ug];rw[OC]at g1;exact g1
end
def cu(hc:aM c):EI c (DP c c.P.length):=EI.start c hc
def EI.len{T:fX}(h:EI c T):T.length=c.P.length:=h.tab.1
def EI.ne(hc:aM c){T:fX}(h:EI c T):T≠[]:=λe=>by
 have h1:=h.len;have h2:=hc.1.p8;rw[e]at h1;simp at h1;omega
structure EP(c:aF)(T0:fX)(k:Nat)(ag:Bool)(T:fX):Prop where
 ei:EI c T
 yes:ag=true->EH T<EH T0
 no:ag=false->T=T0/\∀p,p<k->qZ c T0 p=(tbl T0 p).2
theorem EP.set(hc:aM c){T0 T:fX}{k:Nat}{ag:Bool}(H:EP c T0 k ag T)(hk:k<c.P.length)(g0:qZ c T k≠(tbl T k).2):EP c T0 (k+1) true (T.set k ((tbl T k).1,qZ c T k)):=by
 refine⟨H.ei.upd hc hk,λ_=>?_,λe=>by cases e⟩;have h1:=zg (T:=T) (p:=k) (v:=((tbl T k).1,qZ c T k)) (by rw[H.ei.len];exact hk);have h2:=H.ei.le hc hk;simp only at h1;cases ag with
 |true=>have:=H.yes rfl;omega
 |false=>rw[(H.no rfl).1]at h1 h2 g0 ⊢;omega
def EP.skip{T0 T:fX}(H:EP c T0 k ag T)(he:qZ c T k=(tbl T k).2):EP c T0 (k+1) ag T:=
 ⟨H.ei,H.yes,λe=>⟨(H.no e).1,λp hp=>by
   by_cases h:p=k
   ·subst h;rw[(H.no e).1]at he;exact he
   exact(H.no e).2 p oo⟩⟩
def ix(hW:tI W0 b c)(e0:aB W0 w)(hc:aM c) :
   aJ tp 207 [pT b 0] w λr w'=>aB w w'/\eG w.heap.size w' r (oP (fC c)):=by
 refine co (g:=kf [] [(3,4294966896,[4]),(6,4294963312,[4,12])] []) Tryz.func207 ?_;have h8:=hc.1.p8;refine(ml hW e0 hc).mono ?_;rintro v8 _ ⟨gc,gd⟩;have g5:=cu hc;obtain⟨g,gf⟩:=FE.make gd gc (g5.ne hc);generalize DP c c.P.length=T at *;refine iB.mk (λm us w'=>∃(ag:Bool)(T:fX),us=[.bool ag]/\m=EH T+(if ag then 1 else 0)/\FE w w' g v8 T/\EI c T/\(ag=false->∀p,p<c.P.length->qZ c T p=(tbl T p).2)) (EH T+1) ⟨true,T,rfl,rfl,gf,g5,λe=>by cases e⟩ ?_;rintro m u _ ⟨ag,T,hu,hm,D,g2,gg⟩;try replace hu:=cJ hu
 rw[hu];refine bW (λg3=>?_) λg3=>?_
 case refine_2=>rw[g2.fin hc (gg g3)]at D;exact⟨D.ext,D.own⟩
 rw[g3,aP rfl]at hm;refine aX FH D.mine.is ?_;rw[KH,g2.len];refine bV c.P.length (λk us w'=>∃(ag:Bool)(T':fX),us=[.bool ag,iV k]/\k<=c.P.length/\FE w w' g v8 T'/\EP c T k ag T') 0 (z0 _) ⟨false,T,rfl,z0 _,D,g2,λe=>(by cases e),λ_=>⟨rfl,λp hp=>oo⟩⟩ ?_;rintro k mk u _ _ ⟨g0,T3,hu,_,g1,C⟩;obtain⟨gh,gi⟩:=dQ hu;rw[gh,gi];refine bM<|br (λ_=>?_) λ_=>?_
 case refine_2=>
   refine⟨EH T3+(if g0 then 1 else 0),?_,g0,T3,rfl,rfl,g1,C.ei,λe p hp=>?_⟩
   ·cases g0 with
    |true=>have:=C.yes rfl;simp;omega
    |false=>rw[(C.no rfl).1];simp;omega
   have:=C.no e;rw[this.1];exact this.2 p oo
 have hk:k<c.P.length:=oo;refine(oe hW.wl (e0.t g1.ext) g1.mine.is xx hc C.ei.tab hk).mM λ_ gj=>?_;have g4:=g1.step gj;have gl:=ZO (T:=T3) hc hk;have g9:k<T3.length:=by rw[C.ei.len];exact hk
 refine bC FH HH g4.mine.is (by rw[KH];exact g9) λ_ _ gb=>?_;rw[OC]at gb;refine aE UG<|aS aG (An gb) xx λ_=>fP<|br (λgn=>?_) λgp=>?_
 ·refine O7 g4 (C.ei.ne hc) g9 gl λ_ gq _=>?_;refine aU<|⟨mk-1,oo,k+1,oo,true,_,rfl,oo,gq,C.set hc hk λe=>gn (by rw[e];rfl)⟩
 refine aU<|⟨mk-1,oo,k+1,oo,g0,T3,rfl,oo,g4,C.skip (xC.1 (eK.1 gp))⟩
def mv(h0:Is W0 v0 c)(e0:aB W0 w)(hc:aM c) :
   aJ tp 232 [v0] w λr w'=>aB w w'/\eG w.heap.size w' r (oP (fC c)):=by
 refine co (g:=kf [] [(3,8589934192,[4]),(6,8589933680,[4,5])] []) Tryz.func232 ?_;have h8:=hc.1.p8;refine iR h0 e0 λw0 g4 hA=>?_;have hs0:=g4.size;refine aL cP hA xx λ_ h7=>(zAc h7 xx hc).mono ?_;rintro v8 _ ⟨gd,gf⟩;have g5:=cu hc;obtain⟨g,gg⟩:=FE.make gf gd (g5.ne hc);generalize DP c c.P.length=T at *;refine iB.mk (λm us w'=>∃(ag:Bool)(T:fX),us=[.bool ag]/\m=EH T+(if ag then 1 else 0)/\FE w0 w' g v8 T/\EI c T/\(ag=false->∀p,p<c.P.length->qZ c T p=(tbl T p).2)) (EH T+1) ⟨true,T,rfl,rfl,gg,g5,λe=>by cases e⟩ ?_;rintro m u _ ⟨ag,T,hu,hm,g0,g9,gh⟩;try replace hu:=cJ hu
 rw[hu];refine bW (λg2=>?_) λg2=>?_
 case refine_2=>rw[g9.fin hc (gh g2)]at g0;exact⟨g4.t g0.ext,g0.own.mono oo⟩
 rw[g2,aP rfl]at hm;refine bV c.P.length (λk us w'=>∃(ag:Bool)(T':fX),us=[.bool ag,iV k]/\k<=c.P.length/\FE w0 w' g v8 T'/\EP c T k ag T') 0 (z0 _) ⟨false,T,rfl,z0 _,g0,g9,λe=>(by cases e),λ_=>⟨rfl,λp hp=>oo⟩⟩ ?_;rintro k mk u _ _ ⟨g1,T3,hu,_,D,C⟩;obtain⟨gi,gj⟩:=dQ hu;rw[gi,gj];refine aE lQ<|aL dC (nF hA) D.ext λ_ gl=>aX cL gl<|bM<|br (λ_=>?_) λ_=>?_
 case refine_2=>
   refine⟨EH T3+(if g1 then 1 else 0),?_,g1,T3,rfl,rfl,D,C.ei,λe p hp=>?_⟩
   ·cases g1 with
    |true=>have:=C.yes rfl;simp;omega
    |false=>rw[(C.no rfl).1];simp;omega
   have:=C.no e;rw[this.1];exact this.2 p oo
 have hk:k<c.P.length:=oo;refine aL cP hA D.ext λ_ gn=>(nv gn D.ext D.mine.is xx hc C.ei.tab hk).mM λ_ gp=>?_;have g3:=D.step gp;have gq:=ZO (T:=T3) hc hk;have gb:k<T3.length:=by rw[C.ei.len];exact hk
 refine bC FH HH g3.mine.is (by rw[KH];exact gb) λ_ _ gc=>?_;rw[OC]at gc;refine aE UG<|aS aG (An gc) xx λ_=>fP<|br (λgr=>?_) λgs=>?_
 ·refine O7 g3 (C.ei.ne hc) gb gq λ_ gt _=>?_;refine aU<|⟨mk-1,oo,k+1,oo,true,_,rfl,oo,gt,C.set hc hk λe=>gr (by rw[e];rfl)⟩
 refine aU<|⟨mk-1,oo,k+1,oo,g1,T3,rfl,oo,g3,C.skip (xC.1 (eK.1 gs))⟩
noncomputable def DE(c:aF)(p:Nat):List Nat:=cC c.P.length (rY c p 5)
noncomputable def JW(c:aF)(r:Nat):List Nat:=cC c.P.length (bL c r)
noncomputable def RW(c:aF)(r:Nat):List Nat:=(JW c r).flatMap (DE c)
def ng(hc:aM c)(q:Nat):bE c q↔q=mH c\/RP (RW c) (mH c) q:=by
 have g0:∀r q,q∈RW c r↔∃p,p<c.P.length/\bL c r p/\q<c.P.length/\rY c p 5 q:=λr q=>by
   unfold RW JW DE;simp only[wM,mG];exact⟨λ⟨p,⟨h1,h2⟩,h3,h4⟩=>⟨p,h1,h2,h3,h4⟩,λ⟨p,h1,h2,h3,h4⟩=>⟨p,⟨h1,h2⟩,h3,h4⟩⟩
 constructor
 ·intro h
  induction h with
  |main=>exact .inl rfl
  | @spawn r p q h0 h1 h2 hq ih=>
    have hm:=(g0 r q).2 ⟨p,h1.lt (h0.lt hc),h1,hq,h2⟩;rcases ih with rfl|ih
    ·exact .inr (.one hm)
    exact .inr (.more ih hm)
 rintro(rfl|h)
 ·exact .main
 refine h.keeps (p:=bE c) .main λi j hi hj=>?_;obtain⟨p,_,h1,h2,h3⟩:=(g0 i j).1 hj;exact .spawn hi h1 h3 h2
def nr{α β:Type}{f:α->List β}{L:List α}(hi:i<L.length)(hj:j<(f L[i]).length):∃h:((L.take i).flatMap f).length+j<(L.flatMap f).length,(L.flatMap f)[((L.take i).flatMap f).length+j]=(f L[i])[j]:=by
 have e:L.flatMap f=(L.take i).flatMap f++(f L[i]++(L.drop (i+1)).flatMap f):=by
   rw[<-vE,<-vW];congr 1;rw[<-tD hi,XN]
 have g0:((L.take i).flatMap f).length+j<(L.flatMap f).length:=by rw[e];simp only[bX];omega
 refine⟨g0,?_⟩
 have:(L.flatMap f)[((L.take i).flatMap f).length+j]?=some (f L[i])[j]:=by
   rw[e,List.getElem?_append_right oo,Kb,List.getElem?_append_left hj,List.getElem?_eq_getElem hj]
 rw[List.getElem?_eq_getElem g0]at this;exact Ez this
def zAg{α β:Type}{f:α->List β}{L:List α}(hi:i<L.length):((L.take (i+1)).flatMap f).length=((L.take i).flatMap f).length+(f L[i]).length:=by
 rw[tk hi,vW,bX];simp
def Em(h0:Is W0 v0 c)(e0:aB W0 w)(hc:aM c) :
   aJ tp 176 [v0] w λr w'=>aB w w'/\eG w.heap.size w' r (cZ c.P.length (bE c)):=by
 refine co (g:=kf [] [(5,9444732965739288331248,[4,5]),(9,9444732965722110559120,[4,7]),(13,9444732895370546250256,[4,9])] [(7,[0,1,2,3,4,5,6,7],0),(11,[0,1,2,3,4,5,6],0)]) Tryz.func176 ?_;have h8:=hc.1.p8;obtain⟨hd,gC⟩:=IJ hc;have hR:=ng hc;have he:∀x,RW c x=(JW c x).flatMap (DE c):=λ_=>rfl
 have hN:∀{i j:Nat},i<c.P.length->j∈RW c i->j<c.P.length/\True:=λ{i j} _ hj=>by
   rw[he]at hj;obtain⟨p,_,h⟩:=wM.1 hj;exact⟨(mG.1 h).1,trivial⟩
 refine iR h0 e0 λw1 hg hA=>?_;have hs1:=hg.size;refine aE lQ<|aL dC (nF hA) xx λ_ hO=>aX cL hO<|JC h8.2 oo λ_ gd hP=>?_;have hs2:=gd.size;refine aL cP hA gd λ_ hQ=>(ZE hQ gd).mM λhS g0=>?_;rw[hd];have hT:=g0.size;have gH:=hP.ext g0;generalize hn:c.P.length=n at *;generalize mH c=a at *;refine oA (α:=Bool) rfl eY cE gC<|oC (α:=Bool) rfl cE gH ss gC zD λhl hU gf=>?_;have g4:aN w1.heap.size (w1.heap.size+1) hS hl:=hU.toI λb hb=>by simp only[bF,dL,dI]at hb;omega
 have hV:=g4.size;have gI:((List.replicate n false).set a true).length=n:=by simp
 have hr:∀i,cN ((List.replicate n false).set a true) i↔i=a:=λi=>by
   rw[wI (by simp;exact gC)];exact⟨λh=>h.resolve_left GY,.inr⟩
 generalize (List.replicate n false).set a true=M0 at *;have g2:aB w1 hl:=(gd.t g0).xI g4 oo;refine aL cP hA g2 λ_ hW=>(ZE hW g2).mM λhX g5=>?_;rw[hd];have hY:=g5.size;refine CU (x:=(a:Int)) bG aG z3 dD (xN io) λhs w3 gJ hZ=>?_;have j0:=gJ.size;generalize hm:w1.heap.size=m at *;have j1:WI w1 w3 m n hX.heap.size w3.heap.size hs [a] M0:=⟨(((gd.t g0).toI.trans g4).trans g5.toI).trans gJ.toI,hZ,(gf.ext g5).ext gJ,oo,by have:=gf.lt m ss;omega,j0,iD _⟩;have j2:∀x p,p∈JW c x->p<n:=λx p hp=>by have:=(mG.1 hp).1;omega
 have gK:∀x,(JW c x).length<=n:=λx=>by have:=pC (n:=c.P.length) (p:=bL c x);rw[hn]at this;unfold JW;rw[hn];exact this
 have gL:∀x,(DE c x).length<=n:=λx=>by have:=pC (n:=c.P.length) (p:=rY c x 5);rw[hn]at this;unfold DE;rw[hn];exact this
 generalize hnx:RW c=nx at *;refine bV (1+n) (λh us w'=>∃(tv:vL)(lo hi:Nat)(L:List Nat)(ms:List Bool),us=[tv,iV h]/\h<=L.length/\WI w1 w' m n lo hi tv L ms/\nS nx n a M0 ms (L.drop h) h) 0 (z0 _) ⟨hs,_,_,[a],_,rfl,ss,j1,nS.start gI gC⟩ ?_;rintro h mk u w4 _ ⟨tv,lo,hi,L,ms,hu,_,gD,gb⟩;obtain⟨gg,gh⟩:=dQ hu;clear hu;rw[gg,gh];have j3:=gb.bound;rw[wL]at j3;refine aX bG gD.row.is ?_;rw[cB];refine bM<|br (λ_=>?_) λ_=>?_
 case refine_2=>
   have j4:h=L.length:=oo;rw[j4,BA]at gb;have gM:=gb.fin λi hi j5=>absurd ((hr i).1 hi) j5;have j6:ms=cZ n (bE c):=DS gb.len λi hi=>by rw[gM i,hr,hR]
   rw[<-j6];have j7:aB w1 w4:=(aC w1).xI gD.chg oo;exact⟨xx,[m],gD.mks,λb hb=>by simp only[bF,dL,dI]at hb;omega⟩
 have hh:h<L.length:=oo;have j8:=cO w4;have gc:=gD.step j8;generalize World.drew1 w4=w5 at *;have gE:∀{w:wD}{lo hi tv L ms},WI w1 w m n lo hi tv L ms->aB w1 w:=λh=>(aC w1).xI h.chg oo;refine aL cP hA (gE gc) λ_ j9=>bC bG aG (i:=h) gc.row.is (by rw[cB];exact hh) λb1 o1 gi=>?_;rw[nI]at gi;refine aS aG gi xx λ_=>?_;generalize hx:L[h]=x at *;have gN:L.drop h=x :: L.drop (h+1):=by rw[tD hh,hx]
 have ht:x<n:=(gb.tdo x (by rw[gN];simp)).2;refine(Fo j9 (gE gc) hc (by rw[hn];exact ht)).mono ?_;rintro _ gj ⟨gl,_,rfl,_,ja⟩;refine(Bo ja.is xx (by rw[dZ];omega)).mono ?_;rintro gO w6 ⟨hv,hw⟩;have jb:(λi=>i=x\/RP (EK c) x i)=bL c x:=rfl;rw[dZ,YL,jb]at hw;have gP:eG gj.heap.size w6 gO (bN (JW c x)):=hw;have jc:=(gc.step gl).step hv;have hI6:=gc.h3;have jd:=gl.size;have hs6:=hv.size;have je:mZ nx n a M0 ms (L.drop (h+1)) h x 0:=gb.pop (λi=>by rw[gN];simp[or_comm]) (by rw[gN];simp);have hfx:=gK x;have gQ:=j2 x;have gn:nx x=(JW c x).flatMap (DE c):=he x;generalize JW c x=Fl at *;refine bV Fl.length (λk us w'=>∃(tv:vL)(lo hi:Nat)(L:List Nat)(ms:List Bool),us=[tv,iV k]/\k<=Fl.length/\h<L.length/\WI w1 w' m n lo hi tv L ms/\mZ nx n a M0 ms (L.drop (h+1)) h x ((Fl.take k).flatMap (DE c)).length/\aK gj.heap.size w6.heap.size w' gO (bN Fl)/\(hi<=gj.heap.size\/w6.heap.size<=lo)/\w6.heap.size<=w'.heap.size) 0 (z0 _) ⟨tv,lo,hi,L,ms,rfl,z0 _,hh,jc,je,gP.toI,.inl oo,iD _⟩ ?_;rintro k jf u w7 _ ⟨hz,hB,hC,L7,hD,hu,_,jg,hF,hG,hH,jh,_⟩;obtain⟨gg,gh⟩:=dQ hu;clear hu;rw[gg,gh];refine aX bG hH.is ?_;rw[cB];refine bM<|br (λ_=>?_) λ_=>?_
 case refine_2=>refine aU<|⟨mk-1,oo,h+1,oo,hz,hB,hC,L7,hD,rfl,oo,hF,hG.done ?_⟩;rw[gn,show Fl.take k=Fl from iO oo];exact iD _
 have hk:k<Fl.length:=oo;have gR:=cO w7;have gF:=hF.step gR;have hI:=hH.ext gR;have hs8:=gR.size;generalize World.drew1 w7=w8 at *;refine aL cP hA (gE gF) λ_ ji=>bC bG aG (i:=k) hI.is (by rw[cB];exact hk) λ_ _ hJ=>?_;rw[nI]at hJ;refine aS aG hJ xx λ_=>?_;have hK:=λj=>nr (f:=DE c) (L:=Fl) (i:=k) (j:=j) hk;have jj:=zAg (f:=DE c) (L:=Fl) (i:=k) hk;have jk:=gQ _ (cY hk);rw[<-gn]at hK;generalize Fl[k]=p at *;refine(Ms ji (gE gF) hc (p:=p) (op:=5) (by rw[hc.2.1.1,hn];exact jk) (.inr rfl)).mono ?_;rintro gG w9 ⟨gS,jl⟩;have gT:eG w8.heap.size w9 gG (bN (DE c p)):=jl;have jm:=gF.step gS;have hs9:=gS.size;have hop:=gL p;generalize DE c p=Ol at *;generalize hq0:((Fl.take k).flatMap (DE c)).length=q0 at *;refine bV Ol.length (λj us w'=>∃(tv:vL)(lo hi:Nat)(L:List Nat)(ms:List Bool),us=[tv,iV j]/\j<=Ol.length/\h<L.length/\WI w1 w' m n lo hi tv L ms/\mZ nx n a M0 ms (L.drop (h+1)) h x (q0+j)/\aK gj.heap.size w6.heap.size w' gO (bN Fl)/\(hi<=gj.heap.size\/w6.heap.size<=lo)/\aK w8.heap.size w9.heap.size w' gG (bN Ol)/\(hi<=w8.heap.size\/w9.heap.size<=lo)/\w9.heap.size<=w'.heap.size) 0 (z0 _) ⟨hz,hB,hC,L7,hD,rfl,z0 _,jg,jm,hG,hI.ext gS,jh,gT.toI,.inl gF.h3,iD _⟩ ?_;rintro j gp u jo _ ⟨gq,gr,gs,L10,D,hu,_,gt,M,O,g9,gx,V,gy,gU⟩;obtain⟨gg,gh⟩:=dQ hu;rw[gg,gh];refine aX bG V.is ?_;rw[cB];refine bM<|br (λ_=>?_) λ_=>?_
 case refine_2=>refine aU<|⟨jf-1,oo,k+1,oo,gq,gr,gs,L10,D,rfl,oo,gt,M,?_,g9,gx,oo⟩;rw[jj,show Ol.length=j by omega];exact O
 have hj:j<Ol.length:=oo;obtain⟨hq,jp⟩:=hK j hj
 have gV:∀{w:wD}{K:vL->Prop}(ho:aK w8.heap.size w9.heap.size w gG (bN Ol))(kk:K (iV (((nx x)[q0+j]:Nat):Int))),RD tp (Instr.indexAt 31 gG (iV j)) w λjq=>RD tp (Instr.loadAt 3 jq) w K:=λho kk=>by
   refine bC bG aG (i:=j) ho.is (by rw[cB];exact hj) λb1 o1 gi=>?_;rw[nI,<-jp]at gi;exact aS aG gi xx λ_=>kk
 have hy:=hN ht (cY hq);refine gV V ?_;have C:=O.len;refine bC eY cE M.mks.is (by rw[C];exact hy.1) λ_ _ jr=>iY cE jr xx<|dG ?_;have g3:=kS (ms:=D) (i:=(nx x)[q0+j]) (by rw[C];exact hy.1);refine bW (λhf=>?_) λhf=>?_
 ·have gW:¬cN D (nx x)[q0+j]:=by rw[g3];simpa using hf
  refine gV V<|oA (α:=Bool) rfl eY cE hy.1<|oC (α:=Bool) rfl cE M.mks C hy.1 zD λjs gz gX=>?_;have gA:=M.mark gz gX;have Z:aN m (m+1) jo js:=gz.toI λb hb=>by simp only[bF,dL,dI]at hb;omega
  have hm4:=gc.mks.lt m ss;have gY:=g9.chg Z oo;have gB:=V.chg Z oo;refine gV gB ?_;have gZ:=O.push hq hy.1 gW;generalize (nx x)[q0+j]=y at *
  have hLb:L10.length<=2+n:=by
    have h1:=O.cnt;have h2:=LL D;rw[wL]at h1;omega
  refine JZ (x:=(y:Int)) bG aG z3 wQ dD gA.row (DC 0 0 io) (by rw[eB,cB];omega) (by rw[cB];omega) λjt _ h4 h5 g1 h6 h9=>?_;have hL:=Z.size;have hM:=g1.size;refine aU<|⟨gp-1,oo,j+1,oo,jt,h4,h5,L10++[y],_,rfl,oo,by simp;omega,(gA.push g1 h6 h9),?_,gY.chg g1 oo,oo,gB.chg g1 oo,oo,oo⟩;rw[Kq oo];exact gZ
 have gW:cN D (nx x)[q0+j]:=by rw[g3];simpa using hf
 refine aU<|⟨gp-1,oo,j+1,oo,gq,gr,gs,L10,D,rfl,oo,gt,M,O.skip hq gW,g9,gx,V,gy,gU⟩
def Df(h0:Is W0 v0 c)(e0:aB W0 w)(hc:aM c) :
   aJ tp 234 [v0] w λr w'=>aB w w'/\eG w.heap.size w' r (cZ c.P.length (bU c)):=by
 refine co (g:=kf [] [(4,281474976694496,[5]),(9,281474439839872,[7])] []) Tryz.func234 ?_;have h8:=hc.1.p8;refine iR h0 e0 λw1 gn hA=>?_;have hs1:=gn.size;refine aL cP hA xx λ_ gt=>(Em gt xx hc).mono ?_;rintro _ w2 ⟨g4,gx⟩;have hs2:=g4.size;refine aE lQ<|aL dC (nF hA) g4 λ_ gy=>aX cL gy<|JC h8.2 oo λw3 gp gq=>?_;have gz:=gx.toI.ext gp;have g5:=g4.t gp;generalize hm:w2.heap.size=m at *;rw[XL c.P.length (p:=λq=>∃r,r<0/\bE c r/\bL c r q) (λi ⟨j,h,_⟩=>oo)]at gq;refine bV c.P.length (λk us w'=>us=[iV k]/\k<=c.P.length/\aN m (m+1) w3 w'/\aZ [m] w' (.slice (some ⟨m,0,none⟩) c.P.length c.P.length) (cZ c.P.length λq=>∃r,r<k/\bE c r/\bL c r q)) 0 (z0 _) ⟨rfl,z0 _,aN.refl _,gq⟩ ?_;rintro k mk u w4 _ ⟨hu,_,g1,C⟩;try replace hu:=cJ hu
 rw[hu];have g2:aB w1 w4:=g5.xI g1 oo;have gA:=gz.chg g1 oo;have hm4:=C.lt _ (oY.2 rfl);refine aE lQ<|aL dC (nF hA) g2 λ_ gB=>aX cL gB<|bM<|br (λ_=>?_) λ_=>?_
 case refine_2=>
   have gC:k=c.P.length:=oo
   have hS:(cZ c.P.length λq=>∃r,r<k/\bE c r/\bL c r q)=cZ c.P.length (bU c):=rA λq _=>
     ⟨λ⟨r,_,h1,h2⟩=>⟨r,h1,h2⟩,λ⟨r,h1,h2⟩=>⟨r,by rw[gC];exact h1.lt hc,h1,h2⟩⟩
   rw[hS]at C;exact⟨xx,[m],C,λb hb=>by simp only[bF,dL,dI]at hb;omega⟩
 have hk:k<c.P.length:=oo;refine bC eY cE (i:=k) gA.is (by rw[dZ];exact hk) λ_ _ gD=>iY cE gD xx ?_;have g9:=lY (n:=c.P.length) (p:=bE c) (i:=k);rw[kS (by rw[dZ];exact hk)]at g9;refine dG<|bW (λhf=>?_) λhf=>?_
 ·have gE:¬bE c k:=λh=>by rw[g9.2 ⟨hk,h⟩]at hf;cases hf
  refine aU<|⟨mk-1,oo,k+1,oo,rfl,oo,g1,?_⟩
  rw[rA (q:=λq=>∃r,r<k/\bE c r/\bL c r q) λq _=>⟨λ⟨r,h1,h2,h3⟩=>by
    by_cases e:r=k
    ·subst e;exact absurd h2 gE
    exact⟨r,oo,h2,h3⟩,λ⟨r,h1,h2⟩=>⟨r,oo,h2⟩⟩]
  exact C
 have g0:bE c k:=(g9.1 (by simpa using hf)).2;refine aL cP hA g2 λ_ gF=>(Fo gF g2 hc hk).mono ?_;rintro _ w5 ⟨gr,gf,rfl,_,gb⟩;have gG:(λi=>i=k\/RP (EK c) k i)=bL c k:=rfl;rw[gG]at gb;have gH:=C.ext gr;have gI:=g1.trans gr.toI;refine bV c.P.length (λj us w'=>us=[iV j]/\j<=c.P.length/\aN m (m+1) w5 w'/\aZ [m] w' (.slice (some ⟨m,0,none⟩) c.P.length c.P.length) (cZ c.P.length λq=>(∃r,r<k/\bE c r/\bL c r q)\/(q<j/\bL c k q))) 0 (z0 _) ⟨rfl,z0 _,aN.refl _,by rw[rA (q:=λq=>∃r,r<k/\bE c r/\bL c r q) λq _=>⟨λh=>h.resolve_right λh=>oo,.inl⟩];exact gH⟩ ?_;rintro j mj u w6 _ ⟨hu,_,gc,gd⟩;try replace hu:=cJ hu
 rw[hu];refine TK eY<|bM<|br (λ_=>?_) λ_=>?_
 case refine_2=>
   refine aU<|⟨mk-1,oo,k+1,oo,rfl,oo,gI.trans gc,?_⟩
   rw[rA (q:=λq=>(∃r,r<k/\bE c r/\bL c r q)\/(q<j/\bL c k q)) λq hq=>⟨λ⟨r,h1,h2,h3⟩=>by
     by_cases e:r=k
     ·subst e;exact .inr ⟨oo,h3⟩
     exact .inl ⟨r,oo,h2,h3⟩,λh=>h.elim (λ⟨r,h1,h2⟩=>⟨r,oo,h2⟩) λ⟨_,h⟩=>⟨k,oo,g0,h⟩⟩]
   exact gd
 have hj:j<c.P.length:=oo
 have gg:Is w6 (.slice (some ⟨gf,0,none⟩) c.P.length c.P.length) (cZ c.P.length (bL c k)):=(gb.keep λb hb=>by
   simp only[bF,dL,dI]at hb;subst hb;exact gc.block b (gb.lt b ss) oo).is
 refine bC eY cE (i:=j) gd.is (by rw[dZ];exact hj) λ_ _ gJ=>iY cE gJ xx ?_;have gh:=lY (n:=c.P.length) (p:=λq=>(∃r,r<k/\bE c r/\bL c r q)\/(q<j/\bL c k q)) (i:=j);have gi:=lY (n:=c.P.length) (p:=bL c k) (i:=j);rw[kS (by rw[dZ];exact hj)]at gh gi
 have gs:∀(bb:Bool),(bb=true↔((∃r,r<k/\bE c r/\bL c r j)\/bL c k j))->RD tp (Instr.indexAt 125 (.slice (some ⟨m,0,none⟩) c.P.length c.P.length) (iV j)) w6 λgK=>fA tp (Instr.storeAt 4 gK (.bool bb)) w6 λw=>RD tp (bin .add 3 (.tmp 0) (.const undef) (iV j) (iV 1)) w λgL=>∃m',m'<mj/\∃k',k'+m'=c.P.length/\[gL]=[iV k']/\k'<=c.P.length/\aN m (m+1) w5 w/\aZ [m] w (.slice (some ⟨m,0,none⟩) c.P.length c.P.length) (cZ c.P.length λq=>(∃r,r<k/\bE c r/\bL c r q)\/(q<k'/\bL c k q)):=λbb gM=>by
   refine oA (α:=Bool) rfl eY cE hj<|oC (α:=Bool) rfl cE gd dZ hj zD λw7 gN gO=>?_;have gj:aN m (m+1) w6 w7:=gN.toI λb hb=>by simp only[bF,dL,dI]at hb;omega
   refine aU<|⟨mj-1,oo,j+1,oo,rfl,oo,gc.trans gj,?_⟩
   have gl:(cZ c.P.length λq=>(∃r,r<k/\bE c r/\bL c r q)\/(q<j/\bL c k q)).set j bb=cZ c.P.length λq=>(∃r,r<k/\bE c r/\bL c r q)\/(q<j+1/\bL c k q):=DS (by rw[HN,dZ]) λq hq=>by
     unfold cN;rw[List.getD_eq_getElem?_getD,List.getElem?_set];by_cases e:j=q
     ·subst e;simp only[dZ,hj,if_true,Option.getD_some,gM];exact⟨λh=>h.imp id λh=>⟨oo,h⟩,λh=>h.imp id (·.2)⟩
     rw[aH e,<-List.getD_eq_getElem?_getD];show cN _ q↔_;rw[lY];exact⟨λ⟨_,h⟩=>h.imp id λh=>⟨oo,h.2⟩,λh=>⟨hq,h.imp id λh=>⟨oo,h.2⟩⟩⟩
   rw[<-gl];exact gO
 refine bW (λg3=>?_) λg3=>?_
 ·refine gs true ⟨λ_=>((gh.1 g3).2).imp id (·.2),λ_=>rfl⟩
 refine bC eY cE (i:=j) gg (by rw[dZ];exact hj) λ_ _ gP=>iY cE gP xx<|gs _ ⟨λh=>.inr (gi.1 h).2,λh=>gi.2 ⟨hj,h.resolve_left λh=>?_⟩⟩;rw[gh.2 ⟨hj,.inl h⟩]at g3;cases g3
end Go.Proofs.YtcaakhmhlfgogaaGreatDoor
