/-
  Parts of the proof, put together by program.
-/
import Derived.Test.YtcaakhmhlfgogaaGreatDoorQFnReports4
set_option linter.defProp false
set_option linter.unusedVariables false
set_option maxRecDepth 100000
set_option linter.unusedSimpArgs false
set_option linter.unusedSectionVars false
open Go renaming Value→vL,World→wD,Program→pG
namespace Go.Sh
structure mU(g m lo:Nat)(w w':wD):Prop where
 os:w'.os=w.os
 tape:w'.tape=w.tape
 output:w'.output=w.output
 size:w.heap.size<=w'.heap.size
 block:∀b,b<w.heap.size->b<lo->b≠g->b≠m->w'.heap[b]?=w.heap[b]?
section
variable {g m lo:Nat}{w w' w2:wD}{α:Type}[Rep α]
def mU.refl(g m lo:Nat)(w:wD):mU g m lo w w:=⟨rfl,rfl,rfl,lr _,λ_ _ _ _ _=>rfl⟩
def mU.trans(h:mU g m lo w w')(k:mU g m lo w' w2):mU g m lo w w2:=
 ⟨k.os.trans h.os,k.tape.trans h.tape,k.output.trans h.output,eH h.size k.size,λb h1 h2 h3 h4=>(k.block b (kP h1 h.size) h2 h3 h4).trans (h.block b h1 h2 h3 h4)⟩
def mU.mono{lo2:Nat}(h:mU g m lo w w')(hl:lo2<=lo):mU g m lo2 w w':=⟨h.os,h.tape,h.output,h.size,λb h1 h2 h3 h4=>h.block b h1 oo h3 h4⟩
def aB.two(h:aB w w'):mU g m lo w w':=⟨h.os,h.tape,h.output,h.size,λb h1 _ _ _=>h.block b h1⟩
def aN.twoG(h:aN g (g+1) w w'):mU g m lo w w':=⟨h.os,h.tape,h.output,h.size,λb h1 _ h3 _=>h.block b h1 oo⟩
def aN.twoM(h:aN m (m+1) w w'):mU g m lo w w':=⟨h.os,h.tape,h.output,h.size,λb h1 _ _ h4=>h.block b h1 oo⟩
def aN.two{a b:Nat}(h:aN a b w w')(ha:lo<=a):mU g m lo w w':=⟨h.os,h.tape,h.output,h.size,λc h1 h2 _ _=>h.block c h1 oo⟩
def fZ.two(h:fZ g lo w w'):mU g m lo w w':=⟨h.os,h.tape,h.output,h.size,λb h1 h2 h3 _=>h.block b h1 h2 h3⟩
def cA.two{b e:Nat}{cs:List vL}(h:cA b e w cs)(hu:mU g m lo w w')(h1:b<lo)(h2:b≠g)(h3:b≠m):cA b e w' cs:=h.keep (hu.block b h.lt h1 h2 h3)
def aK.two{a b:Nat}{v:vL}{x:α}(h:aK a b w v x)(hu:mU g m lo w w')(h1:b<=lo)(h2:g<a\/b<=g)(h3:m<a\/b<=m):aK a b w' v x:=by
 obtain⟨F,hm,hF⟩:=h;exact⟨F,hm.keep λc hc=>hu.block c (hm.lt c hc) (by have:=hF c hc;omega) (by have:=hF c hc;omega) (by have:=hF c hc;omega),hF⟩
def bQ.two{a b e:Nat}{v:vL}{l:List α}(h:bQ a b e w v l)(hu:mU g m lo w w')(h1:b<=lo)(h2:g<a\/b<=g)(h3:m<a\/b<=m):bQ a b e w' v l:=by
 obtain⟨F,hm,hn,hF⟩:=LV.1 h;exact LV.2 ⟨F,hm.keep λc hc=>hu.block c (hm.lt c hc) (by have:=hF c hc;omega) (by have:=hF c hc;omega) (by have:=hF c hc;omega),hn,hF⟩
def fH.two{a b v0:Nat}{x:α}(h:fH a b w v0 x)(hu:mU g m lo w w')(h1:b<=lo)(h2:g<a\/b<=g)(h3:m<a\/b<=m)(h4:v0<lo)(h5:v0≠g)(h6:v0≠m):fH a b w' v0 x:=by
 obtain⟨F,hO,hF⟩:=h;refine⟨F,hO.keep λc hc=>?_,hF⟩;have g0:=hO.lts c hc;rcases bF.1 hc with rfl|hc
 ·exact hu.block c g0 h4 h5 h6
 have:=hF c hc;exact hu.block c g0 oo oo oo
end
end Go.Sh
namespace Go.Proofs.YtcaakhmhlfgogaaGreatDoor
open Go Go.Sh Go.Proofs
open Rep (rep)
variable {F:List Nat}{K:vL->Prop}{P:pG}{U b cap e g hi i k lo n q:Nat}{W W0 W1 w w' w1 w2 w8 wa wd:wD}{a:Int}{c:aF}{cs:List vL}{s:ByteArray}{t:TypeId}{tm:aD}{u v v0 v1 vk vo:vL}
def MB(m:Nat)(st:lU)(w:wD):Prop:=∃q:Nat,cA m 3 w [iV (60-(q:Int))]/\q<=60/\∀i q',st=.ok (i,q')->q'=q
structure oZ(W:wD)(g m:Nat)(L:List aT)(v:vL)(e:Int)(st:lU)(w:wD):Prop where
 rd:iW W g L v e st w
 mb:MB m st w
 gm:g<m
section
variable {W w w':wD}{g m:Nat}{L:List aT}{v:vL}{e:Int}{st st':lU}
def oZ.step(h:oZ W g m L v e st w)(hx:aB w w'):oZ W g m L v e st w':=by
 obtain⟨q,hB,hr⟩:=h.mb;exact⟨h.rd.step hx,⟨q,hB.ext hx,hr⟩,h.gm⟩
def oZ.chg{a b:Nat}(h:oZ W g m L v e st w)(hc:aN a b w w')(hg:m<a):oZ W g m L v e st w':=by
 obtain⟨q,hB,hr⟩:=h.mb;have:=h.gm;have:=h.rd.lo;exact⟨h.rd.chg hc oo oo,⟨q,hB.keep (hc.block m hB.lt oo),hr⟩,h.gm⟩
def oZ.one{i q:Nat}(h:oZ W g m L v e (.ok (i,q)) w)(hc:aN g (g+1) w w')(hr:iW W g L v e st' w')(hq:∀ j q',st'=.ok (j,q')->q'=q):oZ W g m L v e st' w':=by
 obtain⟨q1,hB,h6,g0⟩:=h.mb;have:=h.gm;exact⟨hr,⟨q1,hB.keep (hc.block m hB.lt oo),h6,λj q' hj=>(hq j q' hj).trans (g0 i q rfl)⟩,h.gm⟩
def oZ.lt(h:oZ W g m L v e st w):m<w.heap.size:=by obtain⟨_,hB,_⟩:=h.mb;exact hB.lt
def YZ{t:ByteArray}{i q j q':Nat}(h:ET L e t (.ok (i,q))=.ok (j,q')):q'=q:=by
 by_cases ht:eE L i t
 ·rw[CM ht]at h;cases h;rfl
 rw[CZ ht]at h;cases h
def zHv{i q j q':Nat}(h:JD L e (.ok (i,q))=.ok (j,q')):q'=q:=by
 by_cases ht:cK (cV L i)=true
 ·rw[PY ht]at h;cases h;rfl
 rw[UU ht]at h;cases h
end
def yO(L:List aT)(e:Int)(room q i:Nat):Rd (List aA×Nat):=(qV L e room q i).go λx j=>if L.length<=j\/eE L j rU then .ok (x,j)else .error (mQ L e 3 j)
theorem mf{L:List aT}{e:Int}{room q i:Nat}:tS L e (qV L e room) q i=(rP L e AD i).go λ_ j=>(yO L e room q j).go λb j=>(rP L e rU j).go λ_ j=>.ok (b,j):=by
 unfold tS yO;congr 1;funext _ j
 match qV L e room q j with
 |.error f=>rfl
 | .ok (x,k)=>
   show(rP L e rU k).go _=Rd.go (if L.length<=k\/eE L k rU then .ok (x,k)else .error (mQ L e 3 k)) _;by_cases h:L.length<=k\/eE L k rU
   ·rw[aP h];rfl
   rw[aH h,FX λhh=>h (.inr hh)];rfl
def JS(W:wD)(g m:Nat)(L:List aT)(v:vL)(e:Int)(w:wD)(z:Rd (List aA×Nat))(r:vL)(w':wD):Prop:=
 mU g m w.heap.size w w'/\∃u l st',r=.tuple #[u,.bool (kW st')]/\oZ W g m L v e st' w'/\aK w.heap.size w'.heap.size w' u l/\pL z st' λx j=>x.1=l/\st'=.ok (j,x.2)
def PT(W:wD)(g m:Nat)(L:List aT)(v:vL)(e:Int)(w:wD)(z:Rd (aA×Nat))(r:vL)(w':wD):Prop:=
 mU g m w.heap.size w w'/\∃u s st',r=.tuple #[u,.bool (kW st')]/\oZ W g m L v e st' w'/\aK w.heap.size w'.heap.size w' u s/\pL z st' λx j=>x.1=s/\st'=.ok (j,x.2)
def Hs(room:Nat):Prop:=∀{W w:wD}{g m:Nat}{L:List aT}{v:vL}{e:Int}{i q:Nat}{d:Int},oZ W g m L v e (.ok (i,q)) w->d+(room:Int)=6 ->
 aJ tp 255 [pT g 0,iV d,pT m 0] w (JS W g m L v e w (yO L e room q i))
def Lq(room:Nat):Prop:=∀{W w:wD}{g m:Nat}{L:List aT}{v:vL}{e:Int}{i q:Nat}{d:Int},oZ W g m L v e (.ok (i,q)) w->d+(room:Int)=6 ->
 aJ tp 200 [pT g 0,iV d,pT m 0] w (JS W g m L v e w (tS L e (qV L e room) q i))
def R0(room:Nat):Prop:=∀{W w:wD}{g m:Nat}{L:List aT}{v:vL}{e:Int}{i q k:Nat}{d:Int},oZ W g m L v e (.ok (i,q)) w->d+(room:Int)=6->k=fQ (cV L i)->k≠0->¬((k=2\/k=3)/\room=0) ->
 aJ tp 297 [pT g 0,iV k,iV d,pT m 0] w (PT W g m L v e w (pV L e (AB L e room) k q i))
def I8(room:Nat):Prop:=∀{W w:wD}{g m:Nat}{L:List aT}{v:vL}{e:Int}{i q k:Nat}{d:Int},oZ W g m L v e (.ok (i,q)) w->d+(room:Int)=5->k=fQ (cV L i)->k=2\/k=3 ->
 aJ tp 311 [pT g 0,iV k,iV d,pT m 0] w (PT W g m L v e w (pV L e (tS L e (qV L e room)) k q i))
def Ff{L:List aT}{e:Int}(room q j:Nat):qV L e room q j=if fQ (cV L j)=0 then .ok (([],q),j)else if (fQ (cV L j)=2\/fQ (cV L j)=3)/\room=0 then .error (mQ L e 4 j)else if q=0 then .error (mQ L e 5 j)
   else(pV L e (AB L e room) (fQ (cV L j)) (q-1) j).go λs j=>(qV L e room s.2 j).go λl j=>.ok ((s.1 :: l.1,l.2),j):=by
 have h:=zwj (L:=L) (e:=e) (deep:=decide (room=0)) (Zo (L:=L) (e:=e) room) q j;rw[<-Sq]at h;simp only[lZ,<-Sq]at h;exact h
theorem Dt{α:Type}{r:Rd (α×Nat)}{st:lU}{x0:α}(h:pL r st λx j=>x.1=x0/\st=.ok (j,x.2))(ho:kW st=true):∃j q,st=.ok (j,q)/\r=.ok ((x0,q),j):=by
 match r,h with
 |.error f,h=>rw[show st=.error f from h]at ho;cases ho
 |.ok ((x,q),j),h=>exact⟨j,q,h.2,by rw[<-show x=x0 from h.1]⟩
def Uu{room:Nat}(ih:Hs room):Lq room:=by
 intro W w g m L v e i _ _ h hd;have:=h.lt;have:=h.gm;refine co (g:=kf [] [] []) Tryz.func200 ?_;rw[mf]
 have C:∀{w':wD}{f:bY}{z:Rd (List aA×Nat)},mU g m w.heap.size w w'->oZ W g m L v e (.error f) w'->z=.error f->JS W g m L v e w z (.tuple #[.slice none 0 0,.bool false]) w':=λh1 h2 h3=>
   ⟨h1,_,[],_,rfl,h2,pB,by rw[h3];rfl⟩
 refine(IF (t:=AD) h.rd dD).mono ?_;rintro _ _ ⟨g2,h1,rfl⟩;have gd:=g2.size;have g3:=h.one g2 h1 λj q' hj=>YZ hj;refine dG ?_;by_cases hb:eE L i AD
 rotate_left
 ·rw[CZ hb]at g3 ⊢;refine bW (λ_=>?_) (λho=>by cases ho);exact C g2.twoG g3 (by rw[FX hb];rfl)
 rw[CM hb]at g3 ⊢;refine bW (λho=>by cases ho) λ_=>(ih g3 hd).mono ?_;rintro _ w2 ⟨gf,u,l,gb,rfl,g9,o2,gc⟩;have g0:mU g m w.heap.size w w2:=g2.twoG.trans (gf.mono gd);refine fO rfl<|fO rfl<|dG<|bW (λho=>?_) λho=>?_
 ·have ho:kW gb=false:=by simpa using ho
  obtain⟨f,rfl,hp⟩:=zS gc (λ_ j hh=>⟨_,hh.2⟩) ho;exact C g0 g9 (by rw[sB hb];simp only[Rd.go];rw[hp])
 have ho:kW gb=true:=by simpa using ho
 obtain⟨j,_,rfl,hp⟩:=Dt gc ho;refine(IF (t:=rU) g9.rd dD).mono ?_;rintro _ _ ⟨g4,h3,rfl⟩;have:=g4.size;have g5:=g9.one g4 h3 λj q' hj=>YZ hj;have g1:=g0.trans (g4.twoG (m:=m));refine dG ?_;by_cases hb2:eE L j rU
 rotate_left
 ·rw[CZ hb2]at g5 ⊢;refine bW (λ_=>?_) (λho=>by cases ho);exact C g1 g5 (by rw[sB hb];simp only[Rd.go];rw[hp];simp only;rw[FX hb2])
 rw[CM hb2]at g5 ⊢;refine bW (λho=>by cases ho) λ_=>?_;refine⟨g1,u,l,_,rfl,g5,(o2.chg g4 (.inr oo)).mono oo oo,?_⟩;rw[sB hb];simp only[Rd.go];rw[hp];simp only;rw[sB hb2];exact⟨rfl,rfl⟩
def Qp{room:Nat}(ih:R0 room):Hs room:=by
 intro W w g m L v e i q d h hd;have hm:=h.lt;have gH:=h.gm;refine co (g:=kf [(10,1125899873288384,[])] [(2,590295810358705651648,[8])] []) Tryz.func255 ?_
 have gI:q<=60:=by
   obtain⟨q1,_,h6,hq⟩:=h.mb;have:=hq i q rfl;omega
 refine bV 62 (λn us w'=>∃out l j q',us=[out]/\mU g m w.heap.size w w'/\oZ W g m L v e (.ok (j,q')) w'/\bQ w.heap.size w'.heap.size 117 w' out l/\l.length=n/\q'+l.length<=q/\qV L e room q i=pre l (qV L e room q' j)) 0 oo
     ⟨_,[],i,q,rfl,mU.refl _ _ _ _,h,uC _ _ _ _,rfl,lr _,(nh _).symm⟩ ?_
 rintro n k _ _ _ ⟨out,l,j,q2,hu,gx,h2,gJ,gK,_,hI⟩;try replace hu:=cJ hu
 rw[hu];have hs2:=gx.size
 have g4:∀{w5:wD},mU g m w.heap.size w w5->oZ W g m L v e (.ok (j,q2)) w5->bQ w.heap.size w5.heap.size 117 w5 out l->L.length<=j\/eE L j rU->JS W g m L v e w (yO L e room q i) (.tuple #[out,.bool true]) w5:=by
   intro w5 a1 a2 a3 a4
   have D:fQ (cV L j)=0:=by
     rcases a4 with h4|h4
     ·rw[RX h4];decide
     rw[show cV L j=rU from h4];decide
   refine⟨a1,out,l,.ok (j,q2),rfl,a2,a3.own,?_⟩;unfold yO;rw[hI,Ff,aP D];simp only[pre,Rd.go,oJ];rw[aP a4];exact⟨rfl,rfl⟩
 have g5:=Ff (L:=L) (e:=e) room q2 j
 have g9:∀{w5:wD}{f:bY}{x:vL},mU g m w.heap.size w w5->oZ W g m L v e (.error f) w5->yO L e room q i=.error f->x=.bool false->JS W g m L v e w (yO L e room q i) (.tuple #[.slice none 0 0,x]) w5:=λa1 a2 a3 a4=>
   ⟨a1,_,[],_,by rw[a4];rfl,a2,pB,by rw[a3];rfl⟩
 have C:∀{w5:wD}{c:Int},c≠0->bR c->mU g m w.heap.size w w5->oZ W g m L v e (.ok (j,q2)) w5->yO L e room q i=.error (mQ L e c j) ->
     aJ tp 125 [pT g 0,iV c] w5 λr w'=>JS W g m L v e w (yO L e room q i) (.tuple #[.slice none 0 0,r]) w':=by
   intro w5 c a1 a2 a3 a4 a5;refine(IW a4.rd a1 a2).mono ?_;rintro _ w6 ⟨g1,h6,rfl⟩;exact g9 (a3.trans g1.twoG) (a4.one g1 h6 λ_ _ hh=>by cases hh) a5 rfl
 refine(Au h.rd.is_ h2.rd.at.1).mM λ_ gf=>?_;have hs3:=gf.size;have h3:=h2.step gf;have gy:=gx.trans (gf.two (g:=g) (m:=m) (lo:=w.heap.size));have gz:=gJ.ext gf;refine dG<|bW (λhb=>?_) λhb=>?_
 rotate_left
 ·have hb:L.length<=j:=by simpa using hb
  exact g4 gy h3 (gz.mono (lr _) oo) (.inl hb)
 have hjl:j<L.length:=by simpa using hb
 refine(BM h3.rd).mono ?_;rintro _ _ ⟨gg,a4,rfl,-,-,-⟩;have hs4:=gg.size;have h4:=h3.step gg;have gA:=gy.trans (gg.two (g:=g) (m:=m) (lo:=w.heap.size));have gB:=gz.ext gg;refine CO<|GK<|br (λg2=>?_) λg2=>?_
 rotate_left
 ·have g2:eE L j rU:=eK.1 g2;exact g4 gA h4 (gB.mono (lr _) oo) (.inr g2)
 have g2:¬eE L j rU:=g2;refine(BM h4.rd).mono ?_;rintro _ w5 ⟨gL,a5,rfl,-,-,-⟩;refine CO<|xG.mM λw6 gM=>?_;have M:=gL.t gM;have hs6:=M.size;have h6:=h4.step M;have g1:=gA.trans (M.two (g:=g) (m:=m) (lo:=w.heap.size));have gN:=gB.ext M;have gj:∀{f:bY},qV L e room q2 j=.error f->yO L e room q i=.error f:=λhf=>by unfold yO;rw[hI,hf];rfl
 obtain⟨kd,gC⟩:∃k,k=fQ (cV L j):=⟨_,rfl⟩;rw[<-gC]at g5 ⊢;refine dJ.mk (λus w'=>us=[]/\w'=w6/\kd≠0/\¬((kd=2\/kd=3)/\room=0)/\¬q2=0) ?_ ?_
 ·have V:kd≠0->¬((kd=2\/kd=3)/\room=0) ->
      bZ (pT m 0) (RD tp (Instr.loadAt 3 (pT m 0)) w6 λx=>RD tp (bin BinOp.eql 3 (Operand.tmp 0) (Operand.const undef) x (iV 60)) w6 λb=>BR b
        (aJ tp 125 [pT g 0,iV 5] w6 λr w'=>JS W g m L v e w (yO L e room q i) (.tuple #[.slice none 0 0,r]) w')
        (([]:List vL)=[]/\w6=w6/\kd≠0/\¬((kd=2\/kd=3)/\room=0)/\¬q2=0)):=by
    intro D gb;obtain⟨q1,hB,gO,gl⟩:=h6.mb;obtain rfl:=gl j q2 rfl;refine bZ.mk rfl<|cX aG hB rfl<|bI<|br (λgP=>?_) (λgP=>⟨rfl,rfl,D,gb,oo⟩);refine C dD io g1 h6 (gj ?_);rw[g5,aH D,aH gb,aP oo]
  have Z:kd=2\/kd=3->RD tp (bin BinOp.eql 3 (Operand.tmp 0) (Operand.const undef) (iV d) (iV 6)) w6 λb=>BR b
        (aJ tp 125 [pT g 0,iV 4] w6 λr w'=>JS W g m L v e w (yO L e room q i) (.tuple #[.slice none 0 0,r]) w')
        (bZ (pT m 0) (RD tp (Instr.loadAt 3 (pT m 0)) w6 λx=>RD tp (bin BinOp.eql 3 (Operand.tmp 0) (Operand.const undef) x (iV 60)) w6 λb=>BR b
        (aJ tp 125 [pT g 0,iV 5] w6 λr w'=>JS W g m L v e w (yO L e room q i) (.tuple #[.slice none 0 0,r]) w')
        (([]:List vL)=[]/\w6=w6/\kd≠0/\¬((kd=2\/kd=3)/\room=0)/\¬q2=0))):=by
    intro hk;refine bI<|br (λgD=>?_) (λgD=>V oo (λhh=>gD oo));refine C dD io g1 h6 (gj ?_);rw[g5,aH oo,aP ⟨hk,oo⟩]
  refine bI<|br (λD=>?_) λD=>?_
  ·refine C dD io g1 h6 ?_;unfold yO;rw[hI,g5,aP oo];simp only[pre,Rd.go];rw[aH (λhh=>by rcases hh with hh|hh;omega;exact g2 hh)]
  refine bI<|br (λgQ=>Z (.inl oo)) λgQ=>?_;refine bI<|br (λgR=>Z (.inr oo)) (λgR=>V oo (λhh=>oo))
 rintro _ _ ⟨-,rfl,D,gb,gS⟩;obtain⟨q1,hB,gO,gl⟩:=h6.mb;obtain rfl:=gl j q2 rfl;refine bZ.mk rfl<|cX aG hB rfl<|rQ io<|bZ.mk rfl<|qL (α:=Int) (lo:=0) (hi:=0) aG rfl rfl hB ss (ownI_int io) λw7 gh gi=>?_;have hs7:=gh.size;have gi:cA m 3 w7 [iV (60-(q2:Int)+1)]:=gi;rw[show 60-(q2:Int)+1=60-((q2-1:Nat):Int) by omega]at gi
 have h7:oZ W g m L v e (.ok (j,q2-1)) w7:=by
   have hr:=h6.rd.chg gh oo (by have:=h.rd.lo;omega);have:=hr.at;exact⟨hr.of hr.ext this.1 this.2,⟨q2-1,gi,oo,λ_ _ hh=>by cases hh;rfl⟩,gH⟩
 have gn:=g1.trans (gh.twoM (g:=g));have gT:=gN.chg gh (.inr oo);refine(ih h7 hd gC D gb).mono ?_;rintro _ w8 ⟨gp,_,s,gE,rfl,h8,o8,gF⟩;have hs8:=gp.size;have gq:mU g m w.heap.size w w8:=gn.trans (gp.mono oo);have gU:=gT.two gp oo (.inl oo) (.inl oo);refine fO rfl<|fO rfl<|sY (α:=aA) zX λ_ gc gV=>?_;have hs9:=gc.size;refine oU fB gV (o8.ext gc) (.inr oo) λgW O gr=>?_;have gX:=O.size;have gG:=(h8.step gc).chg O (by have:=h8.lt;omega);have g0:mU g m w.heap.size w gW:=(gq.trans gc.two).trans (O.two oo);have gs:=(gU.ext gc).chg O (.inl oo);have g3:=g5;rw[aH D,aH gb,aH gS]at g3;refine dG<|bW (λho=>?_) λho=>?_
 ·have ho:kW gE=false:=by simpa using ho
  obtain⟨f,rfl,hp⟩:=zS gF (λx j hh=>⟨_,hh.2⟩) ho;exact g9 g0 gG (gj (by rw[g3,hp];rfl)) rfl
 have ho:kW gE=true:=by simpa using ho
 obtain⟨j8,q8,rfl,hp⟩:=Dt gF ho;have hle:=Ds (Zo room) hp;refine DJ fB gr xx λ_ gY=>oS (lo2:=w7.heap.size) (hi2:=w8.heap.size) fJ fB PK NQ dD gs oo gY oo oo (by rw[eB];omega) oo λgZ _ gd gt=>⟨62-(n+1),oo,n+1,oo,gZ,l++[s],j8,q8,rfl,g0.trans (gd.two oo),gG.chg gd oo,gt,by simp[gK],by rw[bX,FG];omega,?_⟩;rw[hI,g3,hp];simp only[Rd.go];exact ik (β:=Unit) _
theorem Yt{α:Type}{r:Rd α}{st:lU}{x0:α}(h:pL r st λx j=>x=x0/\st=.ok (j,q))(j q':Nat)(hs:st=.ok (j,q')):q'=q:=by
 match r,h with
 |.error f,h=>rw[show st=.error f from h]at hs;cases hs
 |.ok (x,j),h=>rw[h.2]at hs;cases hs;rfl
structure pK(W:wD)(g m:Nat)(L:List aT)(v:vL)(e:Int)(n1 n2:Nat)(w1:wD)(st:lU)(x:aA)(w:wD):Prop where
 up:mU g m n1 w1 w
 rm:oZ W g m L v e st w
 var:∃hi,fH n2 hi w n1 x/\hi<=w.heap.size
 n:n2<=w.heap.size/\m<n1/\n1<n2
section
variable {W w w0 w1 w':wD}{g m n1 n2:Nat}{L:List aT}{v:vL}{e:Int}{st st':lU}{x x':aA}
def pK.call(h:pK W g m L v e n1 n2 w1 st x w)(hc:mU g m w.heap.size w w')(hr:oZ W g m L v e st' w'):pK W g m L v e n1 n2 w1 st' x w':=by
 obtain⟨hi,hv,hh⟩:=h.var;have:=hc.size;have:=h.n;have:=h.rm.gm;exact⟨h.up.trans (hc.mono oo),hr,⟨hi,hv.two hc hh (.inl oo) (.inl oo) oo oo oo,oo⟩,oo,h.n.2⟩
def pK.step(h:pK W g m L v e n1 n2 w1 st x w)(hx:aB w w'):pK W g m L v e n1 n2 w1 st x w':=h.call hx.two (h.rm.step hx)
def pK.one{i q:Nat}(h:pK W g m L v e n1 n2 w1 (.ok (i,q)) x w)(hc:aN g (g+1) w w')(hr:iW W g L v e st' w')(hq:∀ j q',st'=.ok (j,q')->q'=q):pK W g m L v e n1 n2 w1 st' x w':=h.call hc.twoG (h.rm.one hc hr hq)
def pK.put{β:Type}[Rep β]{t by_ off:Nat}{u:vL}{y:β}{K:wD->Prop}(h:pK W g m L v e n1 n2 w1 st x w0)(ht:cT tp t=some (Rep.size β,by_,Rep.agg β))(hc:mU g m w0.heap.size w0 w)(hr:oZ W g m L v e st' w)(hu:aK w0.heap.size w.heap.size w u y)
   (hl:∀{F:List Nat},nL F w n1 0 x->∃(G:List Nat)(y0:β)(upd:β->aA),bT (VH n1) (n1 :: F) w n1 (0+off) G y0 upd/\upd y=x') (k:∀w',aN n1 (n1+1) w w'->pK W g m L v e n1 n2 w1 st' x' w'->K w'):fA tp (Instr.storeAt t (pT n1 (0+off)) u) w K:=by
 have h2:=h.call hc hr;obtain⟨_,hv,hh⟩:=h.var;have:=hc.size;have:=h.n;have:=h.rm.gm;obtain⟨F,hO,hF⟩:=hv.two hc hh (.inl oo) (.inl oo) oo oo oo;obtain⟨G,y0,upd,hL,rfl⟩:=hl hO;refine Zx ht hL hF hu oo oo λw' g0 hk=>?_;have:=g0.size;refine k w' g0 ⟨h2.up.trans (g0.two (lr _)),hr.chg g0 oo,⟨w'.heap.size,hk n2 (lr _) oo w'.heap.size oo oo,iD _⟩,oo,h.n.2⟩
def pK.name{s:ByteArray}{K:wD->Prop}(h:pK W g m L v e n1 n2 w1 st x w)(hk:s.size<=maxLen)(kk:∀ w',aN n1 (n1+1) w w'->pK W g m L v e n1 n2 w1 st (.mk x.kind s x.term x.body x.els) w'->K w'):fA tp (Instr.storeAt 9 (pT n1 (0+1)) (.string s)) w K:=
 h.put (β:=ByteArray) cG (mU.refl _ _ _ _) h.rm (Dl hk) (λhO=>by obtain⟨G,hL⟩:=Vh (bT.var hO);exact⟨G,_,_,hL,rfl⟩) kk
def pK.term{u:vL}{t:aD}{K:wD->Prop}(h:pK W g m L v e n1 n2 w1 st x w0)(hc:mU g m w0.heap.size w0 w)(hr:oZ W g m L v e st' w)(hu:aK w0.heap.size w.heap.size w u t)(kk:∀ w',aN n1 (n1+1) w w'->pK W g m L v e n1 n2 w1 st' (.mk x.kind x.name t x.body x.els) w'->K w'):fA tp (Instr.storeAt 67 (pT n1 (0+2)) u) w K:=
 h.put (β:=aD) dK hc hr hu (λhO=>by obtain⟨G,hL⟩:=ni (bT.var hO);exact⟨G,_,_,hL,rfl⟩) kk
def pK.body{u:vL}{t:List aA}{K:wD->Prop}(h:pK W g m L v e n1 n2 w1 st x w0)(hc:mU g m w0.heap.size w0 w)(hr:oZ W g m L v e st' w)(hu:aK w0.heap.size w.heap.size w u t)(kk:∀ w',aN n1 (n1+1) w w'->pK W g m L v e n1 n2 w1 st' (.mk x.kind x.name x.term t x.els) w'->K w'):fA tp (Instr.storeAt 60 (pT n1 (0+6)) u) w K:=
 h.put (β:=List aA) fW hc hr hu (λhO=>by obtain⟨G,hL⟩:=Qk (bT.var hO);exact⟨G,_,_,hL,rfl⟩) kk
def pK.els{u:vL}{t:List aA}{K:wD->Prop}(h:pK W g m L v e n1 n2 w1 st x w0)(hc:mU g m w0.heap.size w0 w)(hr:oZ W g m L v e st' w)(hu:aK w0.heap.size w.heap.size w u t)(kk:∀ w',aN n1 (n1+1) w w'->pK W g m L v e n1 n2 w1 st' (.mk x.kind x.name x.term x.body t) w'->K w'):fA tp (Instr.storeAt 60 (pT n1 (0+7)) u) w K:=
 h.put (β:=List aA) fW hc hr hu (λhO=>by obtain⟨G,hL⟩:=Nw (bT.var hO);exact⟨G,_,_,hL,rfl⟩) kk
def Cf{w4:wD}{u:vL}{s:aA}{lo hi:Nat}{b:Bool}{z:Rd (aA×Nat)}(g2:aB w w1)(g1:fH w1.heap.size w1.heap.size w1 w.heap.size (aV.zv:aA))(hm:m<w.heap.size)
   (hu:mU g m w1.heap.size w1 w4) (hr:oZ W g m L v e st' w4) (ho:aK lo hi w4 u s) (hlo:w1.heap.size<=lo) (hhi:hi<=w4.heap.size) (hb:kW st'=b) (hR:pL z st' λx j=>x.1=s/\st'=.ok (j,x.2)) :
   fA tp (Instr.storeAt 117 (pT w.heap.size 0) u) w4 λw5=>RD tp (qP 117 (pT w.heap.size 0)) w5 λr=>PT W g m L v e w z (.tuple [r,.bool b].toArray) w5:=by
 have g3:=g1.lt;have g4:=g2.size;have:=hr.gm;refine J7 fB (g1.two hu (lr _) (.inl oo) (.inl oo) g3 oo oo) ho (.inl oo) λr w5 g0 g5=>?_;have:=g0.size;exact⟨(g2.two.trans (hu.mono g4)).trans (g0.two (lr _)),r,s,st',by rw[hb],hr.chg g0 oo,g5.mono oo oo,hR⟩
end
def Wd(hl:lo<=hi):aK lo hi w (.agg #[iV 0,.string nO,iV 0,iV 0,.string nO,.slice none 0 0,.slice none 0 0,.slice none 0 0]) (aA.mk 0 nO bA [] []):=Jx hl pJ wS
section
variable {W w w1:wD}{g m:Nat}{L:List aT}{v:vL}{e:Int}{z:Rd (aA×Nat)}
def UO(g0:aB w w1)(g1:fH w1.heap.size w1.heap.size w1 w.heap.size (aV.zv:aA))(hm:m<w.heap.size){n2:Nat}{w5:wD}{x:aA}{f:bY}(S:pK W g m L v e w1.heap.size n2 w1 (.error f) x w5)(hp:z=.error f) :
   RD tp (Instr.build 117 #[]) w5 λu=>fA tp (Instr.storeAt 117 (pT w.heap.size 0) u) w5 λw5=>RD tp (qP 117 (pT w.heap.size 0)) w5 λr=>PT W g m L v e w z (.tuple [r,.bool false].toArray) w5:=by
 refine fI (cells:=#[iV 0,.string nO,iV 0,iV 0,.string nO,.slice none 0 0,.slice none 0 0,.slice none 0 0]) kK<|Cf g0 g1 hm S.up S.rm (Wd (lo:=w1.heap.size) (hi:=w1.heap.size) (lr _)) (lr _) S.up.size rfl (by rw[hp];rfl)
def Aj(g0:aB w w1)(g1:fH w1.heap.size w1.heap.size w1 w.heap.size (aV.zv:aA))(hm:m<w.heap.size){n2:Nat}(hn:w1.heap.size<=n2){w5:wD}{st:lU}{x:aA}{b:Bool}(S:pK W g m L v e w1.heap.size n2 w1 st x w5)(hb:kW st=b)(hR:pL z st λy j=>y.1=x/\st=.ok (j,y.2)) :
   RD tp (Instr.loadAt 117 (pT w1.heap.size 0)) w5 λu=>fA tp (Instr.storeAt 117 (pT w.heap.size 0) u) w5 λw5=>RD tp (qP 117 (pT w.heap.size 0)) w5 λr=>PT W g m L v e w z (.tuple [r,.bool b].toArray) w5:=by
 obtain⟨_,hv,hh⟩:=S.var;refine DJ fB hv xx λu o=>Cf g0 g1 hm S.up S.rm o oo hh hb hR
end
def qg{room:Nat}(hr5:room<=5)(ih:Lq room):I8 room:=by
 intro W _ g m L v e i q k d h _ _ hk;have hm:=h.lt;have gp:i<L.length:=i6 oo;refine co (g:=kf [(16,1267650600227941171120551494144,[])] [] [(13,[0,1,2,3,4,5,6,7,8,9,10,11,12,13,14,15,16,17,18,19,20,21,22,23,24,25,26,27,28,29,30,31],0)]) Tryz.func311 ?_;refine sY (α:=aA) zX λw1 M O=>?_;have:=O.lt;refine fI (cells:=(Hi (k:Int) nO).toArray) kK<|sY (α:=aA) zX λw2 gb gc=>?_;have:=gb.size;have:=gc.lt;refine oU (lo:=w2.heap.size) (hi:=w2.heap.size) fB gc (Jx (lr _) io wS) (.inl oo) λw3 gd gq=>?_;have:=gd.size;have g0:aB w1 w3:=gb.xI gd (lr _);have S3:pK W g m L v e w1.heap.size w2.heap.size w1 (.ok (i,q)) (aA.mk (k:Int) nO bA [] []) w3:=⟨g0.two,h.step xx,⟨_,gq,oo⟩,oo,oo,oo⟩
 have D:pV L e (tS L e (qV L e room)) k q i=(sG L e 6 (i+1)).go λt j=>(tS L e (qV L e room) q j).go λb j=>
   if k=3\/¬eE L j tM then .ok ((.mk (k:Int) lS t b.1 [],b.2),j)
   else if eE L (j+1) AD/\eE L (j+2) rU then .error (mQ L e 3 (j+2))
   else(tS L e (qV L e room) b.2 (j+1)).go λc j=>.ok ((.mk (k:Int) lS t b.1 c.1,c.2),j):=by
   unfold pV;rw[aH oo,aH oo,aP hk]
 refine zY S3.rm.rd gp λ_ gr h4=>?_;have S4:=S3.one gr h4 λ_ _ hh=>by cases hh;rfl
 refine(Oa 6 oo (d:=0) h4 oo).mono ?_;rintro _ _ ⟨gf,_,t,gg,rfl,h5,o5,g1⟩;refine fO rfl<|fO rfl<|aE sS<|S4.term gf.twoG (S4.rm.one gf h5 (Yt g1)) o5 λ_ _ S6=>dG<|bW (λho=>?_) λho=>?_
 ·have ho:kW gg=false:=by simpa using ho
  obtain⟨f,rfl,hp⟩:=zS g1 (λx j hh=>⟨_,hh.2⟩) ho;exact UO M O hm S6 (by rw[D,hp];rfl)
 have ho:kW gg=true:=by simpa using ho
 obtain⟨j,rfl,hp⟩:=ME g1 ho;refine rQ io<|(ih S6.rm oo).mono ?_;rintro _ _ ⟨gs,_,_,gh,rfl,M7,o7,gi⟩;refine fO rfl<|fO rfl<|aE rZ<|S6.body gs M7 o7 λ_ _ S8=>dG<|bW (λho=>?_) λho=>?_
 ·have ho:kW gh=false:=by simpa using ho
  obtain⟨f,rfl,g2⟩:=zS gi (λx j hh=>⟨_,hh.2⟩) ho;exact UO M O hm S8 (by rw[D,hp];simp only[Rd.go];rw[g2])
 have ho:kW gh=true:=by simpa using ho
 obtain⟨j7,_,rfl,g2⟩:=Dt gi ho;rw[hp]at D;simp only[Rd.go]at D;rw[g2]at D;simp only at D;refine bI<|br (λgj=>?_) λgj=>?_
 ·exact Aj M O hm oo S8 rfl (by rw[D,aP (.inl oo)];exact⟨rfl,rfl⟩)
 refine(BM S8.rm.rd).mono ?_;rintro _ _ ⟨gt,_,rfl,-,-,-⟩;have S9:=S8.step gt;refine CO<|GK<|br (λZ=>?_) λZ=>?_
 ·have Z:¬eE L j7 tM:=Z;exact Aj M O hm oo S9 rfl (by rw[D,aP (.inr Z)];exact⟨rfl,rfl⟩)
 have gl:eE L j7 tM:=eK.1 Z;rw[aH (λhh=>hh.elim (λh3=>gj (by rw[h3];rfl)) (λh3=>h3 gl))]at D;refine zY S9.rm.rd (MF gl dD) λg3 g4 gx=>?_;have S10:=S9.one g4 gx λ_ _ hh=>by cases hh;rfl
 refine dJ.mk (λus w'=>us=[]/\aB g3 w'/\¬(eE L (j7+1) AD/\eE L (j7+2) rU)) ?_ ?_
 ·refine(BM (S10.step (cO g3)).rm.rd).mono ?_;rintro _ gy ⟨C,_,rfl,-,-,-⟩;have C:=(cO g3).trans C;have S11:=S10.step C;have:=S11.rm.rd.many;obtain⟨hB,_⟩:=S11.rm.rd.at;refine CO<|eX<|br (λhb=>?_) (λhb=>⟨rfl,C,λhh=>hb hh.1⟩);have hb:eE L (j7+1) AD:=hb;refine bZ.mk rfl<|aE NY<|cX aG hB rfl<|aU<|bZ.mk rfl<|aE UF<|cX WC hB rfl<|aX QO S11.rm.rd.is_<|bM<|br (λ_=>?_) (λ_=>⟨rfl,C,λhh=>by have:=MF hh.2 dD;omega⟩);have gn:j7+1+1<L.length:=oo;refine bZ.mk rfl<|aE UF<|cX WC hB rfl<|bZ.mk rfl<|aE NY<|cX aG hB rfl<|aU<|bC QO AA S11.rm.rd.is_ gn λb _ hA=>aE TB<|eV cG (xz hA) S11.rm.rd.ext λ_=>eX ?_;rw[UT gn];refine br (λhe=>?_) (λhe=>⟨rfl,C,λhh=>he hh.2⟩);have he:eE L (j7+2) rU:=he;refine zY S11.rm.rd (MF hb dD) λgA V gB=>?_;have S12:=S11.one V gB λ_ _ hh=>by cases hh;rfl
  refine fI (cells:=#[iV 0,.string nO,iV 0,iV 0,.string nO,.slice none 0 0,.slice none 0 0,.slice none 0 0]) kK<|(IW (c:=3) S12.rm.rd dD io).mono ?_;rintro _ gC ⟨g5,gD,rfl⟩;have S13:=S12.one g5 gD λ_ _ hh=>by cases hh
  refine Cf M O hm S13.up S13.rm (Wd (lo:=w1.heap.size) (hi:=w1.heap.size) (lr _)) (lr _) S13.up.size rfl ?_;rw[D,aP ⟨hb,he⟩];rfl
 rintro _ gy ⟨-,C,gE⟩;have S11:=S10.step C;rw[aH gE]at D;refine rQ io<|(ih S11.rm oo).mono ?_;rintro _ gA ⟨V,_,_,_,rfl,gF,gG,g9⟩;refine fO rfl<|fO rfl<|aE pU<|S11.els V gF gG λgC _ S13=>Aj M O hm oo S13 rfl ?_;rw[D];refine RL g9 (λf hf=>hf) λc _ hj=>?_;obtain⟨rfl,hj⟩:=hj;exact⟨rfl,hj⟩
theorem C5{room:Nat}(ih:∀ m,m+1=room->I8 m):R0 room:=by
 intro W w g m L v e i q k d h _ g5 _ gi;have hm:=h.lt;have g9:i<L.length:=i6 oo;have g3:=Ke (cV L i);refine co (g:=kf [(16,36893488147419089408,[11])] [] []) Tryz.func297 ?_;refine sY (α:=aA) zX λw1 O V=>?_;have:=V.lt;refine fI (cells:=(Hi (k:Int) nO).toArray) kK<|sY (α:=aA) zX λw2 gb gc=>?_;have:=gb.size;have:=gc.lt;refine oU (lo:=w2.heap.size) (hi:=w2.heap.size) fB gc (Jx (lr _) io wS) (.inl oo) λw3 gd gj=>?_;have:=gd.size;have g0:aB w1 w3:=gb.xI gd (lr _);have S3:pK W g m L v e w1.heap.size w2.heap.size w1 (.ok (i,q)) (aA.mk (k:Int) nO bA [] []) w3:=⟨g0.two,h.step xx,⟨_,gj,oo⟩,oo,oo,oo⟩
 have D:k=2\/k=3->aJ tp 311 [pT g 0,iV k,iV d,pT m 0] w3 λr w'=>RD tp (Instr.extract r 0) w' λx=>RD tp (Instr.extract r 1) w' λy=>
     fA tp (Instr.storeAt 117 (pT w.heap.size 0) x) w' λw5=>RD tp (qP 117 (pT w.heap.size 0)) w5 λr=>PT W g m L v e w (pV L e (AB L e room) k q i) (.tuple [r,y].toArray) w5:=by
   intro hk;obtain⟨m',rfl⟩:∃m',room=m'+1:=⟨room-1,by have:room≠0:=λh0=>gi ⟨hk,h0⟩;omega⟩;refine(ih m' rfl S3.rm oo g5 hk).mono ?_;rintro _ w4 ⟨M,u,s,_,rfl,M4,o4,gl⟩;refine fO rfl<|fO rfl<|Cf O V hm (S3.up.trans (M.mono oo)) M4 o4 oo (lr _) rfl gl
 refine dJ.mk (λus w'=>∃st x,us=[.bool (kW st)]/\pK W g m L v e w1.heap.size w2.heap.size w1 st x w'/\pL (pV L e (AB L e room) k q i) (ET L e kX st) λy j=>y.1=x/\ET L e kX st=.ok (j,y.2)) ?_ ?_
 ·refine bI ?_;refine br (λgn=>D (.inl oo)) λgn=>?_;refine bI<|br (λgp=>D (.inr oo)) λgp=>?_;have:¬(k=2\/k=3):=oo;refine bI<|br (λC=>?_) λC=>?_
  ·have C:k=1:=oo;have hn:cK (cV L i)=true:=g3.2 (by rw[<-g5];exact C);refine(Bu S3.rm.rd).mono ?_;rintro _ w4 ⟨M,h4,rfl,g1⟩;rw[PY hn]at h4 ⊢;have e1:KC L (.ok (i,q))=cV L i:=XE hn;rw[e1]at g1 ⊢;have S4:=S3.one M h4 λ_ _ hh=>by cases hh;rfl
   refine fO rfl<|fO rfl<|aE oB<|S4.name g1 λw5 _ S5=>(IF (t:=NB) S5.rm.rd dD).mono ?_;rintro _ w6 ⟨gq,h6,rfl⟩;have S6:=S5.one gq h6 λ_ _ hh=>YZ hh
   have gf:pV L e (AB L e room) k q i=(rP L e NB (i+1)).go λ_ j=>(sG L e 6 j).go λt j=>(rP L e kX j).go λ_ j=>.ok ((.mk 1 (cV L i) t [] [],q),j):=by
     unfold pV;rw[aP C]
   refine dG ?_;by_cases hb:eE L (i+1) NB
   rotate_left
   ·rw[CZ hb]at S6 ⊢;refine bW (λ_=>?_) (λho=>by cases ho);exact UO O V hm S6 (by rw[gf,FX hb];rfl)
   rw[CM hb]at S6 ⊢;refine bW (λho=>by cases ho) λ_=>(Oa 6 oo (d:=0) S6.rm.rd oo).mono ?_;rintro _ _ ⟨gg,u,t,gr,rfl,h7,o7,gh⟩;refine fO rfl<|fO rfl<|aE sS<|S6.term gg.twoG (S6.rm.one gg h7 (Yt gh)) o7 λ_ _ S8=>⟨gr,_,rfl,S8,?_⟩;rw[gf,sB hb];simp only[Rd.go];refine RL gh (λf hf=>by rw[hf];rfl) λ_ _ gs=>?_;obtain⟨rfl,rfl⟩:=gs;refine RL Gp (λf hf=>hf) λ_ j3 Z=>⟨by rw[C];rfl,Z⟩
  refine bI<|br (λg2=>?_) λg2=>?_
  ·have g2:k=8:=oo;refine zY S3.rm.rd g9 λw4 M h4=>?_;have S4:=S3.one M h4 λ_ _ hh=>by cases hh;rfl
   refine⟨.ok (i+1,q),_,rfl,S4,?_⟩;unfold pV;rw[aH oo,aP g2];refine RL Gp (λf hf=>hf) λ_ j3 Z=>⟨by rw[g2];rfl,Z⟩
  refine zY S3.rm.rd g9 λw4 M h4=>?_;have S4:=S3.one M h4 λ_ _ hh=>by cases hh;rfl
  refine(Bu S4.rm.rd).mono ?_;rintro _ w5 ⟨g4,h5,rfl,g1⟩;have S5:=S4.one g4 h5 λ_ _ hh=>zHv hh;refine fO rfl<|fO rfl<|aE oB<|S5.name g1 λw6 _ S6=>⟨_,_,rfl,S6,?_⟩;unfold pV;rw[aH oo,aH oo,aH oo];refine RL zB7 (λf hf=>by rw[hf];rfl) λs j hj=>?_;obtain⟨rfl,hj⟩:=hj;rw[hj];refine RL Gp (λf hf=>hf) λ_ j3 Z=>⟨rfl,Z⟩
 rintro _ w4 ⟨st,x,hu,S4,hR⟩;try replace hu:=cJ hu
 rw[hu];refine dG<|bW (λho=>?_) λho=>?_
 ·have ho:kW st=false:=by simpa using ho
  cases st with
  |ok p=>cases ho
  | error f=>
    obtain⟨f',hf,hp⟩:=zS (st:=.error f) hR (λx j hh=>⟨_,hh.2⟩) rfl;cases hf;exact UO O V hm S4 hp
 have ho:kW st=true:=by simpa using ho
 cases st with
 |error f=>cases ho
 | ok p=>
   obtain⟨j,_⟩:=p;refine(IF (t:=kX) S4.rm.rd dD).mono ?_;rintro _ w5 ⟨g4,h5,rfl⟩;have S5:=S4.one g4 h5 λ_ _ hh=>YZ hh;refine dG ?_;by_cases hb:eE L j kX
   ·rw[CM hb]at S5 hR ⊢;refine bW (λho=>by cases ho) λ_=>?_;exact Aj O V hm oo S5 rfl hR
   rw[CZ hb]at S5 hR ⊢;refine bW (λ_=>?_) (λho=>by cases ho);obtain⟨f',hf,hp⟩:=zS hR (λx j hh=>⟨_,hh.2⟩) rfl;cases hf;exact UO O V hm S5 hp
theorem zzy:∀room,room<=6->Hs room:=by
 intro room
 induction room with
 |zero=>intro h;exact @Qp 0 (@C5 0 λm hm=>oo)
 |succ r ih=>intro h;exact @Qp (r+1) (@C5 (r+1) λm hm=>by
     have:m=r:=oo;subst this;exact @qg m oo (@Uu m (ih oo)))
def nj:∀room,room<=6->Lq room:=by
 intro room h;exact @Uu room (@zzy room h)
def lR(k:Int):ByteArray:=oV.getD k.toNat lS
def BC(blk:Nat->List aA->List UInt8)(b:Nat)(t:aA):List UInt8:=
 List.replicate b 32++((if t.kind=1 then aW t.name++(32 :: 61 :: 32 :: (fN 6 t.term++[59]))
   else if t.kind=2\/t.kind=3 then aW (lR t.kind)++(32 :: (fN 6 t.term++(blk b t.body++(if t.els.length=0 then[]else 32 :: (aW tM++blk b t.els)))))
   else if t.kind=8 then aW (lR 8)++[59]
   else aW (lR t.kind)++(32 :: (aW t.name++[59])))++[10])
def xE(f:Nat->aA->List UInt8)(b:Nat)(l:List aA):List UInt8:=32 :: 123 :: 10 :: (l.flatMap (f (b+1))++(List.replicate b 32++[125]))
def lM:Nat->Nat->aA->List UInt8
 |0=>BC λ_ _=>[]
 |n+1=>BC (xE (lM n))
def uL(blk:List aA->lX)(t:aA):lX:=
 if t.kind=1 then(1,t.name) :: (3,NB) :: (mI 6 t.term++[(3,kX)])
 else if t.kind=2\/t.kind=3 then(1,lR t.kind) :: (mI 6 t.term++(blk t.body++(if t.els.length=0 then[]else(1,tM) :: blk t.els)))
 else if t.kind=8 then[(1,lR 8),(3,kX)]
 else[(1,lR t.kind),(1,t.name),(3,kX)]
def oI(f:aA->lX)(l:List aA):lX:=(3,AD) :: (l.flatMap f++[(3,rU)])
def kC:Nat->aA->lX
 |0=>uL λ_=>[]
 |n+1=>uL (oI (kC n))
def Gu{blk:Nat->List aA->List UInt8}{t:aA}(hk:t.kind=2\/t.kind=3):BC blk b t=List.replicate b 32++((aW (lR t.kind)++(32 :: (fN 6 t.term++(blk b t.body++(if t.els.length=0 then[]else 32 :: (aW tM++blk b t.els))))))++[10]):=by
 unfold BC;rw[aH oo,aP hk]
def Mh{blk:List aA->lX}{t:aA}(hk:t.kind=2\/t.kind=3):uL blk t=(1,lR t.kind) :: (mI 6 t.term++(blk t.body++(if t.els.length=0 then[]else(1,tM) :: blk t.els))):=by
 unfold uL;rw[aH oo,aP hk]
def uh{blk:List aA->lX}{b e:List aA}:uL blk (.mk 1 s tm b e)=(1,s) :: (3,NB) :: (mI 6 tm++[(3,kX)]):=rfl
def zJe{blk:List aA->lX}{b e:List aA}:uL blk (.mk 8 s tm b e)=[(1,lR 8),(3,kX)]:=rfl
def Wx{blk:List aA->lX}{k:Int}{b e:List aA}(h4:4<=k)(h7:k<=7):uL blk (.mk k s tm b e)=[(1,lR k),(1,s),(3,kX)]:=
 (aH (show ¬k=1 by omega)).trans ((aH (show ¬(k=2\/k=3) by omega)).trans (aH (show ¬k=8 by omega)))
theorem Di{α:Type}{f:α->List UInt8}{g:α->lX}:∀{l:List α}{r:List UInt8}{ts:lX},(∀x∈l,∀r ts,bJ r ts->bJ (f x++r) (g x++ts))->bJ r ts->bJ (l.flatMap f++r) (l.flatMap g++ts)
 |[],r,ts,_,h=>h
 | x :: l,r,ts,hf,h=>by
   rw[vE,vE,fR,fR];exact hf x ss _ _ (Di (λy hy=>hf y (by simp[hy])) h)
def YJ{k:Int}(h2:2<=k)(h8:k<=8):tB (lR k)=true/\fQ (lR k)=k.toNat/\¬cK (lR k)=true:=by
 have hc:k=2\/k=3\/k=4\/k=5\/k=6\/k=7\/k=8:=oo;rcases hc with rfl|rfl|rfl|rfl|rfl|rfl|rfl<;>decide
def N9{l:List UInt8}{ts:lX}(h:bJ l ts):bJ (123 :: l) ((3,AD) :: ts):=h.mark dD (.inl dD)
def E6{l:List UInt8}{ts:lX}(h:bJ l ts):bJ (125 :: l) ((3,rU) :: ts):=h.mark dD (.inl dD)
def Ys{t:aA}(ht:S0 t){blk:Nat->List aA->List UInt8}{g0:List aA->lX}(b:Nat){l:List UInt8}{ts:lX}(h:bJ l ts):bJ (BC blk b t++l) (uL g0 t++ts):=by
 unfold BC uL
 have C:∀{k:Int},4<=k->k<=7->cK t.name=true->bJ (List.replicate b 32++((aW (lR k)++(32 :: (aW t.name++[59])))++[10])++l) ([(1,lR k),(1,t.name),(3,kX)]++ts):=λh4 _ hn=>by
   simp only[sZ,fR,sL];exact bJ.blanks b (bJ.word (YJ oo oo).1 (vT dD) (bJ.blank (.inl rfl) (bJ.word (KN hn) (vT dD) (Ah (bJ.blank (.inr rfl) h)))))
 rcases ht with⟨h1,h2,h3,h4,h5⟩|⟨h1,h2,h3,h4,h5⟩|⟨h1,h2,h3,h4,h5⟩|⟨h1,h2,h3,h4,h5⟩
 ·rw[aP h1,aP h1];simp only[sZ,fR,sL];exact bJ.blanks b (bJ.word (KN h2) (vT dD) (bJ.blank (.inl rfl) (bJ.mark (b:=61) dD (.inr ss) (bJ.blank (.inl rfl) (Ii 6 _ h3 _ _ (vT dD) (Ah (bJ.blank (.inr rfl) h)))))))
 ·rw[aH oo,aH oo,aH oo,aH oo,aH oo,aH oo];exact C oo oo h2
 ·rw[aH oo,aH oo,aH oo,aH oo,aH oo,aH oo];exact C oo oo h2
 rw[aH oo,aH oo,aP h1,aH oo,aH oo,aP h1];simp only[sZ,fR,sL];exact bJ.blanks b (bJ.word dD (vT dD) (Ah (bJ.blank (.inr rfl) h)))
theorem ye:∀(n:Nat)(t:aA),SH n t->∀(b:Nat)(l:List UInt8)(ts:lX),bJ l ts->bJ (lM n b t++l) (kC n t++ts):=by
 intro n
 induction n with
 |zero=>intro t ht b l ts h;exact Ys ht.zero b h
 | succ n ih=>
   intro t ht b l ts h;rcases ht.succ with h0|⟨h1,_,h3,h4,h5⟩
   ·exact Ys h0 b h
   have g0:∀{m:List aA},(∀x∈m,SH n x)->∀{r:List UInt8}{ts:lX},bJ r ts->bJ (xE (lM n) b m++r) (oI (kC n) m++ts):=λhm r ts hr=>by
     unfold xE oI;simp only[sZ,fR,sL];exact bJ.blank (.inl rfl) (N9 (bJ.blank (.inr rfl) (Di (λx hx r ts h=>ih x (hm x hx) _ r ts h) (bJ.blanks b (E6 hr)))))
   have C:∀(m:List aA)(r:List UInt8),IX (xE (lM n) b m++r):=λm r=>vT (b:=32) dD;have hk:t.kind=2\/t.kind=3:=h1.imp id λh=>h.1;have hw:=(YJ (k:=t.kind) oo oo).1;show bJ (BC (xE (lM n)) b t++l) (uL (oI (kC n)) t++ts);rw[Gu hk,Mh hk];by_cases he:t.els.length=0
   ·rw[aP he,aP he];simp only[sZ,fR,sL];exact bJ.blanks b (bJ.word hw (vT dD) (bJ.blank (.inl rfl) (Ii 6 _ h3 _ _ (C _ _) (g0 h4 (bJ.blank (.inr rfl) h)))))
   rw[aH he,aH he];simp only[sZ,fR,sL];exact bJ.blanks b (bJ.word hw (vT dD) (bJ.blank (.inl rfl) (Ii 6 _ h3 _ _ (C _ _) (g0 h4 (bJ.blank (.inl rfl) (bJ.word dD (C _ _) (g0 h5 (bJ.blank (.inr rfl) h))))))))
section
variable {L:List aT}{e:Int}
def an(t:aA):fU t=1+cM t.body+cM t.els:=by cases t;rw[fU];rfl
def Pv{n:Nat}{t:aA}(ht:S0 t){g0:List aA->lX}{q i:Nat}(h:Hd L i (uL g0 t)) :
   fQ (cV L i)≠0/\¬(fQ (cV L i)=2\/fQ (cV L i)=3)/\pV L e (AB L e n) (fQ (cV L i)) q i=.ok ((t,q),i+(uL g0 t).length):=by
 obtain⟨k,s,tm,bd,el⟩:=t
 have C:∀(k:Int),4<=k->k<=7->cK s=true->Hd L i [(1,lR k),(1,s),(3,kX)]->fQ (cV L i)≠0/\¬(fQ (cV L i)=2\/fQ (cV L i)=3)/\pV L e (AB L e n) (fQ (cV L i)) q i=.ok ((.mk k s JB [] [],q),i+[(1,lR k),(1,s),((3:Int),kX)].length):=λk h4 _ hn h=>by
   obtain⟨a1,a2,a3,h⟩:=h.cons;obtain⟨b1,b2,b3,h⟩:=h.cons;obtain⟨c1,c2,c3,h⟩:=h.cons;have hw:=(YJ (k:=k) oo oo).2.1;rw[a1,hw];refine⟨oo,oo,?_⟩;unfold pV;rw[aH oo,aH oo,aH oo];unfold uZ;rw[aP (by rw[b1];exact hn),b1];simp only[Rd.go];rw[sB (show eE L _ kX from c1)];simp only[Rd.go,dA,eU];rw[show((k.toNat:Nat):Int)=k by omega]
 rcases ht with⟨h1,h2,h3,h4,h5⟩|⟨h1,h2,h3,h4,h5⟩|⟨h1,h2,h3,h4,h5⟩|⟨h1,h2,h3,h4,h5⟩
 ·have h4:bd=[]:=h4;have h5:el=[]:=h5;have D:k=1:=h1;have g3:fK 6 tm=true:=h3;subst h4 h5 D;rw[uh]at h ⊢;obtain⟨a1,a2,a3,h⟩:=h.cons;obtain⟨b1,b2,b3,h⟩:=h.cons;obtain⟨ht,h⟩:=h.app;obtain⟨c1,c2,c3,h⟩:=h.cons;have hw:fQ (cV L i)=1:=xa.1 (by rw[a1];exact h2);rw[hw];refine⟨oo,oo,?_⟩;unfold pV;rw[aP rfl,sB (show eE L _ NB from b1)];simp only[Rd.go];rw[s8 6 _ g3 6 _ oo ht];simp only[Rd.go];rw[sB (show eE L _ kX from c1),a1];simp only[Rd.go,dA,bX,eU];congr 2;omega
 ·have h4:bd=[]:=h4;have h5:el=[]:=h5;have h6:tm=bA:=h3;have D:k=4\/k=5:=h1;subst h4 h5 h6;rw[Wx oo oo]at h ⊢;exact C k oo oo h2 h
 ·have h4:bd=[]:=h4;have h5:el=[]:=h5;have h6:tm=bA:=h3;have D:k=6\/k=7:=h1;subst h4 h5 h6;rw[Wx oo oo]at h ⊢;exact C k oo oo h2 h
 have h4:bd=[]:=h4;have h5:el=[]:=h5;have h6:tm=bA:=h3;have D:k=8:=h1;have g1:s=nO:=h2;subst h4 h5 h6 D g1;rw[zJe]at h ⊢;obtain⟨a1,a2,a3,h⟩:=h.cons;obtain⟨c1,c2,c3,h⟩:=h.cons;have hw:fQ (cV L i)=8:=by rw[a1];decide
 rw[hw];refine⟨oo,oo,?_⟩;unfold pV;rw[aH oo,aP rfl,sB (show eE L _ kX from c1)];rfl
def fy:fQ tM=0:=by decide
def la{blk:List aA->lX}{k:Int}{s:ByteArray}{tm:aD}{b e:List aA}(hk:k=2\/k=3):uL blk (.mk k s tm b e)=(1,lR k) :: (mI 6 tm++(blk b++(if e.length=0 then[]else(1,tM) :: blk e))):=Mh (t:=.mk k s tm b e) hk
theorem Rl{n:Nat}{y:aA}(hy:SH n y){j:Nat}(h:Hd L j (kC n y)):fQ (cV L j)≠0:=by
 have h0:∀{blT:List aA->lX},S0 y->Hd L j (uL blT y)->fQ (cV L j)≠0:=λh0 h=>(Pv (L:=L) (e:=0) (n:=0) h0 (q:=0) h).1;cases n with
 |zero=>exact h0 hy.zero h
 | succ n=>
   rcases hy.succ with h1|⟨g1,_,_,_,_⟩
   ·exact h0 h1 h
   have hk:y.kind=2\/y.kind=3:=g1.imp id λh=>h.1;have e0:kC (n+1) y=uL (oI (kC n)) y:=rfl;rw[e0,Mh hk]at h;rw[h.cons.1,(YJ oo oo).2.1];omega
def dq{n:Nat}{k:Int}{tm:aD}{bd el:List aA}{q i:Nat}(hk:k=2\/(k=3/\el=[]))(h3:fK 6 tm=true)(h4:∀ x∈bd,SH n x)(h5:∀ x∈el,SH n x)
   (g0:∀(l:List aA),(∀x∈l,SH n x)->∀(q i:Nat),cM l<=q->Hd L i (oI (kC n) l)->AB L e (n+1) q i=.ok ((l,q-cM l),i+(oI (kC n) l).length))
   (hq:cM bd+cM el<=q) (h:Hd L i (uL (oI (kC n)) (.mk k nO tm bd el))) (C:¬eE L (i+(uL (oI (kC n)) (.mk k nO tm bd el)).length) tM) :
   fQ (cV L i)≠0/\pV L e (AB L e (n+1)) (fQ (cV L i)) q i=.ok ((.mk k nO tm bd el,q-cM bd-cM el),i+(uL (oI (kC n)) (.mk k nO tm bd el)).length):=by
 have g4:k=2\/k=3:=hk.imp id λh=>h.1;rw[la g4]at h C ⊢;obtain⟨a1,_,_,h1⟩:=h.cons;obtain⟨ht,h1⟩:=h1.app;obtain⟨hB,hE⟩:=h1.app;have hw:=(YJ (k:=k) oo oo).2.1;have g2:((k.toNat:Nat):Int)=k:=oo;rw[a1,hw];refine⟨oo,?_⟩;unfold pV;rw[aH oo,aH oo,aP oo,s8 6 _ h3 6 _ oo ht];simp only[Rd.go];rw[g0 bd h4 q _ oo hB];simp only;by_cases hel:el.length=0
 ·have g1:el=[]:=JR.1 hel;subst g1;rw[aP hel]at C ⊢
  have D:((1,lR k) :: (mI 6 tm++(oI (kC n) bd++[]))).length=1+(mI 6 tm).length+(oI (kC n) bd).length:=by
    simp only[dA,bX,eU];omega
  rw[D]at C ⊢;have e1:i+(1+(mI 6 tm).length+(oI (kC n) bd).length)=i+1+(mI 6 tm).length+(oI (kC n) bd).length:=oo;rw[e1]at C ⊢;rw[aP (by exact .inr C)];rw[g2];rfl
 rw[aH hel]at hE ⊢;obtain⟨c1,_,_,hE⟩:=hE.cons
 have g5:¬k.toNat=3:=by
   rcases hk with hk|hk
   ·omega
   rw[hk.2]at hel;exact absurd rfl hel
 rw[aH (by rintro(hh|hh);exact g5 hh;exact hh c1)]
 have g9:¬(eE L (i+1+(mI 6 tm).length+(oI (kC n) bd).length+1) AD/\eE L (i+1+(mI 6 tm).length+(oI (kC n) bd).length+2) rU):=by
   rintro⟨_,hh⟩;cases el with
   |nil=>exact hel rfl
   | cons y el=>
     have g3:Hd L (i+1+(mI 6 tm).length+(oI (kC n) bd).length+1+1) ((y :: el).flatMap (kC n)++[(3,rU)]):=(show Hd L _ ((3,AD) :: ((y :: el).flatMap (kC n)++[(3,rU)]))from hE).cons.2.2.2;rw[vE,fR]at g3;have hf:=Rl (h5 y ss) g3.app.1;rw[show cV L (i+1+(mI 6 tm).length+(oI (kC n) bd).length+1+1)=rU from hh]at hf;exact hf dD
 rw[aH g9,g0 el h5 (q-cM bd) _ oo hE];simp only
 have D:((1,lR k) :: (mI 6 tm++(oI (kC n) bd++(1,tM) :: oI (kC n) el))).length=1+(mI 6 tm).length+(oI (kC n) bd).length+1+(oI (kC n) el).length:=by
   simp only[dA,bX];omega
 rw[D,g2,show i+(1+(mI 6 tm).length+(oI (kC n) bd).length+1+(oI (kC n) el).length)=i+1+(mI 6 tm).length+(oI (kC n) bd).length+1+(oI (kC n) el).length by omega];rfl
theorem Xq{n:Nat}(g1:∀ (x:aA),SH n x->∀ (q i:Nat),fU x<=q+1->Hd L i (kC n x)->¬eE L (i+(kC n x).length) tM->fQ (cV L i)≠0/\¬((fQ (cV L i)=2\/fQ (cV L i)=3)/\n=0)/\pV L e (AB L e n) (fQ (cV L i)) q i=.ok ((x,q+1-fU x),i+(kC n x).length)) :
   ∀(l:List aA),(∀x∈l,SH n x)->∀(q i:Nat),cM l<=q->Hd L i (l.flatMap (kC n))->fQ (cV L (i+(l.flatMap (kC n)).length))=0->¬eE L (i+(l.flatMap (kC n)).length) tM->qV L e n q i=.ok ((l,q-cM l),i+(l.flatMap (kC n)).length):=by
 intro l
 induction l with
 | nil=>
   intro _ q i _ h hk _;have hk:fQ (cV L i)=0:=hk;rw[Ff,aP hk];rfl
 | cons x l ih=>
   intro hx q i _ h hk he;rw[vE]at h hk he ⊢;rw[bX]at hk he ⊢;obtain⟨h1,h2⟩:=h.app;have:cM (x :: l)=fU x+cM l:=by rw[cM]
   have:=an x
   have g0:¬eE L (i+(kC n x).length) tM:=by
     cases l with
     |nil=>simpa using he
     | cons y l=>
       intro hh;rw[vE]at h2;have hw:=Rl (hx y ss) h2.app.1;rw[show cV L (i+(kC n x).length)=tM from hh,fy]at hw;exact hw rfl
   obtain⟨r1,r2,r3⟩:=g1 x (hx x ss) (q-1) i oo h1 g0;rw[Ff,aH r1,aH r2,aH oo,r3];simp only[Rd.go];have ih:=ih (λy hy=>hx y (by simp[hy])) (q-1+1-fU x) _ oo h2 (by rw[DU];exact hk) (by rw[DU];exact he);rw[ih];simp only;rw[show q-1+1-fU x-cM l=q-cM (x :: l) by omega,DU]
theorem sp:∀(n:Nat)(l:List aA),(∀x∈l,SH n x)->∀(q i:Nat),cM l<=q->Hd L i (l.flatMap (kC n))->fQ (cV L (i+(l.flatMap (kC n)).length))=0->¬eE L (i+(l.flatMap (kC n)).length) tM->qV L e n q i=.ok ((l,q-cM l),i+(l.flatMap (kC n)).length):=by
 have gb:∀{n:Nat}{g0:List aA->lX}{x:aA},S0 x->∀(q i:Nat),Hd L i (uL g0 x)->fQ (cV L i)≠0/\¬((fQ (cV L i)=2\/fQ (cV L i)=3)/\n=0)/\pV L e (AB L e n) (fQ (cV L i)) q i=.ok ((x,q+1-fU x),i+(uL g0 x).length):=λ{n g0 x} h0 q i h1=>by
   have gc:x.body=[]/\x.els=[]:=by rcases h0 with⟨_,_,_,a,b⟩|⟨_,_,_,a,b⟩|⟨_,_,_,a,b⟩|⟨_,_,_,a,b⟩<;>exact⟨a,b⟩
   have hz:=an x;rw[gc.1,gc.2]at hz;have gd:fU x=1:=hz;obtain⟨r1,r2,r3⟩:=Pv (L:=L) (e:=e) (n:=n) h0 (q:=q) h1;rw[gd];exact⟨r1,λhh=>r2 hh.1,r3⟩
 intro n
 induction n with
 |zero=>exact Xq λx hx q i hq h1 C=>gb hx.zero q i h1
 | succ n ihn=>
   have g9:∀(l:List aA),(∀x∈l,SH n x)->∀(q i:Nat),cM l<=q->Hd L i (oI (kC n) l)->AB L e (n+1) q i=.ok ((l,q-cM l),i+(oI (kC n) l).length):=by
     intro l hl q i hq h;unfold oI at h ⊢;obtain⟨a1,_,_,h⟩:=h.cons;obtain⟨h,hE⟩:=h.app;obtain⟨b1,_,_,-⟩:=hE.cons;show tS L e (qV L e n) q i=_;unfold tS;rw[sB (show eE L i AD from a1)];simp only[Rd.go];rw[ihn l hl q (i+1) hq h (by rw[b1];decide) (λhh=>absurd (b1.symm.trans hh) dD)];simp only;rw[sB (show eE L _ rU from b1)];simp only[dA,bX,eU];congr 2;omega
   refine Xq λx hx q i hq h1 C=>?_;rcases hx.succ with h0|⟨g1,g2,g3,g4,g5⟩
   ·exact gb h0 q i h1
   obtain⟨k,s,tm,bd,el⟩:=x;have gf:s=nO:=g2;subst gf;have hz:fU (.mk k nO tm bd el)=1+cM bd+cM el:=by rw[fU]
   obtain⟨r1,r2⟩:=dq (L:=L) (e:=e) (n:=n) (k:=k) (tm:=tm) (bd:=bd) (el:=el) (q:=q) (i:=i) g1 g3 g4 g5 g9 oo h1 C;refine⟨r1,λhh=>absurd hh.2 oo,?_⟩;rw[r2,hz,show q-cM bd-cM el=q+1-(1+cM bd+cM el) by omega];rfl
end
def zwB{n:ByteArray}{a:Option Addr}{m c:Nat}:(Instr.build 62 #[(0,.string n),(1,.slice a m c)]).run tp w=.ok (.agg #[.string n,.slice a m c]) w:=by
 obtain⟨v,h1,h2⟩:=fI (P:=tp) (w:=w) (K:=λv=>v=.agg #[.string n,.slice a m c]) (t:=62) (parts:=#[(0,.string n),(1,.slice a m c)]) (cells:=#[.string n,.slice a m c]) kK rfl;subst h2;exact h1 w xx
def zm{X:Nat->Prop}{a:Option Addr}{l:List ByteArray}(h:qO lo hi w (.slice a n cap) l)(hn:n=l.length)(g1:i<l.length)(hX:∀ b,lo<=b->b<hi->¬X b)
   (k:l[i].size<=maxLen->K (.string l[i])):∃p,(∀w':wD,(Instr.indexAt 26 (.slice a n cap) (iV i)).run tp w'=.ok p w')/\lH tp X (Instr.loadAt 9 p) w K:=by
 subst hn;obtain⟨F,cs,⟨a',g0,Fi,xs,rfl,h1,h2,hc,h4⟩,hv⟩:=h.is;simp only[fF,Rep.agg,cond_false,EM,Value.slice.injEq]at hv;obtain⟨rfl,_,rfl⟩:=hv;rcases h4 with⟨rfl,_⟩|⟨b,o,rfl,rfl,hr,hb⟩
 ·simp at g1
 refine⟨pT b (o+i*1),λw'=>by rw[KS cL cG oo oo];simp,?_⟩
 have g2:∀w':wD,Is w' (.slice (some ⟨b,o,none⟩) l.length cap) l->w'.cell? ⟨b,o+i*1,none⟩=some (.string l[i])/\l[i].size<=maxLen:=by
   intro w' hw;obtain⟨F,cs,⟨a',g0,Fi,xs,rfl,h1,h2,hc,h4⟩,hv⟩:=hw;simp only[fF,Rep.agg,cond_false,EM,Value.slice.injEq]at hv;obtain⟨rfl,_,rfl⟩:=hv;rcases h4 with⟨rfl,_⟩|⟨_,_,g3,rfl,hr,hb⟩
   ·simp at g1
   simp only[iU,Addr.mk.injEq,and_true]at g3;obtain⟨rfl,rfl⟩:=g3;have e:l=l.take i++(l[i] :: l.drop (i+1)):=by simp
   rw[e]at hc;obtain⟨_,_,x1,_,rfl,rfl,c1,c2⟩:=aO.split hc;obtain⟨_,_,_,_,rfl,rfl,⟨_,rfl,hs⟩,_⟩:=c2;have g4:x1.length=i:=by rw[aO.len c1,fY,GJ oo];exact yE i
   refine⟨?_,hs⟩;have:=hr i (.string l[i]) (by rw[List.getElem?_append_right oo,g4];simp);simpa using this
 refine⟨.string l[i],λw' g5=>?_,k (g2 w h.is).2⟩;have h0:=(g2 w' (h.2 w' λc h5 h6=>g5.block c (kP h6 h.1) (hX c h5 h6))).1;rw[yE]at h0;have hA:=xY cG w';simp[Instr.loadAt,Instr.sureAddr,loadVar,hA,h0]
def vv(bs:List UInt8)(s:cR):(rF bs 2 s).1.length<=4/\(rF bs 1 (rF bs 2 s).2).1.length<=4/\(xF bs s).1.length<=50/\(zH bs (xF bs s)).1.length<=53:=by
 refine⟨Na 4 0 _,Na 4 0 _,?_,?_⟩
 ·have:=Gc bs s;have:=Dd (xF bs s).1;omega
 have:=P4 bs (Gc bs s);have:=Dd (zH bs (xF bs s)).1;omega
def U0{X:Nat->Prop}{m:Sem vL}{p:vL}(h:∀ w':wD,m.run tp w'=.ok p w')(k:K p):lH tp X m w K:=⟨p,λw' _=>h w',k⟩
def zzF{pr:List ByteArray}(h:1<pr.length):(pr.drop 1).getD 0 nO=pr[1]:=by
 rw[List.getD_eq_getElem?_getD,List.getElem?_drop,List.getElem?_eq_getElem h];rfl
def wj{bs:List UInt8}{pr l:List ByteArray}{s:cR}(hk:k<l.length):wB bs pr (l.drop k) k s =
   (⟨l[k],(GE bs pr k s).1⟩ :: (wB bs pr (l.drop (k+1)) (k+1) (GE bs pr k s).2).1,(wB bs pr (l.drop (k+1)) (k+1) (GE bs pr k s).2).2):=by
 rw[tD hk,wB]
def zwC{bs:List UInt8}{s:cR}(hC:bB W g bs s w) :
   aJ tp 25 [pT g 0] w λr w'=>aN g (g+1) w w'/\bB W g bs (HI bs s).2 w'/\aK w.heap.size w'.heap.size w' r (HI bs s).1:=by
 have hgl:=hC.lt;refine co (g:=⟨extL,[(9,2080374848,[6]),(11,66571993152,[6]),(13,562881233944640,[6])],[(4,18446744073709518944,[5])],[(13,[0,1,2,3,4,5,6,7,8,9,10,11,12,13,14,15],5120)],[],[13],[]⟩) Tryz.func25 ?_;refine rK IU λw1 hz hA=>?_;have hs1:=hz.size;have hg1:=hA.lt;refine zHp λ_ w2 gP o7=>?_;have hs2:=gP.size;refine Hf λ_ w3 gL o8=>?_;have hs3:=gL.size;have o7:=o7.ext gL;obtain⟨a7,g2,rfl⟩:=HZ o7;obtain⟨a8,g3,rfl⟩:=HZ o8;refine fI (cells:=#[.slice a7 glb.length g2,.slice a8 lks.length g3,.slice none 0 0]) kK<|rK IU λ_ gM hB=>?_;have hg4:=hB.lt;have o7:=o7.ext gM;have o8:=o8.ext gM;refine tA (x:=(⟨glb,lks,[]⟩:aY)) (lo:=w1.heap.size) (hi:=w3.heap.size) kT rfl hB rfl (WS (l0:=w1.heap.size) (h0:=w2.heap.size) (l1:=w2.heap.size) (h1:=w3.heap.size) (l2:=w3.heap.size) (h2:=w3.heap.size) o7 o8 pB oo oo oo oo oo oo) λw5 gr hW=>?_;have hs5:=gr.size;have o7:=o7.chg gr oo;have o8:=o8.chg gr oo;have gs:aB w w5:=aB.xI xx gr oo;have gQ:=(hA.ext (gP.t (gL.t gM))).xI gr oo;refine vj λ_ w6 gg gt=>?_;have hs6:=gg.size;refine(LM (hC.ext xx) oo).mono ?_;rintro _ w7 ⟨gh,hX,rfl⟩;have hs7:=gh.size;have o7:=(o7.ext gg).chg gh oo;have o8:=(o8.ext gg).chg gh oo;have gt:=gt.chg gh oo;have hY:=(hW.ext gg).xI gh oo;have gR:=(gQ.ext gg).xI gh oo;have hbx:=EU bs (n:=3) oo s;have hN:=zzl bs s;refine rQ io ?_;obtain⟨g4,C,rfl⟩:=HZ gt;have gS:=gt.isK oo;obtain⟨np,hZ⟩:∃np:Nat,np=2+(mW bs 3 s).toNat:=⟨_,rfl⟩;have gT:np<=nE.length:=by show np<=4;omega
 have gx:FB bs s=nE.take np:=by rw[hZ];rfl
 have g5:(FB bs s).length=np:=by rw[gx,fY];omega
 have hK:=gS.take gT;rw[<-gx]at hK
 have j0:∀w':wD,(Instr.sliceAt 26 (.slice g4 nE.length C) none (some (iV (2+mW bs 3 s))) none).run tp w'=.ok (.slice g4 np C) w':=λw'=>by
   obtain⟨a',gU,j1,j2,gy,q1,q2,_⟩:=xD gt.is;simp only[Value.slice.injEq]at gy;obtain⟨rfl,_,rfl⟩:=gy
   have hb:(Instr.sliceBounds true nE.length C none (some (iV (2+mW bs 3 s))) none).run tp w'=.ok (0,np,C) w':=by
     have h1:2+mW bs 3 s<=(C:Int):=oo;have h2:(0:Int)<=2+mW bs 3 s:=oo;have h3:(2+mW bs 3 s).toNat=np:=oo;simp[Instr.sliceBounds,Instr.sliceBound,asIntOf,h1,h2,h3]
   simp only[Instr.sliceAt,Instr.slice,Sem.run_bind,run_underlying cL,Result.andThen_ok,hb,qX cG];simp;exactλ_=>by cases g4<;>simp[Addr.add_mid,Addr.add]
 refine dY (λw' _=>j0 w') ?_;obtain⟨L,hL⟩:∃L,L=FB bs s:=⟨_,rfl⟩;rw[<-hL]at hK hN g5;have j3:0<(L.drop 1).length:=by rw[wL];omega
 have gV:aN g (g+1) w w7:=((gs.t gg).toI).trans gh
 refine bV L.length (λk us w'=>us=[iV k]/\∃(ps:List aQ)(s1:cR)(vr:vL)(hi:Nat),k<=L.length/\ps.length=k/\wB bs (L.drop 1) L 0 (cU bs 3 s)=(ps++(wB bs (L.drop 1) (L.drop k) k s1).1,(wB bs (L.drop 1) (L.drop k) k s1).2) /\
     bB W g bs s1 w'/\aN g (g+1) w w'/\cA w3.heap.size 29 w' [.slice a7 glb.length g2,.slice a8 lks.length g3,vr]/\aK w1.heap.size w2.heap.size w' (.slice a7 glb.length g2) glb/\aK w2.heap.size w3.heap.size w' (.slice a8 lks.length g3) lks /\
     qO w5.heap.size w6.heap.size w' (.slice g4 np C) L/\bQ w6.heap.size hi 62 w' vr ps/\w6.heap.size<=hi/\hi<=w'.heap.size/\cA w.heap.size 29 w' [.slice none 0 0,.slice none 0 0,.slice none 0 0]) 0 (z0 _)
     ⟨rfl,[],cU bs 3 s,.slice none 0 0,w6.heap.size,z0 _,rfl,ss,hX,gV,hY,o7,o8,hK,uC _ _ _ _,lr _,oo,gR⟩ ?_
 rintro k m u w8 _ ⟨hu,ps,s1,vr,hi,_,j4,gz,hD,gW,hG,o7,o8,gN,r8,_,_,gA⟩;try replace hu:=cJ hu
 rw[hu];have hs8:=gW.size;refine aX cL gN.is<|bM<|br (λ_=>?_) λ_=>?_
 ·have hk:k<L.length:=oo;rw[wj hk]at gz;obtain⟨q1,q2,_,_⟩:=vv bs s1;refine((Mc 2 oo).2 hD rfl).mono ?_;rintro _ w9 ⟨gi,j5,gX⟩;have j6:=gi.size;refine((Mc 1 oo).2 j5 rfl).mono ?_;rintro _ _ ⟨gj,gY,j7⟩;have j8:=gj.size;refine un (α:=aA) fJ fB NQ (gX.chg gj oo) oo j7.own oo oo (by rw[eB];omega) oo λj9 ja gl hH=>?_;have jb:=gl.size;have gB:=gY.chg gl oo oo;have gC:fZ g w8.heap.size w8 ja:=(gi.upG1.trans gj.upG1).trans (gl.upG oo);refine dJ.mk (λus w'=>∃v,us=[v]/\fZ g w8.heap.size w8 w'/\bB W g bs (xF bs s1).2 w'/\aK w8.heap.size w'.heap.size w' v (xF bs s1).1) ?_ ?_
  ·refine(Sn _ hH.is xx oo oo).mM λgO O=>?_;have jc:=O.size;refine bM<|br (λh0=>?_) λh0=>?_
   ·refine cd (lo:=gO.heap.size) (hi:=gO.heap.size) (lr _) io λ_ jd=>?_;refine Cr (α:=aA) (lo:=gO.heap.size) (hi:=gO.heap.size) fJ fB PK dD jd oo λje _ gD jf=>⟨je,rfl,(gC.trans O.upG).trans gD.upG,gB.ext xx,?_⟩;unfold xF;rw[aP h0];exact jf.mono oo oo
   refine⟨j9,rfl,gC.trans O.upG,gB.ext O,?_⟩;unfold xF;rw[aH h0];exact(hH.ext O).own.mono oo oo
  rintro _ _ ⟨v14,hu,gn,gZ,jg⟩;try replace hu:=cJ hu
  rw[hu];have jh:=gn.size;have ji:g<w8.heap.size:=oo;refine dJ.mk (λus w'=>∃v,us=[v]/\fZ g w8.heap.size w8 w'/\bB W g bs (zH bs (xF bs s1)).2 w'/\aK w8.heap.size w'.heap.size w' v (zH bs (xF bs s1)).1) ?_ ?_
  ·refine(Ai gZ oo).mono ?_;rintro _ _ ⟨g9,gE,rfl⟩;have h4:=g9.size;have hI:=jg.chg g9 oo;refine br (λh0=>?_) λh0=>?_
   ·refine(vg gE hI oo oo ji oo).mono ?_;rintro jj _ ⟨h5,h6,jk⟩;refine⟨jj,rfl,(gn.trans g9.upG1).trans h5,?_,?_⟩
    ·unfold zH;rw[aP h0];exact h6
    unfold zH;rw[aP h0];exact jk.own
   refine⟨v14,rfl,gn.trans g9.upG1,?_,?_⟩
   ·unfold zH;rw[aH h0];exact gE
   unfold zH;rw[aH h0];exact hI.mono (lr _) h4
  rintro _ _ ⟨hJ,hu,V,gF,hM⟩;try replace hu:=cJ hu
  rw[hu];have jl:=V.size;have h8:=gN.upG V oo oo;have h9:1<L.length:=oo;refine dJ.mk (λus w'=>∃v,us=[v]/\fZ g w8.heap.size w8 w'/\bB W g bs (DX bs k ((L.drop 1).getD 0 nO) (zH bs (xF bs s1))).2 w'/\aK w8.heap.size w'.heap.size w' v (DX bs k ((L.drop 1).getD 0 nO) (zH bs (xF bs s1))).1) ?_ ?_
  ·refine bI ?_;refine br (λjm=>?_) λjm=>?_
   ·have M:k=0:=oo;refine(Ai gF oo).mono ?_;rintro _ hO ⟨Z,gG,rfl⟩;have ha:=Z.size;have hP:=hM.chg Z oo;have hd:=h8.chgF Z.toC so;refine br (λh0=>?_) λh0=>?_
    ·refine wR (l:=L) (i:=1) cL cG hd.is oo (by show 1<L.length;omega) λ_ _ he=>?_;refine eV cG he xx λhf=>MG (lo:=hO.heap.size) (hi:=hO.heap.size) (lr _) io hf λ_ jn=>CU (β:=aA) fJ fB PK dD (da jn) λ_ _ gb jo=>?_;have jp:=gb.size;refine Ph (α:=aA) (lo0:=w8.heap.size) fJ fB NQ jo oo (hP.ext gb) oo oo oo (by rw[eB];simp;omega) so λjq _ gH jr=>⟨jq,rfl,((V.trans Z.upG1).trans gb.upG).trans (gH.upG oo),?_,?_⟩
     ·unfold DX;rw[aP M,aP h0];exact(gG.ext gb).chg gH oo oo
     unfold DX;rw[aP M,aP h0,zzF h9];exact jr.own
    refine⟨hJ,rfl,V.trans Z.upG1,?_,?_⟩
    ·unfold DX;rw[aP M,aH h0];exact gG
    unfold DX;rw[aP M,aH h0];exact hP.mono (lr _) ha
   have M:¬k=0:=oo;refine⟨hJ,rfl,V,?_,?_⟩
   ·unfold DX;rw[aH M];exact gF
   unfold DX;rw[aH M];exact hM
  rintro _ hQ ⟨js,hu,gI,hg,jt⟩;try replace hu:=cJ hu
  rw[hu];have ju:=gI.size;have gc:=cO hQ;have jv:=gc.size;generalize World.drew1 hQ=w22 at *;have g0:fZ g w8.heap.size w8 w22:=gI.trans gc.upG;have gJ:=hG.upG g0 oo oo;have gp:=gN.upG g0 oo oo;have gX:=r8.upG g0 oo oo;have jw:=jt.ext gc;have hh:=hg.ext gc;refine XR.mk (λc=>c=g\/w8.heap.size<=c) ?_;have jx:∀b,w5.heap.size<=b->b<w6.heap.size->¬(b=g\/w8.heap.size<=b):=λb h1 h2=>oo;refine sU qW<|zW qY (u:=vr) (λj v hj=>?_) oo ?_
  ·have:=gJ.range 2 vr rfl
   match j,hj with
   |0,hj=>simp at hj;subst hj;simpa using this
   |j+1,hj=>simp at hj
  obtain⟨_,hl,hn⟩:=zm (X:=λc=>c=g\/w8.heap.size<=c) (K:=λv=>L[k].size<=maxLen/\v=.string L[k]) gp g5.symm hk jx λh=>⟨h,rfl⟩;refine U0 hl ?_;obtain⟨_,hq,hr,rfl⟩:=hn;refine lH.mk _ hq ?_
  have jy:∀w':wD,(Instr.sliceAt 26 (.slice g4 np C) (some (iV 1)) none none).run tp w'=.ok (.slice (if C=1 then g4 else g4.map (·.add (1*Rep.size ByteArray))) (np-1) (C-1)) w':=λw'=>by
    obtain⟨a',gU,j1,j2,gy,_,_,_⟩:=xD gp.is;simp only[Value.slice.injEq]at gy;obtain⟨rfl,_,rfl⟩:=gy
    have hb:(Instr.sliceBounds true np C (some (iV 1)) none none).run tp w'=.ok (1,np,C) w':=by
      have h1:(1:Int)<=(np:Int):=oo;simp[Instr.sliceBounds,Instr.sliceBound,asIntOf,h1]
    simp[Instr.sliceAt,Instr.slice,run_underlying cL,hb,qX cG];rfl
  refine U0 jy ?_
  have jz:qO w5.heap.size w6.heap.size w22 (.slice (if C=1 then g4 else g4.map (·.add (1*Rep.size ByteArray))) (np-1) (C-1)) (L.drop 1):=by
    have:=qO.drop (l:=L) (k:=1) (by rw[g5];exact gp) oo;rwa[g5]at this
  obtain⟨_,hR,hF⟩:=jw;refine(yp _ hh hR (λh=>by have:=hF g h;omega) (λc hc=>by have:=hF c hc;omega) jz oo (λc hc=>by have:=hF c hc;omega) j3 (by rw[wL];omega)).mono ?_;rintro _ hs ⟨jA,gq,ht,F',hv,hS⟩;rw[jA];have jB:=gq.size;refine⟨gq.toX λc hc=>?_,?_⟩
  ·rcases bF.1 hc with rfl|hc
   ·exact .inl rfl
   exact .inr (hF c hc).1
  have gd:fZ g w8.heap.size w22 hs:=gq.upG λc hc=>(hF c hc).1;have hT:aK w8.heap.size w22.heap.size hs js (GE bs (L.drop 1) k s1).1:=⟨F',hv,λc hc=>⟨(hF c (hS c hc)).1,hR.lt c (hS c hc)⟩⟩;obtain⟨_,_,rfl⟩:=HZ hT;refine vh (λw'=>zwB) ?_;have jC:=WH hr hT;have hw:=gJ.upG gd oo oo;have jD:=gX.upG gd oo oo;refine Jp (α:=aQ) pW pO H0 Qj dD jD oo jC oo oo (by rw[eB];omega) oo (λjE hU g1 gK=>?_) λ_ w' jF h'=>⟨jF.toX,h'⟩;have jG:=g1.size;refine sU qW ?_;have hx:=hw.xI g1 oo;refine qL (α:=List aQ) qY rfl rfl hx ss gK.own λ_ D hy=>?_;have jH:=D.size;refine aU ?_;have gf:fZ g w6.heap.size w8 hU:=((g0.trans gd).mono oo).trans (g1.upG oo);refine⟨m-1,oo,k+1,oo,rfl,ps++[⟨L[k],(GE bs (L.drop 1) k s1).1⟩],(GE bs (L.drop 1) k s1).2,jE,hU.heap.size,oo,by simp[j4],by rw[gz];simp,?_,?_,hy,?_,?_,?_,gK.chg D oo,oo,oo,?_⟩
  ·exact(ht.chg g1 oo oo).chg D oo oo
  ·have h1:aN g (g+1) w hs:=gW.trans ((g0.trans gd).toI (lr _));exact aN.out (aN.out h1 g1 oo) D oo
  ·exact(o7.upG gf oo oo).chg D oo
  ·exact(o8.upG gf oo oo).chg D oo
  ·exact(gN.upG gf (lr _) oo).chgF D.toC so
  exact(gA.upG gf oo oo).xI D oo
 have hk:k=L.length:=oo;subst hk;rw[BA,wB]at gz;simp only[oJ]at gz
 have jI:HI bs s=(⟨glb,lks,ps⟩,s1):=by
   unfold HI;rw[<-hL,gz]
 rw[jI];refine SD hG kT ?_
 have hV:aK w1.heap.size w8.heap.size w8 (.agg #[.slice a7 glb.length g2,.slice a8 lks.length g3,vr]) (⟨glb,lks,ps⟩:aY):=
   WS (l0:=w1.heap.size) (h0:=w2.heap.size) (l1:=w2.heap.size) (h1:=w3.heap.size) (l2:=w6.heap.size) (h2:=hi) o7 o8 r8.own oo oo oo oo oo oo
 refine tA kT rfl gA rfl hV λw9 gi jJ=>?_;have j6:=gi.size;refine AX jJ kT<|⟨aN.out gW gi (lr _),hD.chg gi oo oo,(hV.chg gi oo).mono oo oo⟩
def Dv(s:ByteArray):lU:=if (lD s).2.code=0 then .ok (0,60)else .error (lD s).2
def vH(s:ByteArray):Except bY aY:=if (lD s).2.code=0 then(match xR (lD s).1 s.size with|.error f=>.error f|.ok (p,_)=>.ok p)else .error (lD s).2
def yQ(L:List aT)(e:Int)(i:Nat):Rd aQ:=(rP L e zG i).go λ_ j=>(uZ L e j).go λs j=>(tS L e (qV L e 6) 60 j).go λb j=>.ok (⟨s,b.1⟩,j)
theorem zwD{L:List aT}{e:Int}(d i:Nat):rX L e (d+1) i=if L.length<=i then .ok ([],i)else(yQ L e i).go λx j=>(rX L e d j).go λl j=>.ok (x :: l,j):=by
 rw[rX];split
 ·rfl
 unfold yQ;cases rP L e zG i with
 |error f=>rfl
 | ok p1=>
   obtain⟨_,j1⟩:=p1;simp only[Rd.go];cases uZ L e j1 with
   |error f=>rfl
   | ok p2=>
     obtain⟨_,j2⟩:=p2;simp only[Rd.go];cases tS L e (qV L e 6) 60 j2 with
     |error f=>rfl
     |ok p3=>obtain⟨_,_⟩:=p3;rfl
def So:kO tp 62=some [.string nO,.slice none 0 0]:=by kernel_rfl
def KZ(s:ByteArray)(p:aY)(f:bY):Prop:=match vH s with|.error f'=>f=f'/\f.code≠0|.ok p'=>f=⟨0,0⟩/\p=p'
def tP:Bool->List ByteArray->List UInt8
 |_,[]=>[]
 |f,s :: l=>(if f=true then[44]else[])++(32 :: (aW s++tP true l))
def BF:Bool->List ByteArray->lX
 |_,[]=>[]
 |f,s :: l=>(if f=true then[(3,GP)]else[])++((1,s) :: BF true l)
def vN(w:ByteArray)(l:List ByteArray):List UInt8:=aW w++(tP false l++[59,10])
def OY(w:ByteArray)(l:List ByteArray):lX:=(1,w) :: (BF false l++[(3,kX)])
def AH(p:aQ):List UInt8:=aW zG++(32 :: (aW p.name++(32 :: 123 :: 10 :: (p.body.flatMap (lM 6 1)++[125,10]))))
def GI(p:aQ):lX:=(1,zG) :: (1,p.name) :: oI (kC 6) p.body
def zR(p:aY):List UInt8:=vN DZ p.B++(vN lE p.L++p.P.flatMap AH)
def SL(p:aY):lX:=OY DZ p.B++(OY lE p.L++p.P.flatMap GI)
theorem Xs:∀(l:List ByteArray)(f:Bool),(∀x∈l,cK x=true)->∀{r:List UInt8}{ts:lX},IX r->bJ r ts->bJ (tP f l++r) (BF f l++ts)/\IX (tP true l++r)
 |[],f,_,r,ts,hst,h=>⟨h,hst⟩
 | s :: l,f,hl,r,ts,hst,h=>by
   obtain⟨h1,h2⟩:=Xs l true (λx hx=>hl x (by simp[hx])) hst h;have hs:=bJ.blank (b:=32) (.inl rfl) (bJ.word (KN (hl s ss)) h2 h1);refine⟨?_,vT (b:=44) dD⟩;cases f with
   | false=>
     show bJ ((32 :: (aW s++tP true l))++r) (((1,s) :: BF true l)++ts);simp only[sZ,fR];exact hs
   | true=>
     show bJ ((44 :: (32 :: (aW s++tP true l)))++r) (((3,GP) :: (1,s) :: BF true l)++ts);simp only[sZ,fR];exact bJ.mark (b:=44) dD (.inl dD) hs
theorem V8{w:ByteArray}(hw:tB w=true){l:List ByteArray}(hl:∀ x∈l,cK x=true){r:List UInt8}{ts:lX}(h:bJ r ts):bJ (vN w l++r) (OY w l++ts):=by
 unfold vN OY;simp only[sZ,fR,sL];obtain⟨h1,_⟩:=Xs l false hl (r:=59 :: 10 :: r) (vT dD) (Ah (bJ.blank (.inr rfl) h));refine bJ.word hw ?_ h1;cases l with
 |nil=>exact vT (b:=59) dD
 |cons s l=>exact vT (b:=32) dD
def zCf{p:aY}(hp:vD p):bJ (zR p) (SL p):=by
 unfold zR SL;refine V8 dD hp.g.2 (V8 dD hp.l.2 ?_);have h:=Di (f:=AH) (g:=GI) (l:=p.P) (r:=[]) (ts:=[]) (λx hx r ts h=>?_) bJ.nil
 ·simpa using h
 unfold AH GI oI;simp only[sZ,fR,sL];exact bJ.word dD (vT dD) (bJ.blank (.inl rfl) (bJ.word (KN (hp.n.2 x.name (XP hx))) (vT dD) (bJ.blank (.inl rfl) (N9 (bJ.blank (.inr rfl) (Di (λy hy r ts h=>ye 6 y ((hp.b x hx).1 y hy) 1 r ts h) (E6 (bJ.blank (.inr rfl) h))))))))
section
variable {L:List aT}{e:Int}
theorem ae:∀(l:List ByteArray)(s:ByteArray)(d i:Nat),l.length<d->(∀x∈s :: l,cK x=true)->Hd L i ((1,s) :: (BF true l++[(3,kX)]))->wK L e d i=.ok (s :: l,i+((1,s) :: (BF true l++[((3:Int),kX)])).length)
 |l,s,0,i,h,_,_=>oo
 | [],s,d+1,i,h,hl,hd=>by
   obtain⟨a1,a2,a3,hd⟩:=hd.cons;obtain⟨b1,b2,b3,-⟩:=(show Hd L (i+1) [(3,kX)]from hd).cons;rw[wK];unfold uZ;rw[aP (by rw[a1];exact hl s ss),a1];simp only[Rd.go];rw[aH (λhh:eE L (i+1) GP=>absurd (b1.symm.trans hh) dD),sB (show eE L _ kX from b1)];rfl
 | y :: l,s,d+1,i,h,hl,hd=>by
   obtain⟨a1,a2,a3,hd⟩:=hd.cons;have hd:Hd L (i+1) ((3,GP) :: (1,y) :: (BF true l++[(3,kX)])):=hd;obtain⟨b1,b2,b3,hd⟩:=hd.cons;rw[wK];unfold uZ;rw[aP (by rw[a1];exact hl s ss),a1];simp only[Rd.go];rw[aP (show eE L (i+1) GP from b1),ae l y d (i+1+1) (by simp only[dA]at h;omega) (λx hx=>hl x (by simp[bF.1 hx])) hd];simp only;congr 2;show i+1+1+((1,y) :: (BF true l++[((3:Int),kX)])).length=i+((1,s) :: (3,GP) :: (1,y) :: (BF true l++[((3:Int),kX)])).length;simp only[dA];omega
theorem E1{w:ByteArray}{l:List ByteArray}{i:Nat}(h6:l.length<=6)(hl:∀ x∈l,cK x=true)(hd:Hd L i (OY w l)):BV L e w i=.ok (l,i+(OY w l).length):=by
 unfold OY at hd ⊢;obtain⟨a1,_,_,hd⟩:=hd.cons;unfold BV;rw[sB (show eE L i w from a1)];simp only[Rd.go];cases l with
 | nil=>
   obtain⟨b1,_,_,-⟩:=(show Hd L (i+1) [(3,kX)]from hd).cons;rw[aP (show eE L (i+1) kX from b1)];rfl
 | cons s l=>
   have hd:Hd L (i+1) ((1,s) :: (BF true l++[(3,kX)])):=hd;have hs:=hl s ss;rw[aH (λhh:eE L (i+1) kX=>by rw[<-hd.cons.1,show cV L (i+1)=kX from hh]at hs;exact absurd hs dD),ae l s 6 (i+1) (by simp only[dA]at h6;omega) hl hd];congr 2;show i+1+((1,s) :: (BF true l++[((3:Int),kX)])).length=i+((1,w) :: (1,s) :: (BF true l++[((3:Int),kX)])).length;simp only[dA];omega
theorem D6:∀(l:List aQ)(d i:Nat),l.length<=d->(∀x∈l,cK x.name=true/\(∀y∈x.body,SH 6 y)/\cM x.body<=60)->Hd L i (l.flatMap GI)->L.length=i+(l.flatMap GI).length->rX L e d i=.ok (l,i+(l.flatMap GI).length)
 | [],d,i,_,_,_,he=>by
   have he:L.length=i:=he;cases d with
   |zero=>rw[rX,aP oo];rfl
   |succ d=>rw[rX,aP oo];rfl
 |x :: l,0,i,h,_,_,_=>by simp at h
 | x :: l,d+1,i,h,hl,hd,he=>by
   rw[vE]at hd he ⊢;rw[bX]at he ⊢;obtain⟨hx,hd⟩:=hd.app;obtain⟨hn,hb,hz⟩:=hl x ss;unfold GI at hx;obtain⟨a1,_,_,hx⟩:=hx.cons;obtain⟨b1,_,_,hx⟩:=hx.cons;have:=hx;unfold oI at hx;obtain⟨c1,_,_,hx⟩:=hx.cons;obtain⟨hB,hE⟩:=hx.app;obtain⟨d1,_,_,-⟩:=hE.cons;rw[rX,aH oo,sB (show eE L i zG from a1)];simp only[Rd.go];unfold uZ;rw[aP (by rw[b1];exact hn),b1];simp only;unfold tS;rw[sB (show eE L _ AD from c1)];simp only[Rd.go];rw[sp 6 x.body hb 60 _ hz hB (by rw[d1];decide) (λhh=>absurd (d1.symm.trans hh) dD)];simp only;rw[sB (show eE L _ rU from d1)];simp only
   have:(GI x).length=2+(1+((x.body.flatMap (kC 6)).length+1)):=by
     unfold GI oI;simp only[dA,bX,eU];omega
   have g0:i+1+1+1+(x.body.flatMap (kC 6)).length+1=i+(GI x).length:=oo;rw[g0,D6 l d _ (by simp only[dA]at h;omega) (λy hy=>hl y (by simp[hy])) hd oo];simp only[DU]
end
def eu{p:aY}(hp:vD p){s:ByteArray}(hs:aW s=zR p)(h6:s.size<=6000):vH s=.ok p:=by
 obtain⟨L,hL,hk⟩:=zCf hp s (s.size+1) 0 [] (by rw[List.drop_zero];exact hs) oo oo;rw[sL]at hL;have g1:lD s=(L,⟨0,0⟩):=by unfold lD;rw[aH oo];exact hL
 have hH:Hd L 0 (SL p):=⟨[],by rw[List.drop_zero,hk,oJ]⟩;have g0:L.length=(SL p).length:=by rw[<-hk,kL]
 unfold vH;rw[g1,aP rfl]
 have hP:xR L s.size=.ok (p,(SL p).length):=by
   unfold SL at hH g0 ⊢;obtain⟨h1,hH⟩:=hH.app;obtain⟨h2,h3⟩:=hH.app;unfold xR;rw[E1 hp.g.1 hp.g.2 h1];simp only[Rd.go];rw[E1 hp.l.1 hp.l.2 h2];simp only;rw[D6 p.P 8 _ hp.n.1 (λx hx=>⟨hp.n.2 x.name (XP hx),hp.b x hx⟩) h3 (by rw[g0];simp only[bX];omega)];simp only[bX];congr 2;omega
 rw[hP]
def aM.f(h:aM c):lK c:=h.2.1.f h.1.p8.2
def va (h0:Is W0 v0 c)(e0:aB W0 w)  :
   aJ tp 211 [v0,iV a] w λr w'=>aB w w'/\(r=.bool (decide (0<=a/\a<c.I.length))):=by
 refine co (g:=kf [] [] []) Tryz.func211 ?_;refine lA cP rfl h0 e0 λg0 y1 g1 _=>pD<|br (λc1=>?_) λc1=>?_
 ·refine aE eW ?_;refine aL eJ (fV g1) xx λ_ g2=>aX eQ g2<|bM<|⟨y1,?_⟩;simp[c1]
 refine⟨y1,?_⟩;simp[c1]
def J1 (h0:Is W0 v0 c)(e0:aB W0 w)(hc:aM c)(ha:0<=a)(ha2:a<c.I.length) :
   aJ tp 213 [v0,iV a] w λr w'=>aB w w'/\(r=iV (eC c a)):=by
 refine co (g:=kf [] [(2,16777184,[5])] []) Tryz.func213 ?_;have hf:=hc.f;have:=hc.1.p8;have:=hf.len;refine lA cP rfl h0 e0 λg1 y1 g2 _=>bV (c.E.length-1) (λk us w'=>us=[iV k]/\aB g1 w'/\(en c k<=a)) (0) oo ⟨ss,xx,by rw[hf.zero];exact ha⟩ ?_;rintro k m2 _ _ _ ⟨hu,y2,g0⟩;try replace hu:=cJ hu
 try rw[hu]
 try clear hu
 refine aU<|aE kJ<|aL dT (lJ g2) y2 λ_ h9=>aX bG h9<|bM<|br (λc1=>?_) λc1=>?_
 ·refine aE kJ ?_;refine aL dT (lJ g2) y2 λ_ g3=>aU<|bC bG aG g3 oo λ_ _ g4=>aS aG g4 y2 λ_=>tR<|br (λc2=>?_) λc2=>?_
  ·refine aU ?_;refine⟨m2-1,oo,k+1,oo,ss,y2,?_⟩;rwa[mP]at c2
  refine⟨xx,?_⟩;rw[mP]at c2;rw[hf.proc (i:=k) oo g0 (by rw[hf.step oo];omega)]
 refine⟨xx,?_⟩;rw[hf.proc (i:=k) oo g0 (by rw[hf.last oo];omega)]
def Qt{α:Type}{P:α->Prop}{l:List α}(hk:k<l.length)(h:∀ x∈l.take k,P x)(hp:P l[k]):∀x∈l.take (k+1),P x:=by
 intro x hx;rw[tk hk]at hx;rcases dF.1 hx with hx|hx
 ·exact h x hx
 simp only[bF,dL,dI]at hx;subst hx;exact hp
def Qc{α:Type}{P:α->Prop}{l:List α}(hk:l.length<=k)(h:∀ x∈l.take k,P x):∀x∈l,P x:=by
 rwa[iO hk]at h
def Ey(h:cK s=true):s.size<=12:=by
 rcases kR 12 s.size with h'|h'
 ·simp[cK,Mn h']at h
 exact h'
def cF.lock_size(h:cF c){i:Nat}(hi:i<c.L.length):c.L[i].size<=12:=by
 have h1:=h.2.1;simp only[iA,nG]at h1;exact Ey (h1.2 _ (cY hi))
def cF.global_size(h:cF c){i:Nat}(hi:i<c.B.length):c.B[i].size<=12:=by
 have h1:=h.1;simp only[iA,nG]at h1;exact Ey (h1.2 _ (cY hi))
def AF{α:Type}{l:List α}{d:α}(h:i<l.length):l.getD i d=l[i]:=by rw[List.getD_eq_getElem?_getD,List.getElem?_eq_getElem h];rfl
def zHA:ByteArray:=ByteArray.mk #[114,111,117,110,100]
def pA:ByteArray:=ByteArray.mk #[32]
def zT:ByteArray:=ByteArray.mk #[10]
def uB(c:aF)(part:List Int):Nat->ByteArray
 |0=>zHA
 |k+1=>uB c part k++(pA++c.L.getD (part.getD k 0).toNat ByteArray.empty)
def vG(c:aF)(part:List Int):Prop:=aM c/\part≠[]/\part.length<=6/\∀i∈part,0<=i/\i<c.L.length
instance(c:aF)(part:List Int):Decidable (vG c part):=by unfold vG;infer_instance
def oG(c:aF)(part:List Int):ByteArray:=if vG c part then uB c part part.length++zT else ByteArray.mk #[]
def YR:(ByteArray.mk #[32]).size=1:=rfl
def C7:(ByteArray.mk #[10]).size=1:=rfl
def Px{C:(List Int)} (h0:Is W0 v0 c)(e0:aB W0 w)(h1:Is W1 v1 C)(e1:aB W1 w)  :
   aJ tp 17 [v0,v1] w λr w'=>aB w w'/\(r=.string (oG c C)):=by
 refine co (g:=kf [] [(5,35184363700400,[5,23])] []) Tryz.func17 ?_;refine lA cP rfl h0 e0 λgg y1 g3 gh=>?_;have gi:=fD h1;refine aX bG h1<|bI<|br (λc1=>?_) λc1=>?_
 ·refine⟨y1,?_⟩;have:¬vG c C:=λh=>h.2.1 (qC oo);rw[oG,aH this]
 have g4:=fD h1;refine aX bG h1<|oN<|br (λc2=>?_) λc2=>?_
 ·refine⟨y1,?_⟩;have:¬vG c C:=λh=>by have:=h.2.2.1;omega
  rw[oG,aH this]
 refine pX gh xx<|(Ij h0 xx).mM λg5 y2=>mL<|br (λc3=>?_) λc3=>?_
 ·refine⟨xx,?_⟩;have:¬vG c C:=λh=>c3 h.1;rw[oG,aH this]
 have g9:=fD h1;refine aX bG h1<|bV (C.length) (λk us w'=>us=[.string (uB c C k),iV k]/\aB g5 w'/\((uB c C k).size<=5+13*k/\∀i∈C.take k,0<=i/\i<c.L.length)) (0) oo ⟨rfl,xx,by rw[uB];decide,ss⟩ ?_;rintro k m5 _ _ _ ⟨hu,y3,_,g0⟩;obtain⟨gb,gc⟩:=dQ hu;try rw[gb]
 try rw[gc]
 try clear gb gc
 refine bM<|br (λc4=>?_) λc4=>?_
 ·refine bC bG aG h1 oo λ_ _ gj=>?_;refine aS aG gj (e1.trans xx) λg2=>?_;have g1:C[k]'(by omega)=C.getD k 0:=by rw[List.getD_eq_getElem?_getD,List.getElem?_eq_getElem oo];rfl
  rw[g1]at g2 ⊢;refine bM<|br (λc5=>?_) λc5=>?_
  ·refine⟨xx,?_⟩;have:¬vG c C:=λh=>by have:=h.2.2.2 _ (cY (n:=k) oo);rw[g1]at this;omega
   rw[oG,aH this]
  refine aE uP<|aL dC (vX g3) xx λ_ gd=>?_;have gf:=fD gd;refine aX cL gd<|pD<|br (λc6=>?_) λc6=>?_
  ·refine⟨xx,?_⟩;have:¬vG c C:=λh=>by have:=h.2.2.2 _ (cY (n:=k) oo);rw[g1]at this;omega
   rw[oG,aH this]
  refine aE uP<|aL dC (vX g3) xx λ_ gl=>wR cL cG gl oo oo λ_ _ gn=>eV cG gn xx λ_=>?_;have gp:=(eK.1 c3).1.lock_size (i:=(C.getD k 0).toNat) oo;have gq:c.L[(C.getD k 0).toNat]'(by omega)=c.L.getD (C.getD k 0).toNat ByteArray.empty:=(AF oo).symm;rw[gq]at gp ⊢;refine mK (by rw[YR];omega)<|mK (by rw[lF,YR];omega)<|aU<|⟨m5-1,oo,k+1,oo,by rw[uB];rfl,y3,?_⟩;refine⟨by rw[uB,lF,lF];have:pA.size=1:=rfl;omega,?_⟩;exact Qt oo g0 (by rw[g1];omega)
 refine mK (by rw[C7];omega)<|⟨xx,?_⟩;have:vG c C:=⟨eK.1 c3,λe=>c1 (by rw[e];rfl),oo,Qc oo g0⟩;rw[oG,aP this,show k=C.length by omega];rfl
def zlw{C:(List Int)} (h0:Is W0 v0 c)(e0:aB W0 w)(h1:Is W1 v1 C)(e1:aB W1 w)  :
   aJ tp 43 [v0,v1] w λr w'=>aB w w'/\(r=.string (oG c C)):=by
 refine co (g:=kf [] [(5,140737487306864,[5,6])] [(7,[0,1,2,3,4,5,6,7,8,9],0),(9,[0,1,2,3,4,5,6,7,8,9,10,11],0)]) Tryz.func43 ?_;have g5:=fD h1;refine lA cP rfl h0 e0 λgi y1 g9 gj=>pX gj xx<|(XW h0 xx).mM λgb y2=>mL<|br (λc1=>?_) λc1=>?_
 ·refine⟨xx,?_⟩;have:¬vG c C:=λh=>c1 h.1;rw[oG,aH this]
 have gc:=fD h1;refine aX bG h1<|bI<|br (λc2=>?_) λc2=>?_
 ·refine⟨xx,?_⟩;have:¬vG c C:=λh=>h.2.1 (qC oo);rw[oG,aH this]
 have gd:=fD h1;refine aX bG h1<|oN<|br (λc3=>?_) λc3=>?_
 ·refine⟨xx,?_⟩;have:¬vG c C:=λh=>by have:=h.2.2.1;omega
  rw[oG,aH this]
 refine bV (C.length) (λk us w'=>us=[.string (uB c C k),iV k]/\aB gb w'/\((uB c C k).size<=5+13*k/\∀i∈C.take k,0<=i/\i<c.L.length)) (0) oo ⟨rfl,xx,by rw[uB];decide,ss⟩ ?_;rintro k m5 _ gl _ ⟨hu,y3,_,g0⟩;obtain⟨gf,gg⟩:=dQ hu;try rw[gf]
 try rw[gg]
 try clear gf gg
 refine aX bG h1<|bM<|br (λc4=>?_) λc4=>?_
 ·have y4:=cO gl;refine bC bG aG h1 oo λ_ _ gn=>aS aG gn (e1.trans xx) λg2=>?_;have g1:C[k]'(by omega)=C.getD k 0:=(AF oo).symm;rw[g1]at g2 ⊢;refine aE uP<|aL dC (vX g9) xx λ_ g3=>?_;have gh:=fD g3;refine aX cL g3<|kQ (by unfold bR;have:=fD g3;omega) ?_;refine(eS ).mM λgp y5=>mL<|br (λc5=>?_) λc5=>?_
  ·refine⟨xx,?_⟩;have:¬vG c C:=λh=>by have:=h.2.2.2 _ (cY (n:=k) oo);rw[g1]at this;omega
   rw[oG,aH this]
  have y6:=cO gp;refine mK (by rw[YR];omega)<|aE uP<|aL dC (vX g9) xx λ_ gq=>bC bG aG h1 oo λ_ _ gr=>aS aG gr (e1.trans xx) λg4=>?_;rw[g1]at g4 ⊢;refine wR cL cG gq oo oo λ_ _ gs=>eV cG gs xx λ_=>?_;have gt:=(eK.1 c1).1.lock_size (i:=(C.getD k 0).toNat) oo;have gx:c.L[(C.getD k 0).toNat]'(by omega)=c.L.getD (C.getD k 0).toNat ByteArray.empty:=(AF oo).symm;rw[gx]at gt ⊢;refine mK (by rw[lF,YR];omega)<|aU<|⟨m5-1,oo,k+1,oo,by rw[uB,<-ByteArray.append_assoc];rfl,xx,?_⟩;refine⟨by rw[uB,lF,lF];have:pA.size=1:=rfl;omega,?_⟩;exact Qt oo g0 (by rw[g1];omega)
 refine mK (by rw[C7];omega)<|⟨xx,?_⟩;have:vG c C:=⟨eK.1 c1,λe=>c2 (by rw[e];rfl),oo,Qc oo g0⟩;rw[oG,aP this,show k=C.length by omega];rfl
def ES:(tp.info? 5).map (λi=>i.zero)=some (some (.int .u8 0)):=by kernel_rfl
def uH:cT tp 5=some (1,1,false):=by kernel_rfl
def mX(w:wD)(o:Option Nat)(l m:List UInt8)(r:vL)(w':wD):Prop:=∃o',kU 5 l.length o (l++m) w w'/\iL 5 w' o' r (l++m)/\(o'=o\/∃b,o'=some b/\w.heap.size<=b)
def Km(n:Nat):Prop:=∀{w W:wD}{o:Option Nat}{v u:vL}{l:List UInt8}{t:aD},iL 5 w o v l->Is W u t->aB W w->(∀b,o=some b->W.heap.size<=b)->fK n t=true->l.length+(fN n t).length<=10000000 ->
 aJ tp 104 [v,u] w (mX w o l (fN n t))
def A9{o:Option Nat}{l:List UInt8}(h:iL 5 w o v l)(hl:l.length+b<=10000000):aJ tp 103 [v,iV b] w (mX w o l (List.replicate b 32)):=by
 refine co (g:=kf [] [(2,16353,[0,5])] []) Tryz.func103 ?_
 refine bV b (λk us w'=>∃x o',us=[x,iV k]/\kU 5 l.length o (l++List.replicate k 32) w w'/\iL 5 w' o' x (l++List.replicate k 32)/\(o'=o\/∃b,o'=some b/\w.heap.size<=b)) 0 (z0 _)
   ⟨v,o,rfl,(aC w).app,by simpa using h,.inl rfl⟩ ?_
 rintro k m _ _ _ ⟨x,o1,hu,ha,hr,ho⟩;obtain⟨g2,g3⟩:=dQ hu;rw[g2,g3];refine bM<|br (λ_=>?_) λ_=>?_
 ·refine LX (n:=1) (vs:=kV [32]) mA uH (zs:=[.int .u8 0]) kK rfl oo oo kK λ_ g0 g4=>?_;refine KL (m:=[32]) mA uH ES (hr.ext g0) g4 dD so λv3 _ o3 g5 g9 gb=>aU ?_;have hs1:=ha.size;have hs2:=g0.size;refine⟨m-1,oo,k+1,oo,v3,o3,rfl,by rw[Ek,<-fR];exact(ha.trans g0.app (lr _) (GZ _) (.inl rfl)).trans g5 ss (Dq _ _) (ho.imp id λ⟨b,h1,h2⟩ _ g1=>by rw[h1]at g1;cases g1;exact h2),by rw[Ek,<-fR];exact g9,?_⟩;rcases gb with rfl|⟨b3,rfl,_⟩
  ·exact ho
  exact .inr ⟨b3,rfl,oo⟩
 have:k=b:=oo;subst this;exact⟨o1,ha,hr,ho⟩
def mX.of{o:Option Nat}{l m:List UInt8}{r:vL}(hx:aB w wa)(h:mX wa o l m r w'):mX w o l m r w':=by
 obtain⟨o',h1,h2,h3⟩:=h;have:=hx.size;exact⟨o',hx.app.trans h1 (lr _) (GZ _) (.inl rfl),h2,h3.imp id λ⟨b,h4,_⟩=>⟨b,h4,oo⟩⟩
def mX.then{o oa:Option Nat}{l m k:List UInt8}{r:vL}(ha:kU 5 l.length o (l++m) w wa)(ho:oa=o\/∃ b,oa=some b/\w.heap.size<=b)(h:mX wa oa (l++m) k r w'):mX w o l (m++k) r w':=by
 obtain⟨o',h1,h2,h3⟩:=h;have:=ha.size;refine⟨o',by rw[<-fR];exact ha.trans h1 ss (Dq _ _) (ho.imp id λ⟨b,h4,h5⟩ _ g0=>by rw[h4]at g0;cases g0;exact h5),by rw[<-fR];exact h2,?_⟩;rcases h3 with rfl|⟨b,rfl,h5⟩
 ·exact ho
 exact .inr ⟨b,rfl,oo⟩
def TA{t u ty:TypeId}{o:Option Nat}{l:List UInt8}{K:VW}(ht:tp.underlying t=some (.slice 5))(hu:tp.underlying u=some .string)(h:iL 5 w o v l)(hb:l.length+s.size<=10000000)
   (k:∀v' w' o',kU 5 l.length o (l++aW s) w w'->iL 5 w' o' v' (l++aW s)->(o'=o\/∃b,o'=some b/\w.heap.size<=b)->K v' w'):OP tp (Builtin.append_ #[t,u] ty [v,.string s].toArray) w K:=
 Jo ht hu uH ES h hb k
def kU.extW{o:Option Nat}{L:List UInt8}(hx:aB W w)(h:kU U n o L w w')(ho:∀ b,o=some b->W.heap.size<=b):aB W w':=
 ⟨h.os.trans hx.os,h.tape.trans hx.tape,h.output.trans hx.output,eH hx.size h.size,λb hb=>by
   rcases h.blk b (kP hb hx.size)with k|⟨k,_⟩
   ·exact k.trans (hx.heap hb)
   have:=ho b k;omega⟩
def kU.blkE{o:Option Nat}{L:List UInt8}(hB:cA g e w cs)(h:kU U n o L w w')(ho:o≠some g):cA g e w' cs:=
 hB.keep ((h.blk g hB.lt).resolve_right λ⟨k,_⟩=>ho k)
def kU.toX{o:Option Nat}{L:List UInt8}(h:kU U n o L w w'):eR (λc=>o=some c) w w':=
 ⟨h.os,h.tape,h.output,h.size,λb hb hn=>(h.blk b hb).resolve_right λ⟨k,_⟩=>hn k⟩
structure mD(W w:wD)(g:Nat)(cs:List vL)(o:Option Nat)(l acc:List UInt8)(v:vL)(w':wD)(o':Option Nat):Prop where
 ap:kU 5 l.length o (l++acc) w w'
 by_:iL 5 w' o' v (l++acc)
 fr:o'=o\/∃b,o'=some b/\w.heap.size<=b
 ew:aB W w'
 bx:cA g 67 w' cs
 lo:(∀b,o=some b->W.heap.size<=b/\b≠g)/\W.heap.size<=w.heap.size/\g<w.heap.size
section
variable {W w w' w2:wD}{g:Nat}{cs:List vL}{o o' o2:Option Nat}{l acc m:List UInt8}{v v2:vL}
def mD.blkO(h:mD W w g cs o l acc v w' o'):∀b,o'=some b->W.heap.size<=b/\b≠g:=λb hb=>by
 rcases h.fr with e|⟨b2,e,h2⟩
 ·exact h.lo.1 b (by rw[<-e];exact hb)
 rw[hb]at e;cases e;have:=h.lo.2;omega
def mD.next(h:mD W w g cs o l acc v w' o')(ha:kU 5 (l++acc).length o' (l++acc++m) w' w2)(hr:iL 5 w2 o2 v2 (l++acc++m))(hf:o2=o'\/∃ b,o2=some b/\w'.heap.size<=b):mD W w g cs o l (acc++m) v2 w2 o2:=by
 have:=h.ap.size;refine⟨by rw[<-fR];exact h.ap.trans ha ss (Dq _ _) (h.fr.imp id λ⟨b,h4,h5⟩ _ g0=>by rw[h4]at g0;cases g0;exact h5),by rw[<-fR];exact hr,?_,kU.extW h.ew ha λb hb=>(h.blkO b hb).1,kU.blkE h.bx ha λe=>(h.blkO g e).2 rfl,h.lo⟩;rcases hf with rfl|⟨b,rfl,h5⟩
 ·exact h.fr
 exact .inr ⟨b,rfl,oo⟩
def mD.step(h:mD W w g cs o l acc v w' o')(hx:aB w' w2):mD W w g cs o l acc v w2 o':=
 ⟨h.ap.trans hx.app (lr _) (GZ _) (.inl rfl),h.by_.ext hx,h.fr,h.ew.trans hx,h.bx.ext hx,h.lo⟩
def mD.say(h:mD W w g cs o l acc v w' o')(k:mX w' o' (l++acc) m v2 w2):∃o2,mD W w g cs o l (acc++m) v2 w2 o2:=by
 obtain⟨o2,h1,h2,h3⟩:=k;exact⟨o2,h.next h1 h2 h3⟩
def mD.lit{b:UInt8}{K:VW}(h:mD W w g cs o l acc v w' o')(hb:(l++acc).length+1<=10000000)(k:∀ v2 w2 o2,mD W w g cs o l (acc++[b]) v2 w2 o2->K v2 w2) :
   OP tp (Instr.buildSlice 24 1 #[(0,.int .u8 (b.toNat:Int))]) w' λu w1=>OP tp (Builtin.append_ #[24,24] 24 [v,u].toArray) w1 K:=by
 refine LX (n:=1) (vs:=kV [b]) mA uH (zs:=[.int .u8 0]) kK rfl oo oo kK λw1 g0 g1=>?_;have h1:=h.step g0;refine KL (m:=[b]) mA uH ES h1.by_ g1 (iD 1) hb λ_ _ _ g2 g3 g4=>k _ _ _ (h1.next g2 g3 g4)
def mD.str{t ty:TypeId}{s:ByteArray}{K:VW}(ht:tp.underlying t=some .string)(h:mD W w g cs o l acc v w' o')(hb:(l++acc).length+s.size<=10000000)(k:∀ v2 w2 o2,mD W w g cs o l (acc++aW s) v2 w2 o2->K v2 w2) :
   OP tp (Builtin.append_ #[24,t] ty [v,.string s].toArray) w' K:=
 Jo mA ht uH ES h.by_ hb λv3 w3 o3 ha3 hr3 ho3=>k _ _ _ (h.next ha3 hr3 ho3)
end
def HF(a b:ByteArray):aW (a++b)=aW a++aW b:=by simp[aW,Bx]
def rh{t:aD}(h:Is W u t):∃vk,u=.agg #[iV t.kind,iV t.num,.string t.name,vk]/\Is W vk t.kids/\bR t.kind/\bR t.num/\t.name.size<=maxLen:=by
 obtain⟨_,_,hr,rfl⟩:=h;obtain⟨_,_,_,_,rfl,rfl,⟨-,rfl,h1⟩,_,_,_,_,rfl,rfl,⟨-,rfl,h2⟩,_,F6,_,c6,rfl,rfl,⟨-,rfl,h3⟩,hk⟩:=LU.1 hr;have hk:rep F6 W c6 t.kids:=hk;obtain⟨a,cap,Fi,xs,rfl,g0⟩:=hk;exact⟨_,rfl,⟨_,_,⟨a,cap,Fi,xs,rfl,g0⟩,rfl⟩,h1,h2,h3⟩
def iP(wd:wD)(o o1:Option Nat):Prop:=o1=o\/∃b,o1=some b/\wd.heap.size<=b
def iP.of{o o1 o2:Option Nat}(h:iP wd o o1)(k:o2=o1\/∃ b,o2=some b/\w'.heap.size<=b)(hs:wd.heap.size<=w'.heap.size):iP wd o o2:=by
 rcases k with rfl|⟨b,h1,_⟩
 ·exact h
 exact .inr ⟨b,h1,oo⟩
def iP.low{o o1:Option Nat}(h:iP wd o o1)(ho:∀ b,o=some b->W.heap.size<=b)(hW:aB W wd):∀b,o1=some b->W.heap.size<=b:=λb hb=>by
 have:=hW.size;rcases h with rfl|⟨b',h1,h2⟩
 ·exact ho b hb
 rw[h1]at hb;cases hb;omega
def wc(W wd:wD)(o:Option Nat)(l m1 m2:List UInt8)(v vk:vL)(g:Nat)(a:aD):iE:=λi u T w=>match i with
 |0=>u 22=v
 |1=>∃o1,iL 5 w o1 (u 23) (l++m1)/\iP wd o o1
 |2=>u 24=pT g 3
 |3=>u 25=vk
 |4=>∃b0 o0,u 26=pT b0 o0/\At W b0 o0 a
 |5=>Is W (u 27) a
 |6=>∃o1,iL 5 w o1 (u 28) (l++m1++m2)/\iP wd o o1
 |7=>∃b,u 29=.slice (some ⟨b,0,none⟩) 1 1/\cA b 5 w (kV [41])/\wd.heap.size<=b
 |8=>∃o1,iL 5 w o1 (u 30) (l++(m1++m2++[41]))/\iP wd o o1
 |9=>∃o1,iL 5 w o1 (u 4) (l++(m1++m2++[41]))/\iP wd o o1
 |_=>True
def ck(ih:∀ m,m+1=n->Km m):Km n:=by
 intro w W o v u l t h hu hW ho ht hl;refine co (g:=⟨extL,[],[],[(8,[0,3,4,5,6,1,2,7,8],6)],[],[8],[(7,2143289360)]⟩) Tryz.func104 ?_;obtain⟨vk,rfl,gb,_,iN,_⟩:=rh hu;refine VO λw1 g9 g0=>?_;have g0:cA w.heap.size 67 w1 [iV t.kind,iV t.num,.string t.name,vk]:=g0;have:=g0.lt;have h1:=h.ext g9;have gx:=hW.trans g9;refine aE BK<|cX aG g0 rfl<|bI<|br (λg1=>?_) λg1=>?_
 ·rcases FM ht with⟨x,h0,hx,rfl⟩|⟨s,hs,rfl⟩|⟨m,a,rfl,rfl,ha⟩|⟨m,a,b,k,rfl,rfl,ha,hb,h3,h9,h8⟩
  rotate_left
  ·exact absurd g1 (show ¬((2:Int)=1) by decide)
  ·exact absurd g1 (show ¬((8:Int)=1) by decide)
  ·exact absurd g1 (show ¬((k:Int)=1) by omega)
  refine aE CC<|cX aG g0 rfl<|(Ls iN).mM λw2 g2=>?_;have hz:(fN n (.mk 1 x lS [])).length=(mO x).size:=by rw[(GR n x).1,dO]
  refine TA (s:=mO x) mA u9 (h1.ext g2) oo λv3 w3 o3 C V Z=>?_;rw[(GR n x).1];exact mX.of xx ⟨o3,C,V,Z⟩
 refine bI<|br (λgc=>?_) λgc=>?_
 ·rcases FM ht with⟨x,h0,hx,rfl⟩|⟨s,hs,rfl⟩|⟨m,a,rfl,rfl,ha⟩|⟨m,a,b,k,rfl,rfl,ha,hb,h3,h9,h8⟩
  ·exact absurd rfl g1
  rotate_left
  ·exact absurd gc (show ¬((8:Int)=2) by decide)
  ·exact absurd gc (show ¬((k:Int)=2) by omega)
  refine aE yZ<|cX cG g0 rfl ?_;have hz:(fN n (.mk 2 0 s [])).length=s.size:=by rw[(HD n s).1,dO]
  refine TA (s:=s) mA u9 h1 oo λv3 w3 o3 C V Z=>?_;rw[(HD n s).1];exact mX.of g9 ⟨o3,C,V,Z⟩
 refine bI<|br (λgi=>?_) λgi=>?_
 ·rcases FM ht with⟨x,h0,hx,rfl⟩|⟨s,hs,rfl⟩|⟨m,a,rfl,rfl,ha⟩|⟨m,a,b,k,rfl,rfl,ha,hb,h3,h9,h8⟩
  ·exact absurd rfl g1
  ·exact absurd rfl gc
  rotate_left
  ·exact absurd gi (show ¬((k:Int)=8) by omega)
  have D:=cO w1;have gh:=g0.ext D;have g3:=gx.trans D;have gj:=h1.ext D;have g4:=g9.t D;have gA:=D.size;have M:(aD.mk 8 0 lS [a]).kids=[a]:=rfl;rw[M]at gb
  have e1:fN (m+1) (.mk 8 0 lS [a])=aW (ByteArray.mk #[40,110,111,116,32])++fN m a++[41]:=by
    rw[fN,aH oo,aH oo,aP rfl];rfl
  have g5:(fN (m+1) (.mk 8 0 lS [a])).length=(fN m a).length+6:=by
    have:(aW (ByteArray.mk #[40,110,111,116,32])).length=5:=rfl;rw[e1];simp only[bX,dA,eU];omega
  rw[g5]at hl;rw[e1];have gd:∀b,o=some b->b<w.heap.size:=λb hb=>by subst hb;exact iL.lt h
  have gB:o≠some w.heap.size:=λe=>by have:=gd _ e;omega
  generalize World.drew1 w1=wd at *;have gC:∀b,o=some b->b<wd.heap.size:=λb hb=>by have:=gd b hb;omega
  have gy:l++aW (ByteArray.mk #[40,110,111,116,32]) <+: l++(aW (ByteArray.mk #[40,110,111,116,32])++fN m a++[41]):=⟨fN m a++[41],ss⟩;have gz:l++aW (ByteArray.mk #[40,110,111,116,32])++fN m a <+: l++(aW (ByteArray.mk #[40,110,111,116,32])++fN m a++[41]):=⟨[41],ss⟩;have gf:(aW (ByteArray.mk #[40,110,111,116,32])).length=5:=rfl
  refine FZ.mk (λw'=>kU 5 l.length o (l++(aW (ByteArray.mk #[40,110,111,116,32])++fN m a++[41])) wd w') (λ_=>SR 5 l.length o (l++(aW (ByteArray.mk #[40,110,111,116,32])++fN m a++[41])) wd)
    (wc W wd o l (aW (ByteArray.mk #[40,110,111,116,32])) (fN m a) v vk w.heap.size a) (aC _).app (λ_ _ _ hB hR=>hR.out hB) (λ_ _ _ hR=>hR.size) ?_ ?_ ?_
  ·intro i j u u' T _ _ _ O _ hR hd hq
   match i,O,hd,hq with
   |0,O,hd,hq=>exact(hd (0,22) dD).1.trans hq
   |1,O,hd,⟨o1,q1,q2⟩=>exact⟨o1,by have e:=(hd (1,23) dD).1;simp only at e;rw[e];exact hR.row q1 gy,q2⟩
   |2,O,hd,hq=>exact(hd (2,24) dD).1.trans hq
   |3,O,hd,hq=>exact(hd (3,25) dD).1.trans hq
   |4,O,hd,⟨b0,o0,q1,q2⟩=>exact⟨b0,o0,(hd (4,26) dD).1.trans q1,q2⟩
   |5,O,hd,hq=>have e:=(hd (5,27) dD).1;simp only at e;show Is W (u' 27) a;rw[e];exact hq
   |6,O,hd,⟨o1,q1,q2⟩=>exact⟨o1,by have e:=(hd (6,28) dD).1;simp only at e;rw[e];exact hR.row q1 gz,q2⟩
   |7,O,hd,⟨b,q1,q2,q3⟩=>exact⟨b,(hd (7,29) dD).1.trans q1,hR.lit q2 (iD 1) q3 gC,q3⟩
   |8,O,hd,⟨o1,q1,q2⟩=>exact⟨o1,by have e:=(hd (8,30) dD).1;simp only at e;rw[e];exact hR.row q1 (GZ _),q2⟩
   |9,O,hd,⟨o1,q1,q2⟩=>exact⟨o1,by have e:=(hd (9,4) dD).1;simp only at e;rw[e];exact hR.row q1 (GZ _),q2⟩
   |n+10,_,_,_=>trivial
  ·refine⟨?_,?_,?_,?_,?_,?_,?_,?_,?_,?_,trivial⟩
   ·exactλu T w' hB hs _ _=>⟨.ext xx,rfl⟩
   ·exactλu T w' hB hs _ hp=>by
      have q0:u 22=v:=hp.1;rw[q0];exact TA mA u9 (gj.app hB λ_=>.inl (lr _)) (by rw[<-dO,gf];omega) λv3 w3 o3 C V Z=>⟨⟨_,o,C.mono (lr _) gy,lr _,.inl rfl⟩,o3,V,iP.of (.inl rfl) Z hs⟩
   ·exactλu T w' hB hs _ _=>aE pF ⟨.ext xx,rfl⟩
   ·exactλu T w' hB hs _ hp=>by
      have q0:u 24=pT w.heap.size 3:=hp.1;rw[q0];exact cX pE (hB.small gh (.inl gB)) rfl ⟨.ext xx,rfl⟩
   ·exactλu T w' hB hs _ hp=>by
      have q0:u 25=vk:=hp.1;rw[q0];exact bC (i:=0) mY dK gb ss λb0 o0 gg=>⟨.ext xx,b0,o0,rfl,gg⟩
   ·exactλu T w' hB hs _ hp=>by
      obtain⟨b0,o0,q0,gg⟩:∃b0 o0,u 26=pT b0 o0/\At W b0 o0 a:=hp.1;rw[q0];exact aL dK gg (kU.extW g3 hB ho) λva gl=>⟨.ext xx,gl⟩
   ·exactλu T w' hB hs _ hp=>by
      obtain⟨o1,q1,q2⟩:∃o1,iL 5 w' o1 (u 23) (l++aW (ByteArray.mk #[40,110,111,116,32]))/\iP wd o o1:=hp.1;have q3:Is W (u 27) a:=hp.2.1;refine(ih m rfl q1 q3 (kU.extW g3 hB ho) (λb hb=>q2.low ho g3 b hb) ha (by rw[bX,gf];omega)).mono ?_;rintro v4 w4 ⟨o4,gD,gE,gF⟩;exact⟨⟨_,o1,gD.mono (lr _) gz,ss,q2.imp id λ⟨b,h1,h2⟩=>⟨b,h1,h2,by rw[bX,gf];omega⟩⟩,o4,gE,iP.of q2 gF hs⟩
   ·exactλu T w' hB hs _ _=>LX (n:=1) (vs:=kV [41]) mA uH (zs:=[.int .u8 0]) kK rfl oo oo kK λw2 g2 gn=>⟨.ext g2,_,rfl,gn,hs⟩
   ·exactλu T w' hB hs _ hp=>by
      obtain⟨o1,q1,q2⟩:∃o1,iL 5 w' o1 (u 28) (l++aW (ByteArray.mk #[40,110,111,116,32])++fN m a)/\iP wd o o1:=hp.1;obtain⟨b,q3,q4,_⟩:∃b,u 29=.slice (some ⟨b,0,none⟩) 1 1/\cA b 5 w' (kV [41])/\wd.heap.size<=b:=hp.2.1;rw[q3];refine KL (m:=[41]) mA uH ES q1 q4 (iD 1) (by rw[bX,bX,gf];simp only[dA,eU];omega) λv3 w3 o3 C V Z=>?_;have eL:l++aW (ByteArray.mk #[40,110,111,116,32])++fN m a++[41]=l++(aW (ByteArray.mk #[40,110,111,116,32])++fN m a++[41]):=by simp
      rw[eL]at C V;exact⟨⟨_,o1,C,by rw[fR,bX];omega,q2.imp id λ⟨b,h1,h2⟩=>⟨b,h1,h2,by rw[bX,bX,gf];omega⟩⟩,o3,V,iP.of q2 Z hs⟩
   exactλu T w' hB hs _ hp=>⟨.ext xx,hp.1⟩
  intro u T w2 hB hs _ gp;obtain⟨o1,q1,q2⟩:∃o1,iL 5 w2 o1 (u 4) (l++(aW (ByteArray.mk #[40,110,111,116,32])++fN m a++[41]))/\iP wd o o1:=gp.2.2.2.2.2.2.2.2.2.1;exact mX.of g4 ⟨o1,hB,q1,q2⟩
 rcases FM ht with⟨x,h0,hx,rfl⟩|⟨s,hs,rfl⟩|⟨m,a,rfl,rfl,ha⟩|⟨m,a,b,k,rfl,rfl,ha,hb,h3,h9,h8⟩
 ·exact absurd rfl g1
 ·exact absurd rfl gc
 ·exact absurd rfl gi
 have D:=cO w1;have gh:=g0.ext D;have g3:=gx.trans D;have gj:=h1.ext D;have g4:=g9.t D;have gA:=D.size;have:=hW.size;have gd:∀b,o=some b->W.heap.size<=b/\b≠w.heap.size:=λb hb=>⟨ho b hb,by subst hb;have:=iL.lt h;omega⟩;have M:(aD.mk (k:Int) 0 lS [a,b]).kids=[a,b]:=rfl;rw[M]at gb;have hS:∀{w':wD}{v':vL}{o':Option Nat}{acc:List UInt8},mD W (World.drew1 w1) w.heap.size [iV k,iV 0,.string lS,vk] o l acc v' w' o'->True:=λ_=>trivial;clear hS;have S0:mD W (World.drew1 w1) w.heap.size [iV k,iV 0,.string lS,vk] o l [] v (World.drew1 w1) o:=⟨(aC _).app,by simpa using gj,.inl rfl,g3,gh,gd,oo,oo⟩
 have e1:fN (m+1) (.mk (k:Int) 0 lS [a,b])=40 :: (fN m a++(32 :: (aW (tE (k:Int))++(32 :: (fN m b++[41]))))):=by
   rw[fN,aH oo,aH oo,aH oo];rfl
 have g5:(fN (m+1) (.mk (k:Int) 0 lS [a,b])).length=(fN m a).length+(aW (tE (k:Int))).length+(fN m b).length+4:=by
   rw[e1];simp only[dA,bX,eU];omega
 rw[g5]at hl;generalize World.drew1 w1=wd at *;refine XR.mk (λc=>o=some c)<|sU pF<|zW pE (u:=vk) (λj u hj=>?_) (λe=>(gd _ e).2 rfl) ?_
 ·match j,hj with
  |0,hj=>simp only[List.getElem?_cons_zero,iU]at hj;subst hj;exact gh.range 3 _ rfl
  |j+1,hj=>simp at hj
 refine MJ (w0:=W) (λb hb=>ho b hb) g3 (bC (i:=0) mY dK gb ss λb0 o0 gg=>?_);refine MJ (w0:=W) (λb hb=>ho b hb) g3 (aL dK gg xx λva gl=>?_);have gq:∀x:ByteArray,(aW x).length=x.size:=dO;refine LX (n:=1) (vs:=kV [40]) mA uH (zs:=[.int .u8 0]) kK rfl oo oo kK λw2 g2 gn=>⟨g2.toX,?_⟩;have S2:=S0.step g2;refine KL (m:=[40]) mA uH ES S2.by_ gn (iD 1) so λv3 w3 o3 C V Z=>⟨kU.toX C,?_⟩;have S3:=S2.next C V Z
 refine(ih m rfl S3.by_ gl S3.ew (λb hb=>(S3.blkO b hb).1) ha so).mono ?_;rintro v4 w4 h4;obtain⟨o4,S4⟩:=S3.say h4;refine aE BK<|cX aG S4.bx rfl<|(vq (k:=k) oo).mM λ_ gG=>?_;have gH:fM[k]'(by simp[fM];omega)=tE (k:Int):=by unfold tE;rw[show((k:Int)).toNat=k by omega,AF (by simp[fM];omega)]
 have gr:(ByteArray.mk #[32]).size=1:=rfl;rw[gH];refine mK (by rw[<-gq (tE (k:Int)),gr];omega)<|mK (by rw[lF,<-gq (tE (k:Int)),gr];omega)<|(S4.step gG).str (s:=ByteArray.mk #[32]++tE (k:Int)++ByteArray.mk #[32]) u9 (by rw[lF,lF,<-gq (tE (k:Int)),gr];simp;omega) λ_ _ _ S6=>aE pF<|cX pE S6.bx rfl<|bC (i:=1) mY dK gb ss λ_ o1 gI=>aL dK gI S6.ew λ_ gJ=>?_;have gs:aW (ByteArray.mk #[32]++tE (k:Int)++ByteArray.mk #[32])=32 :: (aW (tE (k:Int))++[32]):=by rw[HF,HF];rfl
 refine(ih m rfl S6.by_ gJ S6.ew (λb hb=>(S6.blkO b hb).1) hb (by rw[gs];simp;omega)).mono ?_;rintro _ _ h7;obtain⟨_,S7⟩:=S6.say h7;refine S7.lit (b:=41) (by rw[gs];simp;omega) λ_ _ o8 S8=>mX.of g4 ?_
 have gt:([]++[40]++fN m a++aW (ByteArray.mk #[32]++tE (k:Int)++ByteArray.mk #[32])++fN m b++[41]:List UInt8)=fN (m+1) (.mk (k:Int) 0 lS [a,b]):=by
   rw[e1,gs];simp
 rw[<-gt];exact⟨o8,S8.ap,S8.by_,S8.fr⟩
def MA(h:cK s=true):(aW s).length<=12:=by
 have h:=KN h;unfold tB at h;simp only[iA,lZ]at h;rw[dO];exact h.1.1
theorem lh(k:Int):(aW (tE k)).length<=3:=by
 unfold tE
 match k.toNat with
 |0=>decide
 |1=>decide
 |2=>decide
 |3=>decide
 |4=>decide
 |5=>decide
 |6=>decide
 |7=>decide
 |8=>decide
 |9=>decide
 |n+10=>exact vS 3
theorem XC(k:Int):(aW (lR k)).length<=6:=by
 unfold lR
 match k.toNat with
 |0=>decide
 |1=>decide
 |2=>decide
 |3=>decide
 |4=>decide
 |5=>decide
 |6=>decide
 |7=>decide
 |8=>decide
 |n+9=>exact vS 6
theorem fg:∀(n:Nat)(t:aD),fK n t=true->(fN n t).length+20<=41*2^n:=by
 have hb:∀n:Nat,41<=41*2^n:=λn=>Nat.le_mul_of_pos_right _ (Nat.two_pow_pos n)
 have g0:∀(n:Nat)(v:Int),0<=v->v<=1000000000->(fN n (.mk 1 v lS [])).length+20<=41*2^n:=λn v h0 h1=>by
   have:=CW v io;rw[(GR n v).1,dO];have:=hb n;omega
 have g1:∀(n:Nat)(s:ByteArray),cK s=true->(fN n (.mk 2 0 s [])).length+20<=41*2^n:=λn s h=>by
   rw[(HD n s).1];have:=MA h;have:=hb n;omega
 intro n
 induction n with
 | zero=>
   intro t ht;rcases FM ht with⟨x,h0,hx,rfl⟩|⟨s,hs,rfl⟩|⟨m,a,h,_⟩|⟨m,a,b,k,h,_⟩
   ·exact g0 0 x h0 hx
   ·exact g1 0 s hs
   ·omega
   omega
 | succ n ih=>
   intro t ht;have hp:41*2^(n+1)=2*(41*2^n):=by rw[QI];omega
   rcases FM ht with⟨x,h0,hx,rfl⟩|⟨s,hs,rfl⟩|⟨m,a,h,rfl,ha⟩|⟨m,a,b,k,h,rfl,ha,g2,_,_,_⟩
   ·exact g0 _ x h0 hx
   ·exact g1 _ s hs
   ·obtain rfl:n=m:=oo;have h1:=ih a ha
    have e:fN (n+1) (.mk 8 0 lS [a])=40 :: (aW wY++(32 :: (fN n a++[41]))):=by
      rw[fN,aH oo,aH oo,aP rfl];rfl
    have:(aW wY).length=3:=rfl;rw[e,hp];simp only[dA,bX,eU];omega
   obtain rfl:n=m:=oo;have h1:=ih a ha;have:=ih b g2
   have e:fN (n+1) (.mk (k:Int) 0 lS [a,b])=40 :: (fN n a++(32 :: (aW (tE (k:Int))++(32 :: (fN n b++[41]))))):=by
     rw[fN,aH oo,aH oo,aH oo];rfl
   have:=lh (k:Int);rw[e,hp];simp only[dA,bX,eU];omega
def db{t:aD}(h:fK 6 t=true):(fN 6 t).length<=2604:=by
 have:=fg 6 t h;omega
theorem WV{f:aA->List UInt8}:∀{l:List aA},(∀x∈l,(f x).length<=2700*fU x)->(l.flatMap f).length<=2700*cM l
 |[],_=>by simp[cM]
 | x :: l,h=>by
   have h1:=h x ss;have h2:=WV (l:=l) λy hy=>h y (by simp[hy]);rw[vE,bX,cM];omega
def Zw{t:aA}(ht:S0 t)(blk:Nat->List aA->List UInt8){b:Nat}(hb:b<=8):(BC blk b t).length<=2700*fU t:=by
 have:1<=fU t:=by cases t;rw[fU];omega
 have:=XC t.kind;have:=XC 8;rcases ht with⟨h1,h2,h3,h4,h5⟩|⟨h1,h2,h3,h4,h5⟩|⟨h1,h2,h3,h4,h5⟩|⟨h1,h2,h3,h4,h5⟩<;>unfold BC
 ·rw[aP h1];have:=MA h2;have:=db h3;simp only[dA,bX,eU,pY];omega
 ·rw[aH oo,aH oo,aH oo];have:=MA h2;simp only[dA,bX,eU,pY];omega
 ·rw[aH oo,aH oo,aH oo];have:=MA h2;simp only[dA,bX,eU,pY];omega
 rw[aH oo,aH oo,aP h1];simp only[dA,bX,eU,pY];omega
theorem Dy:∀(n:Nat)(t:aA)(b:Nat),SH n t->b+n<=8->(lM n b t).length<=2700*fU t
 |0,t,b,h,hb=>Zw h.zero _ oo
 | n+1,t,b,h,hb=>by
   rcases h.succ with h|⟨_,_,h3,h4,h5⟩
   ·exact Zw h _ oo
   show(BC (xE (lM n)) b t).length<=_;rw[Gu oo];have:=XC t.kind;have:=db h3;have:=WV (f:=lM n (b+1)) λx hx=>Dy n x (b+1) (h4 x hx) oo;have:=WV (f:=lM n (b+1)) λx hx=>Dy n x (b+1) (h5 x hx) oo;have hz:fU t=1+cM t.body+cM t.els:=by cases t;rw[fU];rfl
   have:(aW tM).length=4:=rfl;unfold xE;rw[hz];split<;>simp only[dA,bX,eU,pY]<;>omega
theorem RG:∀(l:List ByteArray)(f:Bool),(∀x∈l,cK x=true)->(tP f l).length<=14*l.length
 |[],_,_=>vS _
 | s :: l,f,h=>by
   have h1:=RG l true λx hx=>h x (by simp[hx]);have h2:=MA (h s ss);cases f<;>rw[tP]<;>simp only[dA,bX,eU]<;>simp<;>omega
def bc{x:aQ}(hn:cK x.name=true)(h:(∀ y∈x.body,SH 6 y)/\cM x.body<=60):(AH x).length<=162100:=by
 have:=MA hn;have:=WV (f:=lM 6 1) λy hy=>Dy 6 y 1 (h.1 y hy) oo;have:(aW zG).length=4:=rfl;unfold AH;simp only[dA,bX,eU];omega
theorem Ow:∀{l:List aQ},(∀x∈l,(AH x).length<=162100)->(l.flatMap AH).length<=162100*l.length
 |[],_=>by simp
 | x :: l,h=>by
   have h1:=h x ss;have h2:=Ow (l:=l) λy hy=>h y (by simp[hy]);rw[vE,bX,dA];omega
def ru{p:aY}(hp:vD p):(zR p).length<=2000000:=by
 have:=RG p.B false hp.g.2;have:=RG p.L false hp.l.2;have:=Ow (l:=p.P) λx hx=>bc (hp.n.2 x.name (XP hx)) (hp.b x hx);have:=hp.g.1;have:=hp.l.1;have:=hp.n.1;have:(aW DZ).length=7:=rfl;have:(aW lE).length=5:=rfl;unfold zR vN;simp only[dA,bX,eU];omega
theorem U3(n:Nat):Km n:=by
 induction n with
 |zero=>exact ck λm h=>oo
 |succ n ih=>exact ck λm h=>by obtain rfl:m=n:=oo;exact ih
structure dW(W w:wD)(o:Option Nat)(l acc:List UInt8)(v:vL)(w':wD)(o':Option Nat):Prop where
 ap:kU 5 l.length o (l++acc) w w'
 by_:iL 5 w' o' v (l++acc)
 fr:o'=o\/∃b,o'=some b/\w.heap.size<=b
 ew:aB W w'
 lo:(∀b,o=some b->W.heap.size<=b)/\W.heap.size<=w.heap.size
section
variable {W w w' w2:wD}{o o' o2:Option Nat}{l acc m:List UInt8}{v v2:vL}
def dW.start(h:iL 5 w o v l)(hW:aB W w)(ho:∀ b,o=some b->W.heap.size<=b):dW W w o l [] v w o:=⟨(aC _).app,by simpa using h,.inl rfl,hW,ho,hW.size⟩
def dW.blkO(h:dW W w o l acc v w' o'):∀b,o'=some b->W.heap.size<=b:=λb hb=>by
 rcases h.fr with e|⟨b2,e,h2⟩
 ·exact h.lo.1 b (by rw[<-e];exact hb)
 rw[hb]at e;cases e;have:=h.lo.2;omega
def dW.next(h:dW W w o l acc v w' o')(ha:kU 5 (l++acc).length o' (l++acc++m) w' w2)(hr:iL 5 w2 o2 v2 (l++acc++m))(hf:o2=o'\/∃ b,o2=some b/\w'.heap.size<=b):dW W w o l (acc++m) v2 w2 o2:=by
 have:=h.ap.size;refine⟨by rw[<-fR];exact h.ap.trans ha ss (Dq _ _) (h.fr.imp id λ⟨b,h4,h5⟩ _ g0=>by rw[h4]at g0;cases g0;exact h5),by rw[<-fR];exact hr,?_,kU.extW h.ew ha λb hb=>h.blkO b hb,h.lo⟩;rcases hf with rfl|⟨b,rfl,h5⟩
 ·exact h.fr
 exact .inr ⟨b,rfl,oo⟩
def dW.step(h:dW W w o l acc v w' o')(hx:aB w' w2):dW W w o l acc v w2 o':=
 ⟨h.ap.trans hx.app (lr _) (GZ _) (.inl rfl),h.by_.ext hx,h.fr,h.ew.trans hx,h.lo⟩
def dW.say(h:dW W w o l acc v w' o')(k:mX w' o' (l++acc) m v2 w2):∃o2,dW W w o l (acc++m) v2 w2 o2:=by
 obtain⟨o2,h1,h2,h3⟩:=k;exact⟨o2,h.next h1 h2 h3⟩
def dW.lit{b:UInt8}{K:VW}(h:dW W w o l acc v w' o')(hb:(l++acc).length+1<=10000000)(k:∀ v2 w2 o2,dW W w o l (acc++[b]) v2 w2 o2->K v2 w2) :
   OP tp (Instr.buildSlice 24 1 #[(0,.int .u8 (b.toNat:Int))]) w' λu w1=>OP tp (Builtin.append_ #[24,24] 24 [v,u].toArray) w1 K:=by
 refine LX (n:=1) (vs:=kV [b]) mA uH (zs:=[.int .u8 0]) kK rfl oo oo kK λw1 g0 g1=>?_;have h1:=h.step g0;refine KL (m:=[b]) mA uH ES h1.by_ g1 (iD 1) hb λ_ _ _ g2 g3 g4=>k _ _ _ (h1.next g2 g3 g4)
def dW.lit2{b c:UInt8}{K:VW}(h:dW W w o l acc v w' o')(hb:(l++acc).length+2<=10000000)(k:∀ v2 w2 o2,dW W w o l (acc++[b,c]) v2 w2 o2->K v2 w2) :
   OP tp (Instr.buildSlice 24 2 #[(0,.int .u8 (b.toNat:Int)),(1,.int .u8 (c.toNat:Int))]) w' λu w1=>OP tp (Builtin.append_ #[24,24] 24 [v,u].toArray) w1 K:=by
 refine LX (n:=2) (vs:=kV [b,c]) mA uH (zs:=[.int .u8 0]) kK rfl oo oo kK λw1 g0 g1=>?_;have h1:=h.step g0;refine KL (m:=[b,c]) mA uH ES h1.by_ g1 (Nat.zero_lt_succ _) hb λ_ _ _ g2 g3 g4=>k _ _ _ (h1.next g2 g3 g4)
def dW.str{t ty:TypeId}{s:ByteArray}{K:VW}(ht:tp.underlying t=some .string)(h:dW W w o l acc v w' o')(hb:(l++acc).length+s.size<=10000000)(k:∀ v2 w2 o2,dW W w o l (acc++aW s) v2 w2 o2->K v2 w2) :
   OP tp (Builtin.append_ #[24,t] ty [v,.string s].toArray) w' K:=
 Jo mA ht uH ES h.by_ hb λv3 w3 o3 ha3 hr3 ho3=>k _ _ _ (h.next ha3 hr3 ho3)
def dW.done(h:dW W w o l acc v w' o')(he:acc=m):mX w o l m v w':=by
 subst he;exact⟨o',h.ap,h.by_,h.fr⟩
def dW.bx{g e:Nat}{cs:List vL}(h:dW W w o l acc v w' o')(hB:cA g e w cs)(ho:o≠some g):cA g e w' cs:=h.ap.small hB (.inl ho)
end
def ny{α:Type}[Rep α]{P:pG}{W w:wD}{X:Nat->Prop}{t by_ b o:Nat}{F:List Nat}{cs:List vL}{x:α}{K:vL->Prop}(ht:cT P t=some (Rep.size α,by_,Rep.agg α))(hr:rep F W cs x)(hW:aB W w)(hc:w.rangeAt b o cs)(hb:¬X b)(hX:∀ c,X c->W.heap.size<=c)(k:K (fF α cs)):lH P X (Instr.loadAt t (pT b o)) w K:=by
 refine⟨fF α cs,λ_ hx=>OK ht (Rep.keep hr λc hm=>?_) (yT hc (hx.block b ?_ hb)),k⟩
 ·have g0:=Rep.lt hr c hm;have:=hW.size;exact(hx.block c oo λg1=>by have:=hX c g1;omega).trans (hW.heap g0)
 exact JG hc (by rw[Rep.len hr];exact Rep.pos)
def Bi{X:Nat->Prop}{x y:Operand}{a b:ByteArray}(h:a.size+b.size<=9223372036854775807)(k:K (.string (a++b))):lH P X (bin .add t x y (.string a) (.string b)) w K:=
 ⟨_,λw' _=>by obtain⟨u,hu,rfl⟩:=mK (P:=P) (t:=t) (x:=x) (y:=y) (w:=w') (K:=λu=>u=.string (a++b)) h rfl;exact hu w' xx,k⟩
def fb{t:aA}(h:Is W u t):∃ct vb ve Ft,u=.agg (iV t.kind :: .string t.name :: (ct++[vb,ve])).toArray/\rep Ft W ct t.term/\Is W vb t.body/\Is W ve t.els/\bR t.kind/\t.name.size<=maxLen/\ct.length=4:=by
 obtain⟨F,cs,hr,rfl⟩:=h;obtain⟨_,_,t,_,_⟩:=t;have hr:yM _ F W cs:=hr;rw[yM]at hr;obtain⟨Ft,ct,_,cb,_,ce,rfl,rfl,i1,i2,ht,hb,he⟩:=hr;obtain⟨a1,c1,G1,x1,q1,r1⟩:=TS.1 hb;obtain⟨a2,c2,G2,x2,q2,r2⟩:=TS.1 he;obtain rfl:cb=_:=by simpa using q1
 obtain rfl:ce=_:=by simpa using q2
 exact⟨ct,_,_,Ft,rfl,ht,⟨_,_,⟨a1,c1,G1,x1,rfl,r1⟩,rfl⟩,⟨_,_,⟨a2,c2,G2,x2,rfl,r2⟩,rfl⟩,i1,i2,Rep.len ht⟩
structure zU(g:Nat)(w:wD)(t:aA)(ct:List vL)(vb ve:vL):Prop where
 b:∃e,cA g e w (iV t.kind :: .string t.name :: (ct++[vb,ve]))
 n:ct.length=4
section
variable {W w w' w2:wD}{g:Nat}{t:aA}{ct:List vL}{vb ve:vL}{o o':Option Nat}{l acc:List UInt8}{v:vL}
def zU.keep(h:zU g w t ct vb ve)(S:dW W w o l acc v w' o')(ho:o≠some g):zU g w' t ct vb ve:=by
 obtain⟨⟨e,hB⟩,hn⟩:=h;exact⟨⟨e,S.bx hB ho⟩,hn⟩
def zU.ext(h:zU g w t ct vb ve)(hx:aB w w'):zU g w' t ct vb ve:=by
 obtain⟨⟨e,hB⟩,hn⟩:=h;exact⟨⟨e,hB.ext hx⟩,hn⟩
def zU.app{n:Nat}{L:List UInt8}(h:zU g w t ct vb ve)(S:kU 5 n o L w w')(ho:o≠some g):zU g w' t ct vb ve:=by
 obtain⟨⟨e,hB⟩,hn⟩:=h;exact⟨⟨e,S.small hB (.inl ho)⟩,hn⟩
def zU.term(h:zU g w t ct vb ve):w.rangeAt g 2 ct:=by
 obtain⟨⟨_,hB⟩,_⟩:=h;intro j u hj
 have:=hB.range (2+j) u (by
   rw[show 2+j=(j+1)+1 by omega,List.getElem?_cons_succ,List.getElem?_cons_succ,List.getElem?_append_left (List.getElem?_eq_some_iff.1 hj).1];exact hj)
 simpa using this
def zU.c6(h:zU g w t ct vb ve):∃e,cA g e w (iV t.kind :: .string t.name :: (ct++[vb,ve]))/\(Value.int .i64 t.kind :: .string t.name :: (ct++[vb,ve]))[6]?=some vb/\(Value.int .i64 t.kind :: .string t.name :: (ct++[vb,ve]))[7]?=some ve:=by
 obtain⟨⟨e,hB⟩,hn⟩:=h;refine⟨e,hB,?_,?_⟩
 ·rw[List.getElem?_cons_succ,List.getElem?_cons_succ,List.getElem?_append_right oo,hn];rfl
 rw[List.getElem?_cons_succ,List.getElem?_cons_succ,List.getElem?_append_right oo,hn];rfl
end
def I4(hk:k<9):aJ tp 105 [iV k] w λr w'=>aB w w'/\r=.string (lR (k:Int)):=by
 refine(sx hk).mM λ_ g0=>?_;refine⟨g0,?_⟩;unfold lR;rw[show((k:Int)).toNat=k by omega,AF (by simpa[oV]using hk)]
def Kt(n:Nat):Prop:=∀{w W:wD}{o:Option Nat}{v u:vL}{l:List UInt8}{L:List aA}{b:Nat},iL 5 w o v l->Is W u L->aB W w->(∀b,o=some b->W.heap.size<=b)->(∀x∈L,SH n x)->b+n<=8->l.length+(L.flatMap (lM n b)).length<=9000000 ->
 aJ tp 40 [v,u,iV b] w (mX w o l (L.flatMap (lM n b)))
def Yk(n:Nat):Prop:=∀{w W:wD}{o:Option Nat}{v u:vL}{l:List UInt8}{L:List aA}{b:Nat},iL 5 w o v l->Is W u L->aB W w->(∀b,o=some b->W.heap.size<=b)->(∀x∈L,SH n x)->b+1+n<=8->l.length+(xE (lM n) b L).length<=9000000 ->
 aJ tp 106 [v,u,iV b] w (mX w o l (xE (lM n) b L))
def ea(hS:Kt n):Yk n:=by
 intro _ _ _ _ _ _ L b h hu hW ho hs _ hl;refine co (g:=kf [] [] []) Tryz.func106 ?_;have S0:=dW.start h hW ho;have e:xE (lM n) b L=32 :: 123 :: 10 :: (L.flatMap (lM n (b+1))++(List.replicate b 32++[125])):=rfl
 have g1:(xE (lM n) b L).length=(L.flatMap (lM n (b+1))).length+b+4:=by
   rw[e];simp only[dA,bX,eU,pY];omega
 rw[g1]at hl;have h3:(ByteArray.mk #[32,123,10]).size=3:=rfl;have g0:aW (ByteArray.mk #[32,123,10])=[32,123,10]:=rfl;refine S0.str (s:=ByteArray.mk #[32,123,10]) u9 (by rw[h3];simp;omega) λ_ _ _ S1=>aU ?_;refine(hS S1.by_ hu S1.ew S1.blkO hs oo (by rw[g0];simp only[bX,dA,eU,pY];omega)).mono ?_;rintro _ _ h2;obtain⟨_,S2⟩:=S1.say h2;refine(A9 S2.by_ (by rw[g0];simp only[bX,dA,eU,pY];omega)).mono ?_;rintro _ _ k3;obtain⟨_,S3⟩:=S2.say k3;refine S3.lit (b:=125) (by rw[g0];simp only[bX,dA,eU,pY];omega) λ_ _ _ S4=>S4.done (by rw[e,g0];simp)
def dW.join{o o1 o8:Option Nat}{l acc acc2:List UInt8}{x v8:vL}(h:dW W w o l acc x w1 o1)(hx:aB w1 w2)(k:dW W w2 o1 (l++acc) acc2 v8 w8 o8):dW W w o l (acc++acc2) v8 w8 o8:=
 (h.step hx).next k.ap k.by_ k.fr
def qq{α:Type}{f:α->List UInt8}{L:List α}(hk:k<L.length):(L.take (k+1)).flatMap f=(L.take k).flatMap f++f L[k]/\((L.take k).flatMap f).length+(f L[k]).length<=(L.flatMap f).length:=by
 have h1:(L.take (k+1)).flatMap f=(L.take k).flatMap f++f L[k]:=by rw[tk hk,vW];simp
 refine⟨h1,?_⟩;have h2:L.flatMap f=(L.take (k+1)).flatMap f++(L.drop (k+1)).flatMap f:=by rw[<-vW,XN]
 rw[h2,h1,bX,bX];omega
theorem lq(n b:Nat)(y:aA):∃blk,lM n b y=BC blk b y/\∀m,m+1=n->blk=xE (lM m):=by
 cases n with
 |zero=>exact⟨_,rfl,λm h=>oo⟩
 |succ n=>exact⟨_,rfl,λm h=>by obtain rfl:m=n:=oo;rfl⟩
def sq9(W wd:wD)(o:Option Nat)(l m1 m2:List UInt8)(v:vL)(g:Nat)(nm nm2:ByteArray)(t:aD):iE:=λi u T w=>match i with
 |0=>u 36=v
 |1=>u 37=pT g 1
 |2=>u 38=.string nm
 |3=>u 39=.string nm2
 |4=>∃o1,iL 5 w o1 (u 40) (l++m1)/\iP wd o o1
 |5=>u 41=pT g 2
 |6=>Is W (u 42) t
 |7=>∃o1,iL 5 w o1 (u 43) (l++m1++m2)/\iP wd o o1
 |8=>∃b,u 44=.slice (some ⟨b,0,none⟩) 1 1/\cA b 5 w (kV [59])/\wd.heap.size<=b
 |9=>∃o1,iL 5 w o1 (u 45) (l++(m1++m2++[59]))/\iP wd o o1
 |10=>∃o1,iL 5 w o1 (u 0) (l++(m1++m2++[59]))/\iP wd o o1
 |_=>True
def r9(ih:∀ m,m+1=n->Yk m):Kt n:=by
 intro w W o v u l L b h hu hW ho hs hb _;have hln:=fD hu;refine co (g:=⟨extL,[],[(2,1208925819614629174706049,[0,7])],[(12,[0,1,2,6,7,3,4,5,8,9],40),(15,[0,2,3,4,1,5,6],2),(7,[0,1,2,5,6,3,4,7,8,9,10],8)],[],[7,12,15],[(9,70300024700929)]⟩) Tryz.func40 ?_;refine bV L.length (λk us w'=>∃x o',us=[x,iV k]/\k<=L.length/\dW W w o l ((L.take k).flatMap (lM n b)) x w' o') 0 (z0 _) ⟨v,o,rfl,z0 _,by simpa using dW.start h hW ho⟩ ?_;rintro k m us w1 _ ⟨x,o1,gV,_,S1⟩;obtain⟨gW,gX⟩:=dQ gV;rw[gW,gX];refine aX fJ hu<|bM<|br (λ_=>?_) (λ_=>S1.done (by rw[iO oo]));have hk:k<L.length:=oo;obtain⟨gp,gH⟩:=qq (f:=lM n b) hk;obtain⟨y,hy⟩:∃y,y=L[k]:=⟨_,rfl⟩;have gi:SH n y:=by rw[hy];exact hs _ (cY hk)
 rw[<-hy]at gp gH;refine bC fJ fB hu hk λ_ _ g4=>?_;rw[<-hy]at g4;refine aL fB g4 S1.ew λ_ gI=>?_;obtain⟨ct,vb,ve,Ft,rfl,gj,gY,gJ,_,_,gZ⟩:=fb gI;refine mB zX rfl fB rfl gI S1.ew λw2 g5 _ h6=>?_
 have g9:zU w1.heap.size w2 y ct vb ve:=by
   obtain⟨e6,h8,_,h9,gK,_⟩:=h6
   have e:(iV y.kind :: .string y.name :: (ct++[vb,ve]))=h8:=by
     simp only[Value.agg.injEq]at gK;simpa using cS Array.toList gK
   exact⟨⟨e6,by rw[e];exact h9⟩,gZ⟩
 have g3:o1≠some w1.heap.size:=λe=>by
   have:=S1.by_;rw[e]at this;have:=iL.lt this;omega
 obtain⟨acc,gq⟩:∃acc,acc=(L.take k).flatMap (lM n b):=⟨_,rfl⟩;rw[<-gq]at S1 gH gp
 have hgs:w1.heap.size<w2.heap.size:=by
   obtain⟨⟨e,hB⟩,_⟩:=g9;exact hB.lt
 have T0:dW W w2 o1 (l++acc) [] x w2 o1:=dW.start (S1.by_.ext g5) (S1.ew.trans g5) S1.blkO
 have fin:∀{g1:List UInt8}{v8:vL}{w8:wD}{o8:Option Nat},dW W w2 o1 (l++acc) g1 v8 w8 o8->g1=lM n b y->∃x o',[v8,Value.int .i64 ((k+1:Nat):Int)]=[x,iV ((k+1:Nat):Int)]/\k+1<=L.length/\dW W w o l ((L.take (k+1)).flatMap (lM n b)) x w8 o':=λ{g1 v8 w8 o8} S he=>by
   subst he;exact⟨v8,o8,rfl,oo,by rw[gp];exact S1.join g5 S⟩
 obtain⟨_,V,gr⟩:=lq n b y;have hl1:(l++acc).length+(lM n b y).length<=9000000:=by rw[bX];omega
 have hb8:b<=8:=oo;refine(A9 T0.by_ (by simp only[oJ];omega)).mono ?_;rintro gL w3 k3;obtain⟨o3,T1⟩:=T0.say k3;have gM:=g9.keep T1 g3;obtain⟨_,ha⟩:=gM.b;generalize l++acc=l1 at *;refine aE vZ<|cX aG ha rfl ?_
 have C:o3≠some w1.heap.size:=λe=>by
   rcases T1.fr with q|⟨c,q,hc⟩
   ·exact g3 (q▸e)
   rw[e]at q;cases q;omega
 have gN:=cO w3;have Td:=T1.step gN;have gb:=gM.ext gN;have gc:([]++List.replicate b 32:List UInt8).length=b:=by simp
 refine bI<|br (λgd=>?_) λgd=>?_
 · -- a name gets what a term comes to
  have h1:cK y.name=true/\fK 6 y.term=true:=by
    rcases gi.one with q|q|q|q|q
    ·exact⟨q.2.1,q.2.2.1⟩
    all_goals (have:=q.1;omega)
  have hsz:=Ey h1.1;generalize World.drew1 w3=wd at *
  have D:lM n b y=List.replicate b 32++((aW (y.name++ByteArray.mk #[32,61,32])++fN 6 y.term++[59])++[10]):=by
    rw[V];unfold BC;rw[aP gd,HF];show _=List.replicate b 32++((aW y.name++[32,61,32]++fN 6 y.term++[59])++[10]);simp
  have hf:(lM n b y).length=b+(aW (y.name++ByteArray.mk #[32,61,32])).length+(fN 6 y.term).length+2:=by
    rw[D];simp only[bX,dA,eU,pY];omega
  have hm1:(aW (y.name++ByteArray.mk #[32,61,32])).length=(y.name++ByteArray.mk #[32,61,32]).size:=dO _;have hm3:3<=(aW (y.name++ByteArray.mk #[32,61,32])).length:=by rw[HF,bX];exact Nat.le_add_left _ _
  generalize hM1:aW (y.name++ByteArray.mk #[32,61,32])=m1 at *;generalize hM2:fN 6 y.term=m2 at *;obtain⟨l2,gs⟩:∃l2,l2=l1++([]++List.replicate b 32):=⟨_,rfl⟩;have hg:l2.length=l1.length+b:=by rw[gs,bX,gc]
  have Z:=Td.by_;rw[<-gs]at Z;have hh:∀c,o3=some c->c<wd.heap.size:=λc hc=>by rw[hc]at Z;exact iL.lt Z
  have gO:l2++m1 <+: l2++(m1++m2++[59]):=⟨m2++[59],ss⟩;have gP:l2++m1++m2 <+: l2++(m1++m2++[59]):=⟨[59],ss⟩
  refine FZ.mk (λw'=>kU 5 l2.length o3 (l2++(m1++m2++[59])) wd w') (λ_=>SR 5 l2.length o3 (l2++(m1++m2++[59])) wd)
    (sq9 W wd o3 l2 m1 m2 gL w1.heap.size y.name (y.name++ByteArray.mk #[32,61,32]) y.term) (aC _).app (λ_ _ _ hB hR=>hR.out hB) (λ_ _ _ hR=>hR.size) ?_ ?_ ?_
  ·intro i j u u' T _ _ _ M _ hR hd hq
   match i,M,hd,hq with
   |0,M,hd,hq=>exact(hd (0,36) dD).1.trans hq
   |1,M,hd,hq=>exact(hd (1,37) dD).1.trans hq
   |2,M,hd,hq=>exact(hd (2,38) dD).1.trans hq
   |3,M,hd,hq=>exact(hd (3,39) dD).1.trans hq
   |4,M,hd,⟨o1,q1,q2⟩=>exact⟨o1,by have e:=(hd (4,40) dD).1;simp only at e;rw[e];exact hR.row q1 gO,q2⟩
   |5,M,hd,hq=>exact(hd (5,41) dD).1.trans hq
   |6,M,hd,hq=>have e:=(hd (6,42) dD).1;simp only at e;show Is W (u' 42) _;rw[e];exact hq
   |7,M,hd,⟨o1,q1,q2⟩=>exact⟨o1,by have e:=(hd (7,43) dD).1;simp only at e;rw[e];exact hR.row q1 gP,q2⟩
   |8,M,hd,⟨c,q1,q2,q3⟩=>exact⟨c,(hd (8,44) dD).1.trans q1,hR.lit q2 (iD 1) q3 hh,q3⟩
   |9,M,hd,⟨o1,q1,q2⟩=>exact⟨o1,by have e:=(hd (9,45) dD).1;simp only at e;rw[e];exact hR.row q1 (GZ _),q2⟩
   |10,M,hd,⟨o1,q1,q2⟩=>exact⟨o1,by have e:=(hd (10,0) dD).1;simp only at e;rw[e];exact hR.row q1 (GZ _),q2⟩
   |n+11,_,_,_=>trivial
  ·refine⟨?_,?_,?_,?_,?_,?_,?_,?_,?_,?_,?_,trivial⟩
   ·exactλu T w' hB hs _ hp=>⟨.ext xx,hp.2.1⟩
   ·exactλu T w' hB hs _ _=>aE oB ⟨.ext xx,rfl⟩
   ·exactλu T w' hB hs _ hp=>by
      have q0:u 37=pT w1.heap.size 1:=hp.1;obtain⟨e,hb⟩:=(gb.app hB C).b;rw[q0];exact cX cG hb rfl ⟨.ext xx,rfl⟩
   ·exactλu T w' hB hs _ hp=>by
      have q0:u 38=.string y.name:=hp.1;rw[q0];exact mK (by show _+3<=_;omega) ⟨.ext xx,rfl⟩
   ·exactλu T w' hB hs _ hp=>by
      have q0:u 36=gL:=hp.1;have q1:u 39=.string (y.name++ByteArray.mk #[32,61,32]):=hp.2.1;rw[q0,q1]
      exact TA mA u9 (Z.app hB λ_=>.inl (lr _)) oo λv3 w3 o3 gf gg gt=>by
        rw[hM1]at gf gg;exact⟨⟨_,_,gf.mono (lr _) gO,lr _,.inl rfl⟩,o3,gg,iP.of (.inl rfl) gt hs⟩
   ·exactλu T w' hB hs _ _=>aE sS ⟨.ext xx,rfl⟩
   ·exactλu T w' hB hs _ hp=>by
      have q0:u 41=pT w1.heap.size 2:=hp.1;rw[q0];exact Mv dK (rH gj (kU.extW Td.ew hB Td.blkO)) (gb.app hB C).term ⟨.ext xx,⟨Ft,ct,gj,rfl⟩⟩
   ·exactλu T w' hB hs _ hp=>by
      obtain⟨o1,q1,q2⟩:∃o1,iL 5 w' o1 (u 40) (l2++m1)/\iP wd o3 o1:=hp.1;have q3:Is W (u 42) y.term:=hp.2.1;refine(U3 6 q1 q3 (kU.extW Td.ew hB Td.blkO) (λc hc=>q2.low Td.blkO Td.ew c hc) h1.2 (by rw[hM2,bX];omega)).mono ?_;rintro _ w4 ⟨o4,gQ,gR,hl⟩;rw[hM2]at gQ gR;exact⟨⟨_,o1,gQ.mono (lr _) gP,by rw[bX];omega,q2.imp id λ⟨c,h1,h2⟩=>⟨c,h1,h2,by rw[bX];omega⟩⟩,o4,gR,iP.of q2 hl hs⟩
   ·exactλu T w' hB hs _ _=>LX (n:=1) (vs:=kV [59]) mA uH (zs:=[.int .u8 0]) kK rfl oo oo kK λw2 g5 hn=>⟨.ext g5,_,rfl,hn,hs⟩
   ·exactλu T w' hB hs _ hp=>by
      obtain⟨o1,q1,q2⟩:∃o1,iL 5 w' o1 (u 43) (l2++m1++m2)/\iP wd o3 o1:=hp.1;obtain⟨c,q3,q4,_⟩:∃c,u 44=.slice (some ⟨c,0,none⟩) 1 1/\cA c 5 w' (kV [59])/\wd.heap.size<=c:=hp.2.1;rw[q3];refine KL (m:=[59]) mA uH ES q1 q4 (iD 1) (by rw[bX,bX];simp only[dA,eU];omega) λv3 w3 o3 gf gg gt=>?_;have eL:l2++m1++m2++[59]=l2++(m1++m2++[59]):=by simp
      rw[eL]at gf gg;exact⟨⟨_,o1,gf,by rw[fR,bX];omega,q2.imp id λ⟨c,h1,h2⟩=>⟨c,h1,h2,by rw[fR,bX,bX];omega⟩⟩,o3,gg,iP.of q2 gt hs⟩
   exactλu T w' hB hs _ hp=>⟨.ext xx,hp.1⟩
  intro u T w4 hB hs _ gx;obtain⟨o4,q1,q2⟩:∃o1,iL 5 w4 o1 (u 0) (l2++(m1++m2++[59]))/\iP wd o3 o1:=gx.2.2.2.2.2.2.2.2.2.2.1;rw[gs]at hB q1;have S4:=Td.next hB q1 q2
  refine S4.lit (b:=10) (by simp only[bX,dA,eU,pY];omega) λv8 w8 o8 S8=>aU ?_;obtain⟨x',o',q⟩:=fin S8 (by rw[D];simp);exact⟨m-1,oo,k+1,oo,x',o',q⟩
 refine have gl:(y.kind=2\/y.kind=3)->_:=?gl;bI (br (λgy=>gl (.inl gy)) λgy=>bI (br (λgz=>gl (.inr gz)) λgz=>?rest))
 case gl=>
   intro gA
   obtain⟨m',gB,hr,ht,hv⟩:∃m,m+1=n/\fK 6 y.term=true/\(∀z∈y.body,SH m z)/\(∀z∈y.els,SH m z):=by
     cases n with
     |zero=>rcases gi.zero with q|q|q|q<;>(have:=q.1;omega)
     | succ m=>
       rcases gi.succ with h|⟨h1,h2,h3,h4,h5⟩
       ·rcases h with q|q|q|q<;>(have:=q.1;omega)
       exact⟨m,rfl,h3,h4,h5⟩
   have D:lM n b y=List.replicate b 32++((aW (lR y.kind)++(32 :: (fN 6 y.term++(xE (lM m') b y.body++(if y.els.length=0 then[]else 32 :: (aW tM++xE (lM m') b y.els))))))++[10]):=by
     rw[V,Gu gA,gr m' gB]
   obtain⟨kn,gC,gD⟩:∃kn:Nat,y.kind=kn/\kn<9:=⟨y.kind.toNat,oo,oo⟩;have hx:=XC y.kind;have hz:=dO (lR y.kind);obtain⟨e5,g0⟩:=gb.b;generalize World.drew1 w3=wd at *;refine XR.mk (λc=>o3=some c)<|sU vZ<|zW aG (u:=iV y.kind) (λj u hj=>?_) (λe=>C e) ?_
   ·match j,hj with
    |0,hj=>simp only[List.getElem?_cons_zero,iU]at hj;subst hj;exact g0.range 0 _ rfl
    |j+1,hj=>simp at hj
   refine sU sS<|ny dK gj Td.ew gb.term (λe=>C e) (λc hc=>Td.blkO c hc) ?_;have O:aJ tp 105 [iV y.kind] wd λr w'=>aB wd w'/\r=.string (lR y.kind):=by rw[gC];exact I4 gD
   refine O.mM λw4 gh=>?_;refine⟨gh.toX,?_⟩;have T4:=Td.step gh;have g2:(ByteArray.mk #[32]).size=1:=rfl;have gE:aW (lR y.kind++ByteArray.mk #[32])=aW (lR y.kind)++[32]:=by rw[HF];rfl
   have hlF:(aW (lR y.kind)).length+(fN 6 y.term).length+(xE (lM m') b y.body).length+b+2<=(lM n b y).length:=by
     rw[D];simp only[bX,dA,eU,pY];omega
   refine Bi (by rw[g2];omega)<|TA (s:=lR y.kind++ByteArray.mk #[32]) mA u9 T4.by_ (by rw[lF,g2];simp only[bX,dA,eU,pY];omega) λv5 w5 o5 gS hA hC=>⟨kU.toX gS,?_⟩;have S5:=T4.next gS hA hC
   rw[gE]at S5;refine(U3 6 S5.by_ (⟨Ft,ct,gj,rfl⟩:Is W (fF aD ct) y.term) S5.ew S5.blkO hr (by simp only[bX,dA,eU,pY];omega)).mono ?_;rintro _ _ k6;obtain⟨_,S6⟩:=S5.say k6;obtain⟨_,hD,hF,_⟩:=(g9.keep S6 g3).c6;refine aE rZ<|cX fW hD hF<|(ih m' gB S6.by_ gY S6.ew S6.blkO ht oo (by simp only[bX,dA,eU,pY];omega)).mono ?_;rintro _ w7 k7;obtain⟨o7,S7⟩:=S6.say k7;obtain⟨_,hG,_,hH⟩:=(g9.keep S7 g3).c6;refine aE pU<|cX fW hG hH<|aX fJ gJ<|oN<|br (λhp=>?_) λhp=>?_
   ·rw[aH oo]at D
    have hlG:(aW (lR y.kind)).length+(fN 6 y.term).length+(xE (lM m') b y.body).length+b+(xE (lM m') b y.els).length+7=(lM n b y).length:=by
      have:(aW tM).length=4:=rfl;rw[D];simp only[bX,dA,eU,pY];omega
    have gF:o7≠some w1.heap.size:=λe=>by
      rcases S7.fr with q|⟨c,q,hc⟩
      ·exact g3 (q▸e)
      rw[e]at q;cases q;omega
    have T7:=S7.step (cO w7);obtain⟨_,hI,_,hJ⟩:=(g9.keep T7 g3).c6;generalize World.drew1 w7=we at *;refine XR.mk (λc=>o7=some c)<|sU pU<|zW fW (u:=ve) (λj u hj=>?_) (λe=>gF e) ?_
    ·match j,hj with
     |0,hj=>simp only[List.getElem?_cons_zero,iU]at hj;subst hj;exact hI.range 7 _ hJ
     |j+1,hj=>simp at hj
    have gG:(ByteArray.mk #[32,101,108,115,101]).size=5:=rfl;have hK:aW (ByteArray.mk #[32,101,108,115,101])=32 :: aW tM:=rfl;refine TA (s:=ByteArray.mk #[32,101,108,115,101]) mA u9 T7.by_ (by rw[gG];simp only[bX,dA,eU,pY];omega) λ_ _ _ gT hL hM=>⟨kU.toX gT,?_⟩;have S9:=T7.next gT hL hM
    have hN:(aW (ByteArray.mk #[32,101,108,115,101])).length=5:=rfl;refine(ih m' gB S9.by_ gJ S9.ew S9.blkO hv oo (by simp only[bX,dA,eU,pY];omega)).mono ?_;rintro _ _ hO;obtain⟨_,S10⟩:=S9.say hO;refine S10.lit (b:=10) (by simp only[bX,dA,eU,pY];omega) λv8 w8 o8 S8=>aU ?_;obtain⟨x',o',q⟩:=fin S8 (by rw[D,hK];simp);exact⟨m-1,oo,k+1,oo,x',o',q⟩
   rw[aP oo]at D;refine S7.lit (b:=10) (by simp only[bX,dA,eU,pY];omega) λv8 w8 o8 S8=>aU ?_;obtain⟨x',o',q⟩:=fin S8 (by rw[D];simp);exact⟨m-1,oo,k+1,oo,x',o',q⟩
 case rest=>
   refine bI<|br (λgn=>?_) λgn=>?_
   ·have D:lM n b y=List.replicate b 32++((aW (lR 8)++[59])++[10]):=by
      rw[V];unfold BC;rw[aH gd,aH oo,aP gn]
    have hw:aW (ByteArray.mk #[115,107,105,112,59])=aW (lR 8)++[59]:=rfl;have gG:(ByteArray.mk #[115,107,105,112,59]).size=5:=rfl;have hN:(aW (ByteArray.mk #[115,107,105,112,59])).length=5:=rfl;refine T1.str (s:=ByteArray.mk #[115,107,105,112,59]) u9 (by rw[gG];simp only[bX,dA,eU,pY];omega) λv5 w5 o5 S5=>S5.lit (b:=10) (by simp only[bX,dA,eU,pY];omega) λv8 w8 o8 S8=>aU ?_;obtain⟨x',o',q⟩:=fin S8 (by rw[D,hw];simp);exact⟨m-1,oo,k+1,oo,x',o',q⟩
   obtain⟨hP,_,_⟩:cK y.name=true/\4<=y.kind/\y.kind<=7:=by
     rcases gi.one with q|q|q|q|q
     ·exact absurd q.1 gd
     ·exact⟨q.2.1,oo,oo⟩
     ·exact absurd q.1 gn
     ·exact absurd q.1 gy
     exact absurd q.1 gz
   have D:lM n b y=List.replicate b 32++((aW (lR y.kind)++(32 :: (aW y.name++[59])))++[10]):=by
     rw[V];unfold BC;rw[aH gd,aH oo,aH gn]
   obtain⟨kn,gC,gD⟩:∃kn:Nat,y.kind=kn/\kn<9:=⟨y.kind.toNat,oo,oo⟩;have hx:=XC y.kind;have hz:=dO (lR y.kind);have hQ:=Ey hP;have hnl:=dO y.name;obtain⟨e5,g0⟩:=gb.b;generalize World.drew1 w3=wd at *;refine XR.mk (λc=>o3=some c)<|sU vZ<|zW aG (u:=iV y.kind) (λj u hj=>?_) (λe=>C e) ?_
   ·match j,hj with
    |0,hj=>simp only[List.getElem?_cons_zero,iU]at hj;subst hj;exact g0.range 0 _ rfl
    |j+1,hj=>simp at hj
   refine sU oB<|zW cG (u:=.string y.name) (λj u hj=>?_) (λe=>C e) ?_
   ·match j,hj with
    |0,hj=>simp only[List.getElem?_cons_zero,iU]at hj;subst hj;exact g0.range 1 _ rfl
    |j+1,hj=>simp at hj
   have O:aJ tp 105 [iV y.kind] wd λr w'=>aB wd w'/\r=.string (lR y.kind):=by rw[gC];exact I4 gD
   refine O.mM λw4 gh=>?_;refine⟨gh.toX,?_⟩;have g2:(ByteArray.mk #[32]).size=1:=rfl;have gU:(ByteArray.mk #[59]).size=1:=rfl
   have gE:aW (lR y.kind++ByteArray.mk #[32]++y.name++ByteArray.mk #[59])=aW (lR y.kind)++(32 :: (aW y.name++[59])):=by
     rw[HF,HF,HF];show aW (lR y.kind)++[32]++aW y.name++[59]=_;simp
   refine Bi (by rw[g2];omega)<|Bi (by rw[lF,g2];omega)<|Bi (by rw[lF,lF,g2,gU];omega)<|(Td.step gh).str (s:=lR y.kind++ByteArray.mk #[32]++y.name++ByteArray.mk #[59]) u9 (by rw[lF,lF,lF,g2,gU];simp only[bX,dA,eU,pY];omega) λv5 w5 o5 S5=>?_;rw[gE]at S5;refine S5.lit (b:=10) (by simp only[bX,dA,eU,pY];omega) λv8 w8 o8 S8=>aU ?_;obtain⟨x',o',q⟩:=fin S8 (by rw[D];simp);exact⟨m-1,oo,k+1,oo,x',o',q⟩
theorem qy(n:Nat):Kt n:=by
 induction n with
 |zero=>exact r9 λm h=>oo
 |succ n ih=>exact r9 λm h=>by obtain rfl:m=n:=oo;exact ea ih
def uy{t:aA} (h0:Is W0 v0 t)(e0:aB W0 w)(hr:Cc t) :
   aJ tp 247 [v0] w λr w'=>aB w w'/\(r=.bool true):=by
 refine co (g:=kf [] [] []) Tryz.func247 ?_
 have V:t.kind≠2->t.kind≠3->t.body=[]/\t.els=[]:=λ_ _=>by
   rcases hr with⟨k1,k2,k3,k4,k5⟩|⟨k1,k2,k3,k4,k5⟩|⟨k1,k2,k3,k4,k5⟩|⟨k1,k2,k3⟩|⟨k1,k2,k3,k4⟩
   ·exact⟨k4,k5⟩
   ·exact⟨k4,k5⟩
   ·exact⟨k4,k5⟩
   ·omega
   omega
 refine lA fB rfl h0 e0 λZ y1 C _=>aE sS<|aL dK (wV C) xx λ_ h5=>fI (cells:=#[iV 0,iV 0,.string ByteArray.empty,.slice none 0 0]) kK ?_;have o6:aK (α:=aD) Z.heap.size Z.heap.size Z (.agg #[iV 0,iV 0,.string ByteArray.empty,.slice none 0 0]) aV.zv:=Sj;refine(Zl h5 xx o6.is xx rfl).mM λ_ y2=>aE vZ<|aS aG (yI C) y2 λ_=>bI<|br (λc1=>?_) λc1=>?_
 ·refine aE oB ?_;refine eV cG (qF C) y2 λ_=>(LN ).mM λ_ y3=>bW (λc2=>?_) λc2=>?_
  ·refine aE sS ?_;refine aL dK (wV C) xx λ_ g3=>(SC g3 xx).mM λ_ y4=>bW (λc3=>?_) λc3=>?_
   ·refine aE rZ ?_;refine aL fW (AO C) xx λ_ g4=>aX fJ g4<|aE pU<|aL fW (yC C) xx λ_ g5=>aX fJ g5<|rQ (by obtain⟨q1,q2⟩:=V oo oo;rw[q1,q2];simp[bR])<|bI<|⟨xx,?_⟩;rcases hr with⟨k1,k2,k3,k4,k5⟩|⟨k1,k2,k3,k4,k5⟩|⟨k1,k2,k3,k4,k5⟩|⟨k1,k2,k3⟩|⟨k1,k2,k3,k4⟩<;>first|(exfalso;omega)|simp_all
   refine⟨xx,?_⟩;rcases hr with⟨k1,k2,k3,k4,k5⟩|⟨k1,k2,k3,k4,k5⟩|⟨k1,k2,k3,k4,k5⟩|⟨k1,k2,k3⟩|⟨k1,k2,k3,k4⟩<;>first|(exfalso;omega)|simp_all
  refine⟨xx,?_⟩;rcases hr with⟨k1,k2,k3,k4,k5⟩|⟨k1,k2,k3,k4,k5⟩|⟨k1,k2,k3,k4,k5⟩|⟨k1,k2,k3⟩|⟨k1,k2,k3,k4⟩<;>first|(exfalso;omega)|simp_all
 refine bI<|br (λc4=>?_) λc4=>?_
 ·refine aE oB ?_;refine eV cG (qF C) y2 λ_=>eX<|br (λc5=>?_) λc5=>?_
  ·refine aE sS ?_;refine aL dK (wV C) y2 λ_ g9=>(SC g9 y2).mM λ_ y5=>?_;refine⟨xx,?_⟩;rcases hr with⟨k1,k2,k3,k4,k5⟩|⟨k1,k2,k3,k4,k5⟩|⟨k1,k2,k3,k4,k5⟩|⟨k1,k2,k3⟩|⟨k1,k2,k3,k4⟩<;>first|(exfalso;omega)|simp_all
  refine⟨xx,?_⟩;rcases hr with⟨k1,k2,k3,k4,k5⟩|⟨k1,k2,k3,k4,k5⟩|⟨k1,k2,k3,k4,k5⟩|⟨k1,k2,k3⟩|⟨k1,k2,k3,k4⟩<;>first|(exfalso;omega)|simp_all
 refine bI<|br (λc6=>?_) λc6=>?_
 ·refine aE oB ?_;refine eV cG (qF C) y2 λ_=>eX<|br (λc7=>?_) λc7=>?_
  ·refine aE sS ?_;refine aL dK (wV C) y2 λ_ gb=>(SC gb y2).mM λ_ y6=>bW (λc8=>?_) λc8=>?_
   ·refine aE pU ?_;refine aL fW (yC C) xx λ_ gc=>aX fJ gc<|bI<|⟨xx,?_⟩;rcases hr with⟨k1,k2,k3,k4,k5⟩|⟨k1,k2,k3,k4,k5⟩|⟨k1,k2,k3,k4,k5⟩|⟨k1,k2,k3⟩|⟨k1,k2,k3,k4⟩<;>first|(exfalso;omega)|simp_all
   refine⟨xx,?_⟩;rcases hr with⟨k1,k2,k3,k4,k5⟩|⟨k1,k2,k3,k4,k5⟩|⟨k1,k2,k3,k4,k5⟩|⟨k1,k2,k3⟩|⟨k1,k2,k3,k4⟩<;>first|(exfalso;omega)|simp_all
  refine⟨xx,?_⟩;rcases hr with⟨k1,k2,k3,k4,k5⟩|⟨k1,k2,k3,k4,k5⟩|⟨k1,k2,k3,k4,k5⟩|⟨k1,k2,k3⟩|⟨k1,k2,k3,k4⟩<;>first|(exfalso;omega)|simp_all
 refine bI<|br (λc9=>?_) λc9=>?_
 ·refine aE oB ?_;refine eV cG (qF C) y2 λD=>(LN ).mM λ_ y7=>bW (λgd=>?_) λgd=>?_
  ·refine br (λgf=>?_) λgf=>?_
   ·refine aE rZ ?_;refine aL fW (AO C) xx λg1 M=>aX fJ M<|aE pU<|aL fW (yC C) xx λg2 O=>aX fJ O<|rQ (by obtain⟨q1,q2⟩:=V oo oo;rw[q1,q2];simp[bR])<|bI<|⟨xx,?_⟩;rcases hr with⟨k1,k2,k3,k4,k5⟩|⟨k1,k2,k3,k4,k5⟩|⟨k1,k2,k3,k4,k5⟩|⟨k1,k2,k3⟩|⟨k1,k2,k3,k4⟩<;>first|(exfalso;omega)|simp_all
   refine⟨xx,?_⟩;rcases hr with⟨k1,k2,k3,k4,k5⟩|⟨k1,k2,k3,k4,k5⟩|⟨k1,k2,k3,k4,k5⟩|⟨k1,k2,k3⟩|⟨k1,k2,k3,k4⟩<;>first|(exfalso;omega)|simp_all
  refine⟨xx,?_⟩;rcases hr with⟨k1,k2,k3,k4,k5⟩|⟨k1,k2,k3,k4,k5⟩|⟨k1,k2,k3,k4,k5⟩|⟨k1,k2,k3⟩|⟨k1,k2,k3,k4⟩<;>first|(exfalso;omega)|simp_all
 refine bI<|br (λgg=>?_) λgg=>?_
 ·refine aE oB ?_;refine eV cG (qF C) y2 λD=>(LN ).mM λ_ y8=>bW (λgh=>?_) λgh=>?_
  ·refine br (λgi=>?_) λgi=>?_
   ·refine aE rZ ?_;refine aL fW (AO C) xx λg1 M=>aX fJ M<|aE pU<|aL fW (yC C) xx λg2 O=>aX fJ O<|rQ (by obtain⟨q1,q2⟩:=V oo oo;rw[q1,q2];simp[bR])<|bI<|⟨xx,?_⟩;rcases hr with⟨k1,k2,k3,k4,k5⟩|⟨k1,k2,k3,k4,k5⟩|⟨k1,k2,k3,k4,k5⟩|⟨k1,k2,k3⟩|⟨k1,k2,k3,k4⟩<;>first|(exfalso;omega)|simp_all
   refine⟨xx,?_⟩;rcases hr with⟨k1,k2,k3,k4,k5⟩|⟨k1,k2,k3,k4,k5⟩|⟨k1,k2,k3,k4,k5⟩|⟨k1,k2,k3⟩|⟨k1,k2,k3,k4⟩<;>first|(exfalso;omega)|simp_all
  refine⟨xx,?_⟩;rcases hr with⟨k1,k2,k3,k4,k5⟩|⟨k1,k2,k3,k4,k5⟩|⟨k1,k2,k3,k4,k5⟩|⟨k1,k2,k3⟩|⟨k1,k2,k3,k4⟩<;>first|(exfalso;omega)|simp_all
 refine bI<|br (λgj=>?_) λgj=>?_
 ·refine aE oB ?_;refine eV cG (qF C) y2 λD=>(LN ).mM λ_ y9=>bW (λgl=>?_) λgl=>?_
  ·refine br (λgn=>?_) λgn=>?_
   ·refine aE rZ ?_;refine aL fW (AO C) xx λg1 M=>aX fJ M<|aE pU<|aL fW (yC C) xx λg2 O=>aX fJ O<|rQ (by obtain⟨q1,q2⟩:=V oo oo;rw[q1,q2];simp[bR])<|bI<|⟨xx,?_⟩;rcases hr with⟨k1,k2,k3,k4,k5⟩|⟨k1,k2,k3,k4,k5⟩|⟨k1,k2,k3,k4,k5⟩|⟨k1,k2,k3⟩|⟨k1,k2,k3,k4⟩<;>first|(exfalso;omega)|simp_all
   refine⟨xx,?_⟩;rcases hr with⟨k1,k2,k3,k4,k5⟩|⟨k1,k2,k3,k4,k5⟩|⟨k1,k2,k3,k4,k5⟩|⟨k1,k2,k3⟩|⟨k1,k2,k3,k4⟩<;>first|(exfalso;omega)|simp_all
  refine⟨xx,?_⟩;rcases hr with⟨k1,k2,k3,k4,k5⟩|⟨k1,k2,k3,k4,k5⟩|⟨k1,k2,k3,k4,k5⟩|⟨k1,k2,k3⟩|⟨k1,k2,k3,k4⟩<;>first|(exfalso;omega)|simp_all
 refine bI<|br (λgp=>?_) λgp=>?_
 ·refine aE oB ?_;refine eV cG (qF C) y2 λD=>(LN ).mM λ_ g0=>bW (λgq=>?_) λgq=>?_
  ·refine br (λgr=>?_) λgr=>?_
   ·refine aE rZ ?_;refine aL fW (AO C) xx λg1 M=>aX fJ M<|aE pU<|aL fW (yC C) xx λg2 O=>aX fJ O<|rQ (by obtain⟨q1,q2⟩:=V oo oo;rw[q1,q2];simp[bR])<|bI<|⟨xx,?_⟩;rcases hr with⟨k1,k2,k3,k4,k5⟩|⟨k1,k2,k3,k4,k5⟩|⟨k1,k2,k3,k4,k5⟩|⟨k1,k2,k3⟩|⟨k1,k2,k3,k4⟩<;>first|(exfalso;omega)|simp_all
   refine⟨xx,?_⟩;rcases hr with⟨k1,k2,k3,k4,k5⟩|⟨k1,k2,k3,k4,k5⟩|⟨k1,k2,k3,k4,k5⟩|⟨k1,k2,k3⟩|⟨k1,k2,k3,k4⟩<;>first|(exfalso;omega)|simp_all
  refine⟨xx,?_⟩;rcases hr with⟨k1,k2,k3,k4,k5⟩|⟨k1,k2,k3,k4,k5⟩|⟨k1,k2,k3,k4,k5⟩|⟨k1,k2,k3⟩|⟨k1,k2,k3,k4⟩<;>first|(exfalso;omega)|simp_all
 refine bI<|br (λgs=>?_) λgs=>?_
 ·refine aE oB ?_;refine eV cG (qF C) y2 λ_=>eX<|br (λgt=>?_) λgt=>?_
  ·refine br (λgx=>?_) λgx=>?_
   ·refine aE rZ ?_;refine aL fW (AO C) y2 λ_ gy=>aX fJ gy<|aE pU<|aL fW (yC C) y2 λ_ gz=>aX fJ gz<|rQ (by obtain⟨q1,q2⟩:=V oo oo;rw[q1,q2];simp[bR])<|bI<|⟨xx,?_⟩;rcases hr with⟨k1,k2,k3,k4,k5⟩|⟨k1,k2,k3,k4,k5⟩|⟨k1,k2,k3,k4,k5⟩|⟨k1,k2,k3⟩|⟨k1,k2,k3,k4⟩<;>first|(exfalso;omega)|simp_all
   refine⟨xx,?_⟩;rcases hr with⟨k1,k2,k3,k4,k5⟩|⟨k1,k2,k3,k4,k5⟩|⟨k1,k2,k3,k4,k5⟩|⟨k1,k2,k3⟩|⟨k1,k2,k3,k4⟩<;>first|(exfalso;omega)|simp_all
  refine⟨xx,?_⟩;rcases hr with⟨k1,k2,k3,k4,k5⟩|⟨k1,k2,k3,k4,k5⟩|⟨k1,k2,k3,k4,k5⟩|⟨k1,k2,k3⟩|⟨k1,k2,k3,k4⟩<;>first|(exfalso;omega)|simp_all
 refine⟨xx,?_⟩;rcases hr with⟨k1,k2,k3,k4,k5⟩|⟨k1,k2,k3,k4,k5⟩|⟨k1,k2,k3,k4,k5⟩|⟨k1,k2,k3⟩|⟨k1,k2,k3,k4⟩<;>first|(exfalso;omega)|simp_all
def Mf(n:Nat)(l:List aA):Prop:=∀{w W:wD}{v:vL}{d:Int},Is W v l->aB W w->(∀x∈l,SH n x)->(n:Int)<=d->d<=6 ->
 aJ tp 184 [v,iV d] w λr w'=>aB w w'/\r=.bool true
def Zu{l:List aA}(ih:∀ m l,m+1=n->Mf m l):Mf n l:=by
 intro w _ _ _ h e hs _ _;have:=fD h;refine co (g:=kf [(6,66846848,[7])] [(2,36028797018963952,[5])] []) Tryz.func184 ?_;refine bV l.length (λk us w'=>us=[iV k]/\aB w w'/\k<=l.length) 0 (z0 _) ⟨rfl,xx,vS _⟩ ?_;rintro k m _ _ _ ⟨hu,D,_⟩;try replace hu:=cJ hu
 rw[hu];refine aX fJ h<|bM<|br (λ_=>?_) λ_=>?_
 ·have hk:k<l.length:=oo;obtain⟨x,hx⟩:∃x,x=l[k]:=⟨_,rfl⟩;have g3:SH n x:=by rw[hx];exact hs _ (cY hk)
  refine bC fJ fB h hk λ_ _ g0=>?_;rw[<-hx]at g0;refine aL fB g0 (e.trans D) λ_ gb=>mB zX rfl fB rfl gb (e.trans D) λw2 g4 g2 gc=>dJ.mk (λus w'=>us=[.bool (decide (x.kind=2\/x.kind=3))]/\aB w2 w') ?_ ?_
  ·refine aE vZ ?_;refine aS aG (yI g2) xx λhI=>bI<|br (λh2=>?_) λh2=>?_
   ·exact⟨by rw[decide_eq_true (.inl h2)],xx⟩
   refine aE vZ<|aS aG (yI g2) xx λhI=>bI<|⟨by simp[h2],xx⟩
  rintro _ _ ⟨hu,g5⟩;try replace hu:=cJ hu
  rw[hu];refine pX gc g5<|(uy gb ((e.trans D).trans xx) g3.one).mM λ_ gd=>?_;have C:=g5.t gd;refine dG<|bW (λhc=>by simp at hc) λ_=>?_;refine gbr (λhm=>?_) λhm=>?_
  ·have:0<n:=by
     rcases Af n with h0|h0
     ·subst h0;rcases g3.zero with q|q|q|q<;>(have:=q.1;omega)
     exact h0
   have g1:(∀y∈x.body,SH (n-1) y)/\∀y∈x.els,SH (n-1) y:=by
     obtain⟨q,rfl⟩:∃q,n=q+1:=⟨n-1,oo⟩;rcases g3.succ with h|⟨_,_,_,h4,h5⟩
     ·exfalso;rcases h with q|q|q|q<;>(have:=q.1;omega)
     exact⟨h4,h5⟩
   refine bI<|br (λhc=>oo) λ_=>?_;refine gbr (λ_=>?_) (λhc=>absurd hm hc);refine aE rZ<|aL fW (AO g2) C λ_ gf=>kQ io<|(ih (n-1) _ oo gf C g1.1 oo oo).mM λ_ g9=>dG<|XQ (λhc=>by simp at hc) λ_=>?_;refine aE pU<|aL fW (yC g2) xx λ_ gg=>kQ io<|(ih (n-1) _ oo gg xx g1.2 oo oo).mM λ_ gh=>dG<|bW (λhc=>by simp at hc) λ_=>?_;refine aU<|⟨m-1,oo,k+1,oo,rfl,xx,oo⟩
  refine gbr (λhc=>absurd hc hm) λ_=>?_;refine aU<|⟨m-1,oo,k+1,oo,rfl,xx,oo⟩
 exact⟨D,rfl⟩
theorem Qb:∀(n:Nat)(l:List aA),Mf n l
 |0,l=>Zu (n:=0) (l:=l) (λm l h=>absurd h oo)
 | n + 1, l => Zu (n := n + 1) (l := l) λm l h => by
     obtain rfl:m=n:=oo;exact Qb m l
def ki{l:List aA}(h:Is W v l)(e:aB W w)(hb:(∀ y∈l,SH 6 y)/\cM l<=60):aJ tp 102 [v] w λr w'=>aB w w'/\r=.bool true:=by
 refine co (g:=kf [] [] []) Tryz.func102 ?_;refine(Sn l h e oo oo).mM λ_ g0=>pD ?_;have:=(QF l 60).1 (by have:=hb.2;omega);refine br (λ_=>?_) (λ_=>by have:=hb.2;omega);refine(Qb 6 l h (e.trans g0) hb.1 oo oo).mM λ_ g1=>?_;exact⟨xx,rfl⟩
def Sz{p:aY}(h:Is W v p)(e:aB W w)(hn:p.P.length<=1000):aJ tp 54 [v] w λr w'=>aB w w'/\eG w.heap.size w' r (p.P.map aQ.name):=by
 refine co (g:=kf [] [(3,4194264,[3,4])] []) Tryz.func54 ?_;refine iR h e λw1 g1 hA=>?_;have:=g1.size;refine pR (α:=ByteArray) cL cG λv5 w2 g2 r5=>?_;have:=g2.size
 refine bV p.P.length (λk us w'=>∃v hi,us=[v,iV k]/\k<=p.P.length/\aB w1 w'/\bQ w2.heap.size hi 9 w' v ((p.P.take k).map aQ.name)/\hi<=w'.heap.size/\w2.heap.size<=hi) 0 (z0 _)
   ⟨.slice (some v5) 0 0,w2.heap.size,rfl,z0 _,g2,r5,lr _,iD _⟩ ?_
 rintro k m _ w3 _ ⟨_,hi,hu,_,C,r3,_,_⟩;obtain⟨g4,g5⟩:=dQ hu;rw[g4,g5];refine aE qW<|aL qY (uV hA) C λ_ h8=>aX pW h8<|bM<|br (λ_=>?_) λ_=>?_
 ·have hk:k<p.P.length:=oo;refine aE qW<|aL qY (uV hA) C λ_ g9=>bC pW pO g9 hk λ_ _ g0=>aE NE<|eV cG (OB g0) C λhS=>oS (α:=ByteArray) (lo2:=w3.heap.size) (hi2:=w3.heap.size) cL cG z9 JP dD r3 oo (Dl hS) oo oo (by rw[eB,kL,fY];omega) (by rw[kL,fY];omega) λgb w4 g3 r4=>?_;have:=g3.size;refine aU<|⟨m-1,oo,k+1,oo,gb,w4.heap.size,rfl,oo,aB.xI C g3 oo,?_,lr _,oo⟩;rw[tk hk,wJ];exact r4
 refine⟨xx,?_⟩;rw[iO oo]at r3;exact r3.own.own.mono oo
def B4{l o:List ByteArray}(h:Is W vk l)(e:aB W w)(hr:dU F 9 w vo o)(hn:F.Nodup)(hs:s.size<=maxLen)(ho:o.length<=1000000) :
   aJ tp 196 [vo,vk,.string s] w λr w'=>∃F' o',eO F w o (s∈l) 1 r F' o' w':=by
 refine co (g:=kf [] [] []) Tryz.func196 ?_;have hR:=eO.refl hr hn;refine(ZY h e).mM λ_ g0=>br (λhm=>⟨F,o,(hR.ext g0).more oo (by simp[hm])⟩) λhm=>(ZY hr.own.is g0).mM λ_ g2=>?_;have hx:=g0.t g2;have h2:=hR.ext hx;refine br (λg1=>⟨F,o,h2.chg,h2.row,h2.nd,h2.sub,⟨λh=>absurd g1 (by rw[h];simp),λh=>h.1⟩,oo⟩) (λg1=>?_);refine CT (β:=ByteArray) (G:=F) cL cG z9 JP dD h2.row h2.nd (Jm hs) ss (by rw[eB];omega) oo (λ_ _ _ F4 g3 g4 g5 g9 gb=>?_) λ_ w' _ h'=>h';refine⟨F4,o++[s],(h2.chg.trans (g3.chg F)).trans g4,g5,g9,λc hc=>?_,?_,ss⟩
 ·rcases gb c hc with h|h|h
  ·exact .inl h
  ·cases h
  exact .inr (eH h2.chg.size h)
 simp[hm]
def VT(p:aY)(n:Nat)(l:List aA):Prop:=∀{w W W':wD}{v vp vo:vL}{F:List Nat}{o:List ByteArray},Is W vp p->aB W w->Is W' v l->aB W' w->dU F 9 w vo o->F.Nodup->(∀b∈F,W.heap.size<=b)->(∀b∈F,W'.heap.size<=b)->(∀x∈l,SH n x)->o.length+66*cM l<=1000000 ->
 aJ tp 120 [vp,v,vo] w λr w'=>∃F' o',eO F w o (∀x∈l,dH (xH p) n x) (66*cM l) r F' o' w'
def zof{p:aY}:VT p n []:=by
 intro _ _ _ _ _ vo F o hP eP h _ hr hn _ _ _ _;refine co (g:=kf [(14,562949951324164,[2]),(20,604462909244364633933316,[2])] [(2,618970019642690137449561988,[2,7]),(17,604426016319167168250884,[2,10])] [(13,[0,1,3,4,2,5,6],4),(19,[0,1,2,3,4,5,6,7,8],0)]) Tryz.func120 ?_;refine iR hP eP λw0 g0 _=>bV 0 (λk us w'=>us=[vo,iV k]/\w'=w0) 0 (z0 _) ⟨rfl,rfl⟩ ?_;rintro k _ _ _ _ ⟨hu,rfl⟩;obtain⟨g1,g2⟩:=dQ hu;rw[g1,g2];refine aX fJ h<|bM<|br (λg3=>by simp at g3;omega) (λ_=>⟨F,o,((eO.refl hr hn).ext g0).more oo ss⟩)
def I3{p:aY}{l:List aA}(hC:p.P.length<=1000)(ih:∀ m l,m+1=n->VT p m l):VT p n l:=by
 intro w _ _ _ _ vo F o hP eP h e hr hn gU gV hs _;have:=fD h;refine co (g:=kf [(14,562949951324164,[2]),(20,604462909244364633933316,[2])] [(2,618970019642690137449561988,[2,7]),(17,604426016319167168250884,[2,10])] [(13,[0,1,3,4,2,5,6],4),(19,[0,1,2,3,4,5,6,7,8],0)]) Tryz.func120 ?_;refine lA kT rfl hP eP λw0 gs _ gW=>?_;have g9:=hr.lt;have gX:w.heap.size∉F:=λhm=>by have:=g9 _ hm;omega
 have gb:=gW.lt;have gA:=uT hP gW rfl;have hg:dU F 9 w0 vo o:=hr.keep λc hc=>gs.heap (g9 c hc);have gY:=eP.trans gs;have e0:=e.trans gs;refine bV l.length (λk us w'=>∃v1 F1 o1 b,us=[v1,iV k]/\eO F w0 o (∀x∈l.take k,dH (xH p) n x) b v1 F1 o1 w'/\k<=l.length/\b+66*cM (l.drop k)<=66*cM l) 0 (z0 _) ⟨vo,F,o,0,rfl,(eO.refl hg hn).more (lr _) ss,z0 _,ss⟩ ?_;rintro k m _ w1 _ ⟨v1,F1,o1,b,hu,M,_,hb⟩;obtain⟨gB,gC⟩:=dQ hu;clear hu;rw[gB,gC];have:=M.chg.size;have hj:=M.old gY gU;have e1:=M.old e0 gV;have gD:=gA.keep (M.keep gb gX);have Z:=M.not gb gX;refine aX fJ h<|bM<|br (λhl=>?_) λht=>?_
 rotate_left
 ·have hk:k=l.length:=oo;subst hk;rw[sF]at M;refine⟨F1,o1,(gs.chg F).trans M.chg,M.row,M.nd,λc hc=>(M.sub c hc).imp id λh=>oo,M.iff_,by have:=M.len;omega⟩
 have hk:k<l.length:=oo;obtain⟨x,hx⟩:∃x,x=l[k]:=⟨_,rfl⟩;have gE:SH n x:=by rw[hx];exact hs _ (cY hk)
 obtain⟨hv,hw,gZ,-,-⟩:=gE.kids;have:cM (l.drop k)=fU x+cM (l.drop (k+1)):=by rw[tD hk,cM,hx]
 have:fU x=1+cM x.body+cM x.els:=by cases x;rw[fU];rfl
 have:o1.length+66*fU x<=1000000:=by have:=M.len;omega
 refine bC fJ fB h hk λ_ _ gc=>?_;rw[<-hx]at gc;refine aL fB gc e1 λ_ h6=>mB zX rfl fB rfl h6 e1 λw2 gd gt h8=>?_;have gF:=h8.lt;have gG:=uT h6 h8 rfl;have gH:w1.heap.size∉F1:=λhm=>by have:=M.row.lt _ hm;omega
 have g0:=gD.ext gd;have g1:w.heap.size<w2.heap.size:=oo;have gx:eO F1 w2 o1 True 0 v1 F1 o1 w2:=eO.refl (M.row.keep λc hc=>gd.heap (M.row.lt c hc)) M.nd;have g4:=hj.trans gd;have e2:=e1.trans gd;have lP:=M.low gU gY.size;have ll:=M.low gV e0.size
 have g5:∀{w3 W3:wD}{vk v3:vL}{kn:List ByteArray}{s:ByteArray}{ok:Prop}{b:Nat}{F3:List Nat}{o3:List ByteArray}{K:VW},eO F1 w2 o1 ok b v3 F3 o3 w3->b<=65->Is W3 vk kn->aB W3 w3->s.size<=maxLen ->
     (∀v4 w4 F4 o4,eO F1 w2 o1 (ok/\s∈kn) (b+1) v4 F4 o4 w4->K v4 w4)->aJ tp 196 [v3,vk,.string s] w3 K:=by
   intro w3 W3 vk v3 kn s ok b F3 o3 K hU hb hk hx hz hK;refine(B4 hk hx hU.row hU.nd hz (by have:=hU.len;omega)).mono ?_;rintro v4 w4 ⟨F4,o4,h4⟩;exact hK v4 w4 F4 o4 (hU.trans h4)
 refine dJ.mk (λus w'=>∃v3 F3 o3,us=[v3]/\eO F1 w2 o1 (RK (xH p) x) 1 v3 F3 o3 w') ?_ ?_
 ·have gI:=g0.at g4;refine aE vZ<|aS aG (yI gt) xx λhI=>bI<|br (λh1=>?_) λh1=>?_
  ·refine aE BY ?_;refine aL dC (GF gI) xx λhA gJ=>aE oB<|eV cG (qF gt) xx λhS=>g5 gx oo gJ xx hS λv4 w4 F4 o4 h4=>⟨v4,F4,o4,rfl,h4.more oo ⟨λq=>⟨λ_=>q.2,λ_=>oo,λ_=>oo⟩,λq=>⟨trivial,q.k1 h1⟩⟩⟩
  refine bI<|TD (Q:=x.kind=6\/x.kind=7) .inl (λhQ=>?_) λgy _=>?_
  ·refine aE EY ?_;refine aL dC (IN gI) xx λhA gJ=>aE oB<|eV cG (qF gt) xx λhS=>g5 gx oo gJ xx hS λv4 w4 F4 o4 h4=>⟨v4,F4,o4,rfl,h4.more oo ⟨λq=>⟨λ_=>oo,λ_=>q.2,λ_=>oo⟩,λq=>⟨trivial,q.k6 hQ⟩⟩⟩
  refine bI<|br (λh7=>gy (.inr h7)) λh7=>?_;refine bI<|TD (Q:=x.kind=4\/x.kind=5) .inl (λhQ=>?_) λgK h4=>?_
  ·have gz:=cO w2;refine aL kT gI gz λ_ hB=>aE oB<|eV cG (qF gt) gz λhS=>(Sz hB gz hC).mono ?_;rintro _ w4 ⟨h9,hD⟩;refine⟨h9,?_⟩;refine g5 ((gx.ext gz).ext h9) oo hD.is xx hS λv4 w4 F4 o4 h4=>⟨v4,F4,o4,rfl,h4.more oo ⟨λq=>⟨λ_=>oo,λ_=>oo,λ_=>q.2⟩,λq=>⟨trivial,q.k4 hQ⟩⟩⟩
  refine bI<|br (λh5=>gK (.inr h5)) λh5=>⟨v1,F1,o1,rfl,gx.more oo ⟨λq=>⟨λ_=>oo,λ_=>oo,λ_=>oo⟩,λq=>trivial⟩⟩
 rintro _ w6 ⟨v6,F6,o6,hu,O⟩;try replace hu:=cJ hu
 rw[hu];have hF:=O.old g4 lP;have e6:=O.old e2 ll;have gL:=gG.keep (O.keep gF gH);have gM:=g0.keep (O.keep g1 Z);have g2:=gL.at e6;refine dJ.mk (λus w'=>∃v3 F3 o3,us=[v3]/\eO F1 w2 o1 (RK (xH p) x/\II (xH p) x) 65 v3 F3 o3 w') ?_ ?_
 ·have hG:¬(x.kind=1\/x.kind=2\/x.kind=3)->II (xH p) x:=λhq=>by
    unfold II;rcases gE.one with q|q|q|q|q
    ·have:=q.1;omega
    ·rw[q.2.2.1,XS];simp
    ·rw[q.2.2.1,XS];simp
    ·have:=q.1;omega
    have:=q.1;omega
  refine aE vZ<|aS aG (yI g2) xx λhI=>bI<|TD (Q:=x.kind=1\/x.kind=2\/x.kind=3) .inl (λhQ=>?_) λgy h1=>?_
  ·refine aE sS ?_;refine aL dK (wV g2) xx λ_ hH=>(D0 hH xx).mono ?_;rintro hJ w7 ⟨gf,_,M64,hL⟩;have:=s7 x.term;have:=gf.size;have:=O.chg.size;have ha:∀c∈F6,c<w6.heap.size:=O.row.lt;have hM:eO F6 w7 o6 True 0 v6 F6 o6 w7:=eO.refl (O.row.keep λc hc=>gf.heap (ha c hc)) O.nd;have gN:=gM.ext gf;have hN:=hF.trans gf;have hO:=O.low lP g4.size;have gO:=O.not g1 Z;have:=O.len;refine bV (mN x.term).length (λq us w'=>∃v3 F3 o3,us=[v3,iV q]/\eO F6 w7 o6 (∀s∈(mN x.term).take q,s∈p.B) q v3 F3 o3 w'/\q<=(mN x.term).length) 0 (z0 _) ⟨v6,F6,o6,rfl,hM.more oo ss,vS _⟩ ?_;rintro q mq _ w8 _ ⟨v8,F8,o8,hu,g3,_⟩;obtain⟨gB,gC⟩:=dQ hu;clear hu;rw[gB,gC];have gg:Is w8 hJ (mN x.term):=(M64.keep λc hc=>g3.keep (M64.lt c hc) λhm=>by have:=hL c hc;have:=ha c hm;omega).is;have hR:=g3.old hN hO;have:=g3.len;refine aX cL gg<|bM<|br (λhl=>?_) λht=>?_
   rotate_left
   ·refine⟨v8,F8,o8,rfl,((O.ext gf).trans g3).more oo ?_⟩;rw[iO oo];exact Iff.rfl
   have hq:q<(mN x.term).length:=oo;have gh:=cO w8;refine aE BY<|aL dC (GF ((gN.keep (g3.keep oo gO)).at hR)) gh λ_ hT=>bC cL cG gg hq λ_ _ gQ=>eV cG gQ gh λhS=>(B4 hT (gh) ((g3.ext gh).row) g3.nd hS oo).mono λhV _⟨hW,hX,gR⟩=>aU<|⟨mq-1,oo,q+1,oo,hV,hW,hX,rfl,((g3.ext gh).trans gR).more oo ?_,oo⟩;rw[tk hq];simp only[dF,oY];exact⟨λhh s hs=>hs.elim (hh.1 s) λe=>e▸hh.2,λhh=>⟨λs hs=>hh s (.inl hs),hh _ (.inr rfl)⟩⟩
  refine aE vZ<|aS aG (yI g2) xx λhI=>bI<|br (λh2=>gy (.inr (.inl h2))) λh2=>?_;refine aE vZ<|aS aG (yI g2) xx λhI=>bI<|br (λh3=>gy (.inr (.inr h3))) λh3=>⟨v6,F6,o6,rfl,O.more oo ⟨λq=>⟨q,hG oo⟩,λq=>q.1⟩⟩
 rintro _ _ ⟨_,_,_,hu,C⟩;try replace hu:=cJ hu
 rw[hu];have gi:=C.old g4 lP;have hd:=C.old e2 ll;have:=C.len;have gj:=g0.keep (C.keep g1 Z)
 have he:∀y:List aA,(0<n\/y=[])->VT p (n-1) y:=λy hy=>by
   rcases hy with hy|hy
   ·exact ih (n-1) y oo
   rw[hy];exact zof
 refine rI kT gj gi xx λ_ hY=>aE rZ<|rI fW (PJ (gG.keep (C.keep gF gH))) hd xx λ_ hZ=>(he x.body (gZ.imp id λh=>h.1) hY gi hZ hd C.row C.nd (C.low lP g4.size) (C.low ll e2.size) hv oo).mono ?_;rintro _ _ ⟨_,_,gl⟩;have D:=C.trans gl;have gn:=D.old g4 lP;have hf:=D.old e2 ll;have:=D.len;refine rI kT (g0.keep (D.keep g1 Z)) gn xx λ_ j0=>aE pU<|rI fW (PN (gG.keep (D.keep gF gH))) hf xx λ_ j1=>(he x.els (gZ.imp id λh=>h.2) j0 gn j1 hf D.row D.nd (D.low lP g4.size) (D.low ll e2.size) hw oo).mono ?_;rintro j2 _ ⟨j3,j4,gq⟩;have V:=D.trans gq;refine aU ?_;have j5:=M.trans (⟨(gd.chg F1).trans V.chg,V.row,V.nd,λc hc=>(V.sub c hc).imp id λh=>oo,V.iff_,V.len⟩:eO F1 w1 o1 _ _ _ _ _ _);refine⟨m-1,oo,k+1,oo,j2,j3,j4,_,rfl,j5.more (lr _) ?_,oo,oo⟩;rw[tk hk];simp only[dF,oY,<-hx];have gr:=We (c:=xH p) gE;constructor
 ·rintro⟨q1,⟨⟨q2,q3⟩,q4⟩,q5⟩ y hy;rcases hy with hy|rfl
  ·exact q1 y hy
  exact gr.2 ⟨q2,q3,q4,q5⟩
 intro q;obtain⟨q2,q3,q4,q5⟩:=gr.1 (q x (.inr rfl));exact⟨λy hy=>q y (.inl hy),⟨⟨q2,q3⟩,q4⟩,q5⟩
theorem Wj{p:aY}(g0:p.P.length<=1000):∀(n:Nat)(l:List aA),VT p n l
 |0,l=>I3 (n:=0) (l:=l) g0 (λm l h=>absurd h oo)
 | n + 1, l => I3 (n := n + 1) (l := l) g0 λm l h => by
     obtain rfl:m=n:=oo;exact Wj g0 m l
def Ko{p:aY}(h:Is W v p)(e:aB W w)(hp:vD p):aJ tp 38 [v] w λr w'=>aB w w'/\r=.bool true:=by
 obtain⟨_,f2⟩:=hp.n;refine co (g:=kf [] [(4,35184371040268,[3])] []) Tryz.func38 ?_;refine iR h e λw1 g9 hA=>aE BY<|aL dC (GF hA) xx λ_ h5=>(VE h5 xx).mM λ_ g3=>dG<|bW (λhc=>by rw[hp.gok]at hc;cases hc) (λ_=>?_);refine aE EY<|aL dC (IN hA) g3 λ_ gb=>(VE gb g3).mM λ_ gc=>dG<|bW (λhc=>by rw[hp.lok]at hc;cases hc) (λ_=>?_);have g0:=g3.t gc;refine aE qW<|aL qY (uV hA) g0 λ_ gd=>aX pW gd<|oN<|br (λhc=>oo) λ_=>?_;refine bV p.P.length (λk us w'=>us=[iV k]/\aB w1 w'/\k<=p.P.length) 0 (z0 _) ⟨rfl,g0,vS _⟩ ?_;rintro k m _ w4 _ ⟨hu,C,_⟩;try replace hu:=cJ hu
 rw[hu];refine aE qW<|aL qY (uV hA) C λ_ gf=>aX pW gf<|bM<|br (λ_=>?_) (λ_=>⟨xx,rfl⟩);have hk:k<p.P.length:=oo;have g1:p.P[k]∈p.P:=cY hk;refine aE qW<|aL qY (uV hA) C λ_ gg=>bC pW pO gg hk λ_ _ g4=>aE NE<|eV cG (OB g4) C λ_=>(LN (w:=w4)).mM λ_ g2=>dG<|bW (λhc=>by rw[f2 _ (sT.2 ⟨_,g1,rfl⟩)]at hc;cases hc) (λ_=>?_);refine aE qW<|aL qY (uV hA) xx λ_ gh=>bC pW pO gh hk λ_ _ g5=>aE OZ<|aL fW (UH g5) xx λ_ gi=>(ki gi xx (hp.b _ g1)).mM λ_ gj=>dG<|bW (λhc=>by cases hc) λ_=>?_;refine aU<|⟨m-1,oo,k+1,oo,rfl,xx,oo⟩
def zrS{p:aY}(h:Is W v p)(e:aB W w)(hp:vD p):aJ tp 55 [v] w λr w'=>aB w w'/\∃o:List ByteArray,Is w' r o/\(o=[]↔RI p):=by
 obtain⟨_,_⟩:=hp.n;refine co (g:=kf [] [(3,67108824,[3,4])] [(5,[0,1,2,3,4,5,6,7,8,9],0)]) Tryz.func55 ?_;refine lA kT rfl h e λ_ gd _ gf=>?_;have gg:=uT h gf rfl;have e1:=e.trans gd;refine pR (α:=ByteArray) cL cG λv5 w2 g5 _=>?_;have gh:eO [] w2 [] True 0 (.slice (some v5) 0 0) [] [] w2:=eO.refl (.inl ⟨_,rfl,rfl,rfl⟩) kM;have e2:=e1.trans g5;refine bV p.P.length (λk us w'=>∃v3 F3 o3,us=[v3,iV k]/\eO [] w2 [] (∀x∈p.P.take k,∀y∈x.body,dH (xH p) 6 y) (4000*k) v3 F3 o3 w'/\k<=p.P.length) 0 (z0 _) ⟨_,[],[],rfl,gh.more oo ss,vS _⟩ ?_;rintro k m _ w3 _ ⟨v3,F3,o3,hu,g3,_⟩;obtain⟨gi,gj⟩:=dQ hu;rw[gi,gj];have C:aB w2 w3:=g3.chg.ext;have e3:=e2.trans C;have D:=(gg.ext g5).ext C;refine rI kT D e3 xx λv6 h6=>(Ko h6 e3 hp).mM λw4 M=>?_;have e4:=e3.trans M;have g9:=(D.ext M).at e4;have O:=g3.ext M;refine bW (λ_=>?_) (λhc=>by cases hc);refine aE qW<|aL qY (uV g9) xx λ_ gl=>aX pW gl<|bM<|br (λ_=>?_) λ_=>?_
 rotate_left
 ·refine⟨xx,o3,O.row.own.is,?_⟩;rw[O.iff_,iO oo];exact⟨λh=>h.2,λh=>⟨rfl,h⟩⟩
 have hk:k<p.P.length:=oo;have gb:p.P[k]∈p.P:=cY hk;have g4:=cO w4;have e5:=e4.trans g4;have g0:=(D.ext M).ext g4;refine rI kT g0 e5 xx λ_ gn=>aE qW<|rI qY (Xl g0) e5 xx λ_ gp=>bC pW pO gp hk λ_ _ gc=>aE OZ<|aL fW (UH gc) e5 λ_ gq=>?_;have hb:=hp.b _ gb;have g1:=g3.len;have g2:∀b∈F3,W.heap.size<=b:=g3.low (λ_ hc=>by cases hc) e2.size;refine(Wj oo 6 _ gn e5 gq e5 (O.ext g4).row O.nd g2 g2 hb.1 (by simp at g1;have:=hb.2;omega)).mono ?_;rintro v6 _ ⟨F6,o6,gr⟩;refine aU<|⟨m-1,oo,k+1,oo,v6,F6,o6,rfl,((O.ext g4).trans gr).more (by have:=hb.2;omega) ?_,oo⟩;rw[tk hk];simp only[dF,oY];exact⟨λhh x hx=>hx.elim (hh.1 x) λe=>e▸hh.2,λhh=>⟨λx hx=>hh x (.inl hx),hh _ (.inr rfl)⟩⟩
def Le{p:aY} (h0:Is W0 v0 p)(e0:aB W0 w)  :
   aJ tp 56 [v0,.string s] w λr w'=>aB w w'/\(r=iV (plc s (p.P.map aQ.name))):=by
 refine co (g:=kf [] [(2,4194288,[5])] []) Tryz.func56 ?_;refine lA kT rfl h0 e0 λg0 y1 g1 _=>bV (p.P.length) (λk us w'=>us=[iV k]/\aB g0 w'/\(s∉(p.P.map aQ.name).take k)) (0) oo ⟨ss,xx,ss⟩ ?_;rintro k m2 _ _ _ ⟨hu,y2,C⟩;try replace hu:=cJ hu
 try rw[hu]
 try clear hu
 refine aE qW<|aL qY (uV g1) y2 λ_ h8=>?_;have:=fD h8;refine aX pW h8<|bM<|br (λc1=>?_) λc1=>?_
 ·refine aE qW ?_;refine aL qY (uV g1) y2 λ_ g2=>bC pW pO g2 oo λ_ _ g3=>aE NE<|eV cG (OB g3) y2 λ_=>eX<|br (λc2=>?_) λc2=>?_
  ·refine⟨xx,?_⟩;rw[Bs (k:=k) (by rw[kL];omega) C (by rw[LS];assumption)]
  refine aU<|⟨m2-1,oo,k+1,oo,ss,y2,?_⟩;refine WJ (by rw[kL];omega) C ?_;rw[LS];assumption
 refine⟨xx,?_⟩;rw[Oc (by rw[iO (by rw[kL];omega)]at C;exact C)]
def zrT{p:aY}(h:Is W v p)(e:aB W w)(hp:vD p):aJ tp 20 [v] w λr w'=>aB w w'/\r=iV (qN p):=by
 obtain⟨_,_⟩:=hp.n;refine co (g:=kf [] [] []) Tryz.func20 ?_;refine iR h e λw1 g0 hA=>aL kT hA xx λ_ h4=>(Ko h4 xx hp).mM λ_ g1=>dG<|bW (λhc=>by cases hc) λ_=>?_;refine aE BY<|aL dC (GF hA) g1 λ_ h9=>(QM h9 g1).mM λ_ g9=>?_;have D:=g1.t g9;have g2:∀{w':wD},aB w1 w'->(¬p.B.Nodup\/¬p.L.Nodup\/¬(p.P.map aQ.name).Nodup)->aB w w'/\Value.int .i64 2=iV (qN p):=λhx hq=>⟨xx,by unfold qN;rw[aP hq]⟩;refine TD (Q:=¬p.B.Nodup\/¬p.L.Nodup\/¬(p.P.map aQ.name).Nodup) .inl (λhq=>g2 D hq) λ_ c1=>?_;refine aE EY<|aL dC (IN hA) D λ_ gb=>(QM gb D).mM λ_ gc=>?_;have M:=D.t gc;refine br (λhc=>g2 M (.inr (.inl hc))) λc2=>?_;refine aL kT hA M λ_ gd=>(Sz gd M oo).mono ?_;rintro _ _ ⟨gf,gg⟩;refine(QM gg.is xx).mM λ_ gh=>?_;have O:=M.t (gf.t gh);refine br (λhc=>g2 O (.inr (.inr hc))) λc3=>?_;have g3:¬(¬p.B.Nodup\/¬p.L.Nodup\/¬(p.P.map aQ.name).Nodup):=by simp only[not_or];exact⟨c1,c2,c3⟩
 refine aL kT hA O λ_ gi=>(zrS gi O hp).mono ?_;rintro _ _ ⟨gj,_,gl,ho⟩;have C:=O.t gj;refine aX cL gl<|oN<|br (λhc=>⟨xx,?_⟩) λhc=>?_
 ·unfold qN;rw[aH g3,aP λhk=>by rw[ho.2 hk]at hc;simp at hc]
 have g4:RI p:=ho.1 (qC oo);refine aL kT hA C λ_ gn=>(Le gn C).mM λ_ g5=>bM ?_;have hm:=HQ (s:=uR) (l:=p.P.map aQ.name);refine br (λhc=>⟨xx,?_⟩) (λhc=>⟨xx,?_⟩)
 ·unfold qN;rw[aH g3,aH (by simp only[IG];exact g4),aP λgp=>by have:=hm.2 gp;unfold uR at this;omega]
 unfold qN;rw[aH g3,aH (by simp only[IG];exact g4),aH (by simp only[IG];exact hm.1 (by unfold uR;omega))]
theorem Ye{w:wD}:∀(m:List UInt8),aO [] w (kV m) m
 |[]=>⟨rfl,rfl⟩
 |b :: m=>⟨[],[],[.int .u8 (b.toNat:Int)],_,rfl,rfl,⟨rfl,rfl⟩,Ye m⟩
theorem iL.is{o:Option Nat}{l:List UInt8}(h:iL U w o v l):Is w v l:=by
 cases o with
 | none=>
   obtain⟨⟨a,rfl⟩,rfl⟩:=h;exact⟨[],[.slice a 0 0],⟨a,0,[],[],rfl,lr _,z0 _,⟨rfl,rfl⟩,.inl ⟨rfl,rfl⟩⟩,rfl⟩
 | some b=>
   have g0:=iL.lt h;obtain⟨cap,_,rfl,h1,_,h3,h4,h5⟩:=h;refine⟨[b],[.slice (some ⟨b,0,none⟩) l.length cap],⟨_,cap,[],kV l,rfl,h3,h4,Ye l,.inr ⟨b,0,rfl,rfl,λj _ hj=>?_,g0⟩⟩,rfl⟩;have g1:j<l.length:=by rw[<-VM l];exact(List.getElem?_eq_some_iff.1 hj).1
   have:=(Mx.1 h5).2 j g1;rw[hj]at this;simp[World.cell?,h1,this]
theorem Pl:∀(L:List ByteArray)(f:Bool)(s:ByteArray),tP f (L++[s])=tP f L++((if f=true\/L≠[]then[44]else[])++(32 :: aW s))
 |[],f,s=>by cases f<;>simp[tP]
 |x :: L,f,s=>by rw[sZ,tP,Pl L true s,tP];simp
def Xo{o:Option Nat}{l:List UInt8}{wd:ByteArray}{L:List ByteArray}(h:iL 5 w o v l)(hu:Is W u L)(hW:aB W w)(ho:∀ b,o=some b->W.heap.size<=b)(hn:∀ x∈L,cK x=true)(hL:L.length<=6)(hl:l.length+wd.size<=8000000) :
   aJ tp 39 [v,.string wd,u] w (mX w o l (vN wd L)):=by
 have g3:∀k,(tP false (L.take k)).length<=84:=λk=>by
   have:=RG (L.take k) false λx hx=>hn x (PM hx);have h2:(L.take k).length<=L.length:=by rw[fY];omega
   omega
 refine co (g:=⟨extL,[(7,4063233,[0])],[(3,1073739905,[0,7])],[(7,[0,3,4,5,6,1,2,7,8],6)],[],[7],[]⟩) Tryz.func39 ?_;have hwl:=dO wd;refine (dW.start h hW ho).str (s:=wd) u9 so λv1 _ o1 S1=>bV L.length (λk us w'=>∃x o',us=[x,iV k]/\k<=L.length/\dW W w o l (aW wd++tP false (L.take k)) x w' o') 0 (z0 _) ⟨v1,o1,rfl,z0 _,by simpa[tP]using S1⟩ ?_;rintro k m us _ _ ⟨x,o2,C,_,S2⟩;obtain⟨g4,g5⟩:=dQ C;clear C;rw[g4,g5];have g9:=g3 k;refine aX cL hu<|bM<|br (λ_=>?_) λ_=>?_
 ·have hk:k<L.length:=oo;refine dJ.mk (λus w'=>∃x' o',us=[x']/\dW W w o l (aW wd++tP false (L.take k)++(if 0<k then[44]else[])) x' w' o') ?_ ?_
  ·refine oN ?_;refine br (λhp=>?_) λhp=>?_
   ·refine S2.lit (b:=44) so λv3 w3 o3 S3=>?_;exact⟨v3,o3,rfl,by rw[aP oo];exact S3⟩
   exact⟨x,o2,rfl,by rw[aH oo];simpa using S2⟩
  rintro us w3 ⟨_,o3,C,S3⟩;try replace C:=cJ C
  rw[C];have hif:(if 0<k then[44]else[]:List UInt8).length<=1:=by split<;>simp
  replace S3:=S3.step (cO w3);refine XR.mk (λc=>o3=some c)<|MJ (w0:=W) (λb hb=>S3.blkO b hb) S3.ew (bC (i:=k) cL cG hu hk λb o hA=>?_);refine MJ (w0:=W) (λb hb=>S3.blkO b hb) S3.ew (eV cG hA xx λ_=>?_);have g0:=MA (hn L[k] (cY hk));rw[dO]at g0;refine LX (n:=1) (vs:=kV [32]) mA uH (zs:=[.int .u8 0]) kK rfl oo oo kK λ_ g1 gb=>⟨g1.toX,?_⟩;have S4:=S3.step g1;refine KL (m:=[32]) mA uH ES S4.by_ gb (iD 1) so λ_ _ _ g2 gc gd=>⟨kU.toX g2,?_⟩;have S5:=S4.next g2 gc gd
  refine S5.str (s:=L[k]) u9 so λv6 _ o6 S6=>aU<|⟨m-1,oo,k+1,oo,v6,o6,rfl,oo,?_⟩
  have e:tP false (L.take (k+1))=tP false (L.take k)++((if 0<k then[44]else[])++(32 :: aW L[k])):=by
    rw[tk hk,Pl];congr 2;by_cases h0:0<k
    ·rw[aP h0,aP (.inr λh=>by have:=cS List.length h;rw[fY,eU]at this;omega)]
    rw[aH h0,aH];rintro(h|h)
    ·cases h
    exact h (by rw[show k=0 by omega];rfl)
  rw[e];have e2:aW wd++(tP false (L.take k)++((if 0<k then[44]else[])++(32 :: aW L[k])))=aW wd++tP false (L.take k)++(if 0<k then[44]else[])++[32]++aW L[k]:=by simp
  rw[e2];exact S6
 have hk:k=L.length:=oo;refine S2.lit2 (b:=59) (c:=10) so λv3 w3 o3 S3=>S3.done (by rw[hk,sF];unfold vN;simp)
def DI(p:aY):ByteArray:=if (zR p).length<=6000 then⟨(zR p).toArray⟩else ByteArray.mk #[]
def zk{p:aY}(h:Is W v p)(e:aB W w)(hp:vD p):aJ tp 13 [v] w λr w'=>aB w w'/\r=.string (DI p):=by
 have:=ru hp;refine co (g:=⟨extL,[],[(5,4398046478360,[3,4])],[(3,[1,2,4,5,0,3,6,7],9)],[],[3],[]⟩) Tryz.func13 ?_;refine iR h e λw1 gf hA=>aL kT hA xx λ_ h5=>(Ko h5 xx hp).mM λw2 gg=>dG<|bW (λhc=>by cases hc) λ_=>?_;have gh:=cO w2;have C:=gg.t gh;generalize World.drew1 w2=wd at *;refine XR.mk (λc=>(none:Option Nat)=some c)<|sU BY<|MJ (w0:=w1) (λb hb=>by cases hb) C (aL dC (GF hA) (aC _) λ_ gi=>?_);refine sU EY<|MJ (w0:=w1) (λb hb=>by cases hb) C (aL dC (IN hA) (aC _) λ_ gj=>?_);refine pR (α:=UInt8) mA uH λa w3 gc _=>⟨gc.toX,?_⟩;have g4:=C.t gc;have S0:dW w1 w3 none [] [] (.slice (some a) 0 0) w3 none:=dW.start ⟨⟨_,rfl⟩,rfl⟩ g4 (λb hb=>by cases hb);refine(Xo (wd:=DZ) S0.by_ gi S0.ew S0.blkO hp.g.2 hp.g.1 dD).mono ?_;rintro _ _ k4;refine⟨by obtain⟨o',q1,_⟩:=k4;exact kU.toX q1,?_⟩;obtain⟨_,S4⟩:=S0.say k4
 have:(vN DZ p.B).length<=200:=by
   have h1:=RG p.B false hp.g.2;have h2:=hp.g.1;have h3:(aW DZ).length=7:=rfl;unfold vN;simp only[bX,dA,eU];omega
 have:(vN lE p.L).length<=200:=by
   have h1:=RG p.L false hp.l.2;have h2:=hp.l.1;have h3:(aW lE).length=5:=rfl;unfold vN;simp only[bX,dA,eU];omega
 refine(Xo (wd:=lE) S4.by_ gj S4.ew S4.blkO hp.l.2 hp.l.1 (by have:lE.size=5:=rfl;simp only[bX,dA,eU];omega)).mono ?_;rintro v14 _ k5;obtain⟨o5,S5⟩:=S4.say k5
 have gl:∀k,((p.P.take k).flatMap AH).length<=162100*8:=λk=>by
   have h3:=Ow (l:=p.P.take k) λx hx=>bc (hp.n.2 x.name (XP (PM hx))) (hp.b x (PM hx));have:=hp.n.1;have h5:(p.P.take k).length<=p.P.length:=by rw[fY];omega
   omega
 refine bV p.P.length (λk us w'=>∃x o',us=[x,iV k]/\k<=p.P.length/\dW w1 w3 none [] (vN DZ p.B++vN lE p.L++(p.P.take k).flatMap AH) x w' o') 0 (z0 _) ⟨v14,o5,rfl,z0 _,by simpa using S5⟩ ?_;rintro k m us w6 _ ⟨x,_,gn,_,S6⟩;obtain⟨gp,gq⟩:=dQ gn;rw[gp,gq];have:=gl k;refine aE qW<|aL qY (uV hA) S6.ew λ_ gr=>aX pW gr<|bM<|br (λ_=>?_) λ_=>?_
 ·have hk:k<p.P.length:=oo;have:=hp.n.1;obtain⟨y,hy⟩:∃y,y=p.P[k]:=⟨_,rfl⟩;have g2:y∈p.P:=by rw[hy];exact cY hk
  have gs:=hp.n.2 y.name (XP g2);have g5:=MA gs;rw[dO]at g5;refine aE qW<|aL qY (uV hA) S6.ew λ_ gt=>bC (i:=k) pW pO gt hk λ_ _ g0=>?_;rw[<-hy]at g0;refine aE NE<|eV cG (OB g0) S6.ew λ_=>?_;have g3:(ByteArray.mk #[112,114,111,99,32]).size=5:=rfl;have g9:(ByteArray.mk #[32,123,10]).size=3:=rfl;refine mK (by rw[g3];omega)<|mK (by rw[lF,g3,g9];omega) ?_;have gx:aW (ByteArray.mk #[112,114,111,99,32]++y.name++ByteArray.mk #[32,123,10])=aW zG++(32 :: (aW y.name++[32,123,10])):=by rw[HF,HF];show[112,114,111,99,32]++_++[32,123,10]=[112,114,111,99]++_;simp
  refine S6.str (s:=ByteArray.mk #[112,114,111,99,32]++y.name++ByteArray.mk #[32,123,10]) u9 (by rw[lF,lF,g3,g9];simp only[bX,dA,eU];omega) λ_ _ _ S7=>aE qW<|aL qY (uV hA) S7.ew λ_ gy=>bC (i:=k) pW pO gy hk λ_ _ g1=>?_;rw[<-hy]at g1;refine aE OZ<|aL fW (UH g1) S7.ew λ_ gz=>?_
  have:(y.body.flatMap (lM 6 1)).length<=162000:=by
    have:=WV (f:=lM 6 1) λz hz=>Dy 6 z 1 ((hp.b y g2).1 z hz) oo;have:=(hp.b y g2).2;omega
  have:(aW (ByteArray.mk #[112,114,111,99,32]++y.name++ByteArray.mk #[32,123,10])).length<=20:=by rw[dO,lF,lF,g3,g9];omega
  refine(qy 6 (b:=1) S7.by_ gz S7.ew S7.blkO (hp.b y g2).1 oo (by simp only[bX,dA,eU];omega)).mono ?_;rintro _ _ k8;obtain⟨_,S8⟩:=S7.say k8;refine S8.lit2 (b:=125) (c:=10) (by simp only[bX,dA,eU];omega) λv9 _ o9 S9=>aU<|⟨m-1,oo,k+1,oo,v9,o9,rfl,oo,?_⟩;rw[tk hk,<-hy,vW]
  have e:vN DZ p.B++vN lE p.L++((p.P.take k).flatMap AH++[y].flatMap AH)=vN DZ p.B++vN lE p.L++(p.P.take k).flatMap AH++aW (ByteArray.mk #[112,114,111,99,32]++y.name++ByteArray.mk #[32,123,10])++y.body.flatMap (lM 6 1)++[125,10]:=by
    rw[gx];simp[AH]
  rw[e];exact S9
 have hk:k=p.P.length:=oo
 have gb:([]:List UInt8)++(vN DZ p.B++vN lE p.L++(p.P.take k).flatMap AH)=zR p:=by
   rw[hk,sF];unfold zR;simp
 have gd:aB w w6:=gf.t S6.ew;have hI:=iL.is S6.by_;rw[gb]at hI;refine aX mA hI<|oN<|br (λ_=>?_) λ_=>?_
 ·exact⟨gd,by unfold DI;rw[aH oo]⟩
 refine Mu mA u5 u9 hI xx<|⟨gd,by unfold DI;rw[aP oo]⟩
def zzQ{bs:List UInt8}(hk:k<(bs.take 4000).length)(h:Int):((bs.take 4000).take (k+1)).foldl (λh(b:UInt8)=>CE (h*131+(b.toNat:Int)+7) 1073741823) h =
   CE (((bs.take 4000).take k).foldl (λh(b:UInt8)=>CE (h*131+(b.toNat:Int)+7) 1073741823) h*131+(((bs.take 4000)[k]).toNat:Int)+7) 1073741823:=by
 rw[tk hk,Om];rfl
theorem zzR{bs:List UInt8}(h:Is W v bs)(e:aB W w)(hl:bs.length<=1048576) :
    aJ tp 26 [v] w λr w'=>aB w w'/\∃g,r=pT g 0/\w.heap.size<=g/\bB w g bs (MN bs) w':=by
  have fin:∀{w1:wD}{hh:Int},aB w w1->hh=Mg bs->bR hh->RD tp (Instr.build 122 #[(0,v),(2,iV hh)]) w1 λg3=>OP tp (Instr.box 122 g3) w1 λg4 w2=>
      aB w w2/\∃g,g4=pT g 0/\w.heap.size<=g/\bB w g bs (MN bs) w2:=by
    intro w1 hh C g5 _;obtain⟨a,cap,_,_,rfl,_⟩:=xD h;refine fI (cells:=#[.slice a bs.length cap,iV 0,iV hh]) kK<|VO λw2 g0 g1=>⟨xx,_,rfl,C.size,.slice a bs.length cap,h.ext e,xx,C.size,?_,z0 _,hl⟩;rw[g5]at g1;exact g1
  refine co (g:=kf [] [(3,268435224,[3,4])] []) Tryz.func26 ?_;refine aX mA h<|rQ io ?_
  refine bV (bs.take 4000).length (λk us w'=>∃hh:Int,us=[iV hh,iV k]/\aB w w'/\k<=(bs.take 4000).length/\0<=hh/\hh<=1073741823/\hh=((bs.take 4000).take k).foldl (λh(b:UInt8)=>CE (h*131+(b.toNat:Int)+7) 1073741823) (94701+(bs.length:Int))) 0 (z0 _)
    ⟨_,rfl,xx,z0 _,oo,oo,ss⟩ ?_
  rintro k m _ w1 _ ⟨hh,hu,C,_,_,_,hf⟩;obtain⟨g9,gb⟩:=dQ hu;rw[g9,gb];have:(bs.take 4000).length=min 4000 bs.length:=fY
  have D:(bs.take 4000).length<=k->hh=Mg bs:=λhk=>by
    rw[hf,iO hk];rfl
  have g2:bR hh:=by unfold bR;omega
  refine aX mA h<|bM<|br (λ_=>?_) (λgc=>fin C (D oo) g2);refine bM<|br (λ_=>?_) (λgc=>fin C (D oo) g2);have hk:k<(bs.take 4000).length:=oo;have gd:k<bs.length:=oo;refine UP io<|bC mA RS (i:=k) h gd λb _ hA=>Yq RS hA (e.trans C) ?_;have:=UInt8.toNat_lt (bs[k]);refine Ox kK u3 oo<|rQ io<|rQ io<|Nm<|aU ?_;have hb:=Cq (hh*131+((bs[k]).toNat:Int)+7) (n:=1073741823) oo;refine⟨m-1,oo,k+1,oo,_,rfl,C,oo,hb.1,hb.2,?_⟩;rw[zzQ hk,<-hf,List.getElem_take]
def ztK{bs:List UInt8}(h:Is W v bs)(e:aB W w)(hl:bs.length<=1048576) :
   aJ tp 8 [v] w λr w'=>aB w w'/\aK w.heap.size w'.heap.size w' r (HI bs (MN bs)).1:=by
 refine co (g:=kf [] [] []) Tryz.func8 ?_;refine sY (α:=aY) IU λ_ g1 g2=>?_;have:=g2.lt;refine(zzR h (e.trans g1) hl).mono ?_;rintro _ _ ⟨g0,g,rfl,_,g5⟩;have:=g0.size;refine(zwC g5).mono ?_;rintro _ _ ⟨g3,-,o5⟩;refine oU kT ((g2.ext g0).chg g3 oo oo) o5 oo λ_ g4 gb=>?_;have:=g4.size;refine uX kT gb xx λ_ o6=>⟨aB.xI (aB.xI xx g3 oo) g4 oo,o6.mono oo oo⟩
open Go.Shelf
def Tryz.laysN138_ren:Go.Shelf.Ren:=⟨fun|138=>41|195=>107|218=>108|143=>109|219=>186|217=>248|225=>249|224=>250|267=>251|266=>294|314=>295|n=>n,fun|9=>9|3=>3|4=>4|5=>5|0=>0|46=>187|146=>297|51=>258|n=>n,fun|1=>0|n=>n⟩
def Tryz.laysN138:Go.Proofs.Lays.n138 tp Tryz.laysN138_ren where
 mixed:=by kernel_rfl
 f138:=Tryz.func41.trans (cS some kK)
 f143:=Tryz.func109.trans (cS some kK)
 f195:=Tryz.func107.trans (cS some kK)
 f217:=Tryz.func248.trans (cS some kK)
 f218:=Tryz.func108.trans (cS some kK)
 f219:=Tryz.func186.trans (cS some kK)
 f224:=Tryz.func250.trans (cS some kK)
 f225:=Tryz.func249.trans (cS some kK)
 f266:=Tryz.func294.trans (cS some kK)
 f267:=Tryz.func251.trans (cS some kK)
 f314:=Tryz.func295.trans (cS some kK)
 t0:=Tryz.underlying0
 a0:=Tryz.isAgg0
 z0:=Tryz.sizeOf0
 v0:=Tryz.zeroValue0
 t3:=Tryz.underlying3
 a3:=Tryz.isAgg3
 z3:=Tryz.sizeOf3
 v3:=Tryz.zeroValue3
 t4:=Tryz.underlying4
 a4:=Tryz.isAgg4
 z4:=Tryz.sizeOf4
 v4:=Tryz.zeroValue4
 t5:=Tryz.underlying5
 a5:=Tryz.isAgg5
 z5:=Tryz.sizeOf5
 v5:=Tryz.zeroValue5
 t9:=Tryz.underlying9
 a9:=Tryz.isAgg9
 z9:=Tryz.sizeOf9
 v9:=Tryz.zeroValue9
 t46:=Tryz.underlying187
 a46:=Tryz.isAgg187
 z46:=Tryz.sizeOf187
 v46:=Tryz.zeroValue187
 t51:=Tryz.underlying258
 a51:=Tryz.isAgg258
 z51:=Tryz.sizeOf258
 v51:=Tryz.zeroValue258
 t146:=Tryz.underlying297
 a146:=Tryz.isAgg297
 z146:=Tryz.sizeOf297
 v146:=Tryz.zeroValue297
 g1:=by kernel_rfl
def Tryz.laysN166_ren:Go.Shelf.Ren:=⟨fun|166=>31|240=>84|276=>158|n=>n,fun|70=>73|9=>9|3=>3|75=>78|0=>0|72=>75|37=>24|4=>4|164=>196|80=>83|5=>5|n=>n,fun|n=>n⟩
def Tryz.laysN166:Go.Proofs.Lays.n166 tp Tryz.laysN166_ren where
 mixed:=by kernel_rfl
 f166:=Tryz.func31.trans (cS some kK)
 f240:=Tryz.func84.trans (cS some kK)
 f276:=Tryz.func158.trans (cS some kK)
 t0:=Tryz.underlying0
 a0:=Tryz.isAgg0
 z0:=Tryz.sizeOf0
 v0:=Tryz.zeroValue0
 t3:=Tryz.underlying3
 a3:=Tryz.isAgg3
 z3:=Tryz.sizeOf3
 v3:=Tryz.zeroValue3
 t4:=Tryz.underlying4
 a4:=Tryz.isAgg4
 z4:=Tryz.sizeOf4
 v4:=Tryz.zeroValue4
 t9:=Tryz.underlying9
 a9:=Tryz.isAgg9
 z9:=Tryz.sizeOf9
 v9:=Tryz.zeroValue9
 t20:=Tryz.underlying20
 a20:=Tryz.isAgg20
 z20:=Tryz.sizeOf20
 v20:=Tryz.zeroValue20
 t37:=Tryz.underlying24
 a37:=Tryz.isAgg24
 z37:=Tryz.sizeOf24
 v37:=Tryz.zeroValue24
 t70:=Tryz.underlying73
 a70:=Tryz.isAgg73
 z70:=Tryz.sizeOf73
 v70:=Tryz.zeroValue73
 t72:=Tryz.underlying75
 a72:=Tryz.isAgg75
 z72:=Tryz.sizeOf75
 v72:=Tryz.zeroValue75
 t75:=Tryz.underlying78
 a75:=Tryz.isAgg78
 z75:=Tryz.sizeOf78
 v75:=Tryz.zeroValue78
 t164:=Tryz.underlying196
 a164:=Tryz.isAgg196
 z164:=Tryz.sizeOf196
 v164:=Tryz.zeroValue196
def Tryz.laysN169_ren:Go.Shelf.Ren:=⟨fun|169=>34|n=>n,fun|70=>73|9=>9|0=>0|72=>75|37=>24|127=>147|3=>3|5=>5|n=>n,fun|n=>n⟩
def Tryz.laysN169:Go.Proofs.Lays.n169 tp Tryz.laysN169_ren where
 mixed:=by kernel_rfl
 f169:=Tryz.func34.trans (cS some kK)
 t0:=Tryz.underlying0
 a0:=Tryz.isAgg0
 z0:=Tryz.sizeOf0
 v0:=Tryz.zeroValue0
 t3:=Tryz.underlying3
 a3:=Tryz.isAgg3
 z3:=Tryz.sizeOf3
 v3:=Tryz.zeroValue3
 t9:=Tryz.underlying9
 a9:=Tryz.isAgg9
 z9:=Tryz.sizeOf9
 v9:=Tryz.zeroValue9
 t37:=Tryz.underlying24
 a37:=Tryz.isAgg24
 z37:=Tryz.sizeOf24
 v37:=Tryz.zeroValue24
 t70:=Tryz.underlying73
 a70:=Tryz.isAgg73
 z70:=Tryz.sizeOf73
 v70:=Tryz.zeroValue73
 t72:=Tryz.underlying75
 a72:=Tryz.isAgg75
 z72:=Tryz.sizeOf75
 v72:=Tryz.zeroValue75
 t127:=Tryz.underlying147
 a127:=Tryz.isAgg147
 z127:=Tryz.sizeOf147
 v127:=Tryz.zeroValue147
def Tryz.laysN170_ren:Go.Shelf.Ren:=⟨fun|170=>33|n=>n,fun|70=>73|3=>3|0=>0|72=>75|37=>24|5=>5|n=>n,fun|n=>n⟩
def Tryz.laysN170:Go.Proofs.Lays.n170 tp Tryz.laysN170_ren where
 mixed:=by kernel_rfl
 f170:=Tryz.func33.trans (cS some kK)
 t0:=Tryz.underlying0
 a0:=Tryz.isAgg0
 z0:=Tryz.sizeOf0
 v0:=Tryz.zeroValue0
 t3:=Tryz.underlying3
 a3:=Tryz.isAgg3
 z3:=Tryz.sizeOf3
 v3:=Tryz.zeroValue3
 t37:=Tryz.underlying24
 a37:=Tryz.isAgg24
 z37:=Tryz.sizeOf24
 v37:=Tryz.zeroValue24
 t70:=Tryz.underlying73
 a70:=Tryz.isAgg73
 z70:=Tryz.sizeOf73
 v70:=Tryz.zeroValue73
 t72:=Tryz.underlying75
 a72:=Tryz.isAgg75
 z72:=Tryz.sizeOf75
 v72:=Tryz.zeroValue75
end Go.Proofs.YtcaakhmhlfgogaaGreatDoor
