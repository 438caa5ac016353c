/-
  Parts of the proof, put together by program.
-/
import Derived.Test.YtcaakhmhlfgogaaGreatDoorQFnReports6
set_option linter.defProp false
set_option linter.unusedVariables false
set_option maxRecDepth 100000
set_option linter.unusedSimpArgs false
set_option linter.unusedSectionVars false
open Go renaming Value→vL,World→wD,Program→pG
namespace Go.Proofs.YtcaakhmhlfgogaaGreatDoor
open Go Go.Sh Go.Proofs
open Rep (rep)
variable {W0 W1 w:wD}{b i j k l m n:Nat}{c:aF}{out:List Nat}{v0 v1:vL}
def BI.updM(hc:aM c){out:List Nat}(h:BI c out){p i hh:Nat}(hu:bU c p)(hi:dE c p i)(ho:(bO c i).op=4)(g2:∀ l,l<6->hh.testBit l=false->iH c (tK (fC c)) (tG (fC c)) p none l) :
   BI c (out.set (bS c i) (bD out (bS c i) &&& bD (lL c (fC c) p hh) i)):=by
 have g0:=(rB hc (by rw[hc.2.1.1];exact (hu.lt hc)) hi).1;have hq:=(sW hc g0 (.inl ho)).2;refine⟨by simp[h.len],λx hx=>?_,λr l hr hl hb=>?_,λr l hr hl=>?_⟩
 ·rcases OS hx with rfl|hx
  ·exact uU AG (h.lt0 _)
  exact h.lt x hx
 ·rw [uF (by rw[h.len];exact hq)]at hb;split at hb
  ·rename_i e;subst e;rw[wO,TQ]at hb;rcases hb with hb|hb
   ·exact h.snd _ l hr hl hb
   refine .call hu hi ho ?_;have k:=(Oq g0 hl).1 hb
   have g1:∀{i l:Nat},l<6->eI c (tK (fC c)) (tG (fC c)) p (λl=>hh.testBit l=true) i l->iH c (tK (fC c)) (tG (fC c)) p (some i) l:=λ{i l} hl k=>by
     induction k with
     |ent h0=>exact .ent (g2 _ hl (by simpa using h0))
     |gen h0 hj h1=>exact .gen h0 hj h1
     |pass h0 hj _ h2 ih=>exact .pass h0 hj (ih hl) h2
   exact g1 hl k
  exact h.snd r l hr hl hb
 rw[uF (by rw[h.len];exact hq)];split
 ·rename_i e;rw[wO,e,h.root r l hr hl];rfl
 exact h.root r l hr hl
def CL(c:aF)(out:List Nat)(p i:Nat):Prop:=bD out (bS c i) &&& bD (lL c (fC c) p (bD out p)) i=bD out (bS c i)
structure BQ(c:aF)(out0:List Nat)(ag:Bool)(out:List Nat)(D:Nat->Nat->Prop):Prop where
 bi:BI c out
 yes:ag=true->out.sum<out0.sum
 no:ag=false->out=out0/\∀p i,D p i->bU c p->dE c p i->(bO c i).op=4->CL c out0 p i
def BQ.mono{out0 out:List Nat}{ag:Bool}{D D':Nat->Nat->Prop}(H:BQ c out0 ag out D)(h:∀ p i,bU c p->dE c p i->(bO c i).op=4->D' p i->D p i):BQ c out0 ag out D':=
 ⟨H.bi,H.yes,λe=>⟨(H.no e).1,λp i hd hu hl ho=>(H.no e).2 p i (h p i hu hl ho hd) hu hl ho⟩⟩
theorem BQ.set(hc:aM c){out0 out:List Nat}{ag:Bool}{D D':Nat->Nat->Prop}(H:BQ c out0 ag out D){p i hh:Nat}(hu:bU c p)(hi:dE c p i)(ho:(bO c i).op=4)(hb:∀ l,l<6->hh.testBit l=false->iH c (tK (fC c)) (tG (fC c)) p none l)
   (g1:bD out (bS c i) &&& bD (lL c (fC c) p hh) i≠bD out (bS c i)):BQ c out0 true (out.set (bS c i) (bD out (bS c i) &&& bD (lL c (fC c) p hh) i)) D':=by
 have g0:=(rB hc (by rw[hc.2.1.1];exact hu.lt hc) hi).1;have hq:=(sW hc g0 (.inl ho)).2;refine⟨H.bi.updM hc hu hi ho hb,λ_=>?_,λe=>by cases e⟩;have h1:=QU (l:=out) (i:=bS c i) (v:=bD out (bS c i) &&& bD (lL c (fC c) p hh) i) (by rw[H.bi.len];exact hq);have h2:=Tm g1;cases ag with
 |true=>have:=H.yes rfl;omega
 |false=>rw[(H.no rfl).1]at h1 h2 ⊢;omega
def BQ.skip{out0 out:List Nat}{ag:Bool}{D D':Nat->Nat->Prop}(H:BQ c out0 ag out D){p i hh:Nat}(hz:ag=false->hh=bD out0 p)(hD:∀ q j,D' q j->D q j\/(q=p/\j=i))(he:bD out (bS c i) &&& bD (lL c (fC c) p hh) i=bD out (bS c i)):BQ c out0 ag out D':=
 ⟨H.bi,H.yes,λe=>⟨(H.no e).1,λq j hd hu hl ho=>by
   rcases hD q j hd with h|⟨rfl,rfl⟩
   ·exact(H.no e).2 q j h hu hl ho
   unfold CL;rw[<-hz e,<-(H.no e).1];exact he⟩⟩
def BS(c:aF)(k:Nat)(out:List Nat):Prop:=out.length=c.P.length/\∀p,p<c.P.length->(¬(p<k/\¬bE c p)->bD out p=0)/\(p<k->¬bE c p->bD out p=63)
def BS.fin(hc:aM c){out:List Nat}(h:BS c c.P.length out):BI c out:=BI.start hc out h.1 λp hp=>⟨λhr=>(h.2 p hp).1 λhn=>hn.2 hr,λhr=>(h.2 p hp).2 hp hr⟩
def qo(hW:tI W0 b c)(e0:aB W0 w)(h1:Is W1 v1 (oP (fC c)))(e1:aB W1 w)(hc:aM c) :
   aJ tp 208 [pT b 0,v1] w λr w'=>aB w w'/\eG w.heap.size w' r (bN (OA c)):=by
 refine co (g:=kf [] [(3,137430564928,[23]),(9,81129638414606681695651566204544,[7]),(12,81129638414606681678196819113600,[7,44]),(16,40564819207302187926389895737472,[7,60])] [(19,[0,1,2,3,4,5,6,7,8,9,10,11,12,13,14,15,16,17,18,19,20],0),(20,[0,1,2,3,4,5,6,7,8,9,10,11],0)]) Tryz.func208 ?_;have h8:=hc.1.p8;have hO:=hc.f.I;have hP:=Fm c;refine bZ.mk rfl<|aE mT<|aE lQ<|aL dC (nF hW.wl.code) e0 λ_ hQ=>aX cL hQ ?_;have hn:c.P.length=c.P.length:=rfl;generalize hnn:c.P.length=n at hn;rw[hnn]at h8;refine FK oo oo λw2 hR h9=>?_;generalize hg:w.heap.size=g at *;have ha:FW w w2 g n (List.replicate n 0):=⟨hR,h9,oo⟩;have hd:BS c 0 (List.replicate n 0):=⟨by simp[hnn],λp hp=>⟨λ_=>by rw[<-pQ so];simp,λh=>oo⟩⟩;refine TK bG ?_;have hrs:sD c<256:=uW (by rw[hnn];omega);refine bV n (λk us w'=>∃out,us=[iV k]/\k<=n/\FW w w' g n out/\BS c k out) 0 (z0 _) ⟨_,rfl,z0 _,ha,hd⟩ ?_;rintro k mk u _ he ⟨out,hu,hS,gG,gl⟩;try replace hu:=cJ hu
 rw[hu];have gH:=gl.1;refine bM<|br (λhq=>?_) λhs=>?_
 ·have hk:k<n:=oo;refine bZ.mk rfl<|aE OQ<|aS aG hW.roots (e0.t gG.ext) λ_=>(QN (m:=sD c) (i:=k) oo oo).mM λ_ hT=>?_;have gI:=gG.step hT
  have gq:(sD c).testBit k=true↔bE c k:=by
    unfold sD;rw[nW];exact⟨λh=>h.2,λh=>⟨oo,h⟩⟩
  refine dG<|bW (λhf=>?_) λhf=>?_
  ·have hU:¬bE c k:=λh=>by rw[gq.2 h]at hf;cases hf
   refine oA (α:=Int) rfl bG aG hk<|oC (α:=Int) rfl aG gI.mine (by rw[cB];omega) hk (tN (v:=63) oo) λ_ hV hX=>?_;have hY:=gI.set (v:=63) hV hX;refine aU<|⟨mk-1,oo,k+1,oo,_,rfl,oo,hY,by simp[gH],λp hp=>?_⟩;rw[uF (by rw[gH,hnn];exact hk)];have:=gl.2 p hp;by_cases e:k=p
   ·subst e;exact⟨λh=>absurd ⟨oo,hU⟩ h,λ_ _=>by rw[aP rfl]⟩
   rw[aH e];exact⟨λh=>this.1 λh2=>h ⟨oo,h2.2⟩,λh=>this.2 oo⟩
  have hr:bE c k:=gq.1 (by simpa using hf);refine aU<|⟨mk-1,oo,k+1,oo,_,rfl,oo,gI,gH,λp hp=>?_⟩;have:=gl.2 p hp;by_cases e:k=p
  ·subst e;exact⟨λ_=>this.1 λh=>h.2 hr,λ_ h=>absurd hr h⟩
  exact⟨λh=>this.1 λh2=>h ⟨oo,h2.2⟩,λh=>this.2 oo⟩
 have hk:k=n:=oo;rw[hk,<-hnn]at gl;have hZ:=gl.fin hc;clear ha h9 hd hu he gl;have hus:rL c<256:=uW (by rw[hnn];omega);refine iB.mk (λm us w'=>∃(ag:Bool)(out:List Nat),us=[.bool ag]/\m=out.sum+(if ag then 1 else 0)/\FW w w' g n out/\BI c out/\(ag=false->∀p i,bU c p->dE c p i->(bO c i).op=4->CL c out p i)) (out.sum+1) ⟨true,out,rfl,rfl,gG,hZ,λe=>by cases e⟩ ?_;rintro m u w6 ⟨ag,out,hu,hm,gn,ht,j0⟩;try replace hu:=cJ hu
 rw[hu];refine bW (λgJ=>?_) λgJ=>?_
 case refine_2=>rw[ht.fin hc (j0 gJ)]at gn;have hv:=gn.own;rw[hg]at hv;exact⟨gn.ext,hv⟩
 rw[gJ,aP rfl]at hm;refine bZ.mk rfl<|aE ON<|aS aG hW.used (e0.t gn.ext) λ_=>(JO (m:=rL c) oo).mono ?_;rintro hw w7 ⟨j1,gF⟩;unfold rL at gF;rw[MT (by rw[hnn];omega)]at gF;have j2:=gn.step j1;have hg6:=gn.lt;have hL:∀p,p∈cC c.P.length (bU c)↔bU c p:=λp=>by rw[mG];exact⟨λh=>h.2,λh=>⟨h.lt hc,h⟩⟩
 have hLl:(cC c.P.length (bU c)).length<=8:=eH pC (by rw[hnn];omega);generalize cC c.P.length (bU c)=L at *;have j3:=gF.toI;generalize hlo:w6.heap.size=lo at *;generalize hhi:w7.heap.size=hi at *;refine aX bG gF.is ?_;rw[cB];refine bV L.length (λk us w'=>∃(ag:Bool)(out':List Nat),us=[.bool ag,iV k]/\k<=L.length/\FW w w' g n out'/\aK lo hi w' hw (bN L)/\BQ c out ag out' (λp i=>p∈L.take k)) 0 (z0 _) ⟨false,out,rfl,z0 _,j2,j3,ht,λe=>(by cases e),λ_=>⟨rfl,λp i h=>by simp at h⟩⟩ ?_;rintro k mk u w8 he ⟨gr,O,hu,hS,gp,hx,g5⟩;obtain⟨gK,gL⟩:=dQ hu;clear hu;rw[gK,gL];refine bM<|br (λhq=>?_) λhs=>?_
 case refine_2=>
   refine⟨O.sum+(if gr then 1 else 0),?_,gr,O,rfl,rfl,gp,g5.bi,λe p i hu hl ho=>?_⟩
   ·cases gr with
    |true=>have:=g5.yes rfl;simp;omega
    |false=>rw[(g5.no rfl).1];simp;omega
   have:=g5.no e;rw[this.1];exact this.2 p i (by rw[iO oo];exact(hL p).2 hu) hu hl ho
 have hk:k<L.length:=oo;refine bC bG aG (i:=k) hx.is (by rw[cB];exact hk) λ_ _ hy=>?_;rw[nI]at hy;refine aS aG hy xx λ_=>?_;have j4:=λx=>BJ hk (x:=x);have hz:=(hL L[k]).1 (cY hk);generalize L[k]=p at *;have gs:=hz.lt hc;have hB:p<c.E.length:=by rw[hc.2.1.1];exact gs
 have j5:=g5.bi.len;refine bC bG aG (i:=p) gp.mine.is (by rw[cB,j5];exact gs) λ_ _ hC=>?_;rw[oQ]at hC;refine aS aG hC xx λ_=>?_;have gM:=g5.bi.lt0 p;have j6:∀l,l<6->(bD O p).testBit l=false->iH c (tK (fC c)) (tG (fC c)) p none l:=λl hl hb=>g5.bi.snd p l gs hl hb;have j7:gr=false->bD O p=bD out p:=λe=>by rw[(g5.no e).1]
 generalize bD O p=hh at *;refine(Ha hW.wl (e0.t gp.ext) h1 (e1.trans gp.ext) hc hP gs gM).mono ?_;rintro gN w9 ⟨hD,j8⟩;have gO:=gp.step hD;have j9:=hx.ext hD;have hg8:=gp.lt;refine(VB hW.wl (e0.t gO.ext) hc gs).mono ?_;rintro ja jb ⟨gf,gt⟩;have gP:=gO.step gf;have gQ:=j9.ext gf;have hg9:=gO.lt;have gR:=j8.toI.ext gf;have hM:∀i,i∈cC c.I.length (dE c p)↔dE c p i:=λi=>by rw[mG];exact⟨λh=>h.2,λh=>⟨(rB hc hB h).1,h⟩⟩
 have hMl:(cC c.I.length (dE c p)).length<=1500:=eH pC hO;generalize cC c.I.length (dE c p)=M at *;have gx:=gt.toI;generalize hl9:w9.heap.size=lo9 at *;generalize hl10:jb.heap.size=hi10 at *;generalize hl8':w8.heap.size=lo8 at *;refine aX bG gt.is ?_;rw[cB];have jc:(lL c (fC c) p hh).length=c.I.length:=LF _ _ _ _;have gS:=WF (c:=c) (T:=fC c) (p:=p) (h:=hh);refine bV M.length (λj us w'=>∃(ag:Bool)(out':List Nat),us=[.bool ag,iV j]/\j<=M.length/\FW w w' g n out'/\aK lo hi w' hw (bN L)/\aK lo8 lo9 w' gN (bN (lL c (fC c) p hh))/\aK lo9 hi10 w' ja (bN M)/\BQ c out ag out' (λq i=>q∈L.take k\/(q=p/\i∈M.take j))/\(ag=false->hh=bD out p)) 0 (z0 _) ⟨gr,O,rfl,z0 _,gP,gQ,gR,gx,g5.mono λq i _ _ _ h=>h.elim id λh=>by simp at h,j7⟩ ?_;rintro j mj u _ _ ⟨g9,C,hu,_,Z,gy,gT,gd,V,gg⟩;obtain⟨gK,gL⟩:=dQ hu;clear hu;rw[gK,gL];refine bM<|br (λhq=>?_) λhs=>?_
 case refine_2=>
   refine aU<|⟨mk-1,oo,k+1,oo,g9,C,rfl,oo,Z,gy,V.mono λq i hu hl ho h=>?_⟩;rcases(j4 q).1 h with h|rfl
   ·exact .inl h
   exact .inr ⟨rfl,by rw[iO oo];exact(hM i).2 hl⟩
 have hj:j<M.length:=oo;refine bC bG aG (i:=j) gd.is (by rw[cB];exact hj) λ_ _ hG=>?_;rw[nI]at hG;refine aS aG hG xx λ_=>?_;have hH:=λx=>BJ hj (x:=x);have hI:=(hM M[j]).1 (cY hj);generalize M[j]=i at *;have gU:=(rB hc hB hI).1;refine bZ.mk rfl<|aE mT<|aE eW<|aL eJ (fV hW.wl.code) (e0.t Z.ext) λ_ jd=>bC eQ fE jd gU λ_ _ hJ=>?_;rw[oM]at hJ;refine aL fE hJ (e0.t Z.ext) λ_ je=>mB zL rfl fE rfl je (e0.t Z.ext) λhK gV gb _=>?_;have g0:=cO hK;have D:=gV.t g0;have g1:=Z.step D;have gh:=gy.ext D;have gc:=gT.ext D;have g2:=gd.ext D;generalize World.drew1 hK=w13 at *;refine aE lV<|aS aG (lW gb) g0 λ_=>bI ?_
 have jf:¬(bO c i).op=4->BQ c out g9 C (λq i=>q∈L.take k\/(q=p/\i∈M.take (j+1))):=λhn=>V.mono λq i' _ _ ho h=>h.imp id λ⟨h1,h2⟩=>⟨h1,by
   rcases(hH i').1 h2 with h|rfl
   ·exact h
   exact absurd ho hn⟩
 refine br (λc4=>?_) λc4=>?_
 case refine_2=>refine aU<|⟨mj-1,oo,j+1,oo,g9,C,rfl,oo,g1,gh,gc,g2,jf c4,gg⟩
 obtain⟨gi,gW⟩:=sW hc gU (.inl c4);have gz:=V.bi.len;have gX:=λD'=>V.set (D':=D') hc hz hI c4 j6
 have gA:=V.skip (D':=λq i=>q∈L.take k\/(q=p/\i∈M.take (j+1))) (p:=p) (i:=i) gg λq j' h=>by
   rcases h with h|⟨h1,h2⟩
   ·exact .inl (.inl h)
   rcases(hH j').1 h2 with h|h
   ·exact .inl (.inr ⟨h1,h⟩)
   exact .inr ⟨h1,h⟩
 have jg:=V.bi.lt0 (bS c i);have jh:=yL gS i
 have gY:∀{w':wD}{K:vL->Prop}(hF:FW w w' g n C)(k:K (iV (bD C (bS c i):Int))),RD tp (Instr.indexAt 31 (.slice (some ⟨g,0,none⟩) n n) (iV (bS c i:Int))) w' λgZ=>RD tp (Instr.loadAt 3 gZ) w' K:=λhF k=>by
   refine bC bG aG (i:=bS c i) hF.mine.is (by rw[cB,gz];exact gW) λb1 o1 gB=>?_;rw[oQ]at gB;exact aS aG gB xx λ_=>k
 have hN:∀{w':wD}{K:vL->Prop}(hA:aK lo8 lo9 w' gN (bN (lL c (fC c) p hh)))(k:K (iV (bD (lL c (fC c) p hh) i:Int))),RD tp (Instr.indexAt 31 gN (iV i)) w' λgZ=>RD tp (Instr.loadAt 3 gZ) w' K:=λhA k=>by
   refine bC bG aG (i:=i) hA.is (by rw[cB,jc];exact gU) λb1 o1 gB=>?_;rw[oQ]at gB;exact aS aG gB xx λ_=>k
 refine aE mE<|aS aG (mF gb) g0 λ_=>?_;rw[gi];refine gY g1<|hN gc<|xV oo oo<|aE mE<|aS aG (mF gb) g0 λ_=>?_;rw[gi];refine gY g1<|fP<|br (λji=>?_) λjj=>?_
 ·have g3:=cO w13;have gj:=g1.step g3;have h4:=gh.ext g3;have gC:=gc.ext g3;have gD:=g2.ext g3;generalize World.drew1 w13=w14 at *;refine aE mE<|aS aG (mF gb) xx λ_=>?_;rw[gi];refine gY gj<|hN gC<|xV oo oo ?_;have hvl:=AG (n:=bD C (bS c i)) (m:=bD (lL c (fC c) p hh) i);refine oA (α:=Int) rfl bG aG oo<|oC (α:=Int) rfl aG gj.mine (by rw[cB,gz,hnn]) oo (tN (v:=bD C (bS c i) &&& bD (lL c (fC c) p hh) i) oo) λ_ gE h5=>?_;have h6:=gj.set (v:=bD C (bS c i) &&& bD (lL c (fC c) p hh) i) gE h5;have g4:=FJ gE;refine aU<|⟨mj-1,oo,j+1,oo,true,_,rfl,oo,h6,h4.chg g4 oo,gC.chg g4 oo,gD.chg g4 oo,gX _ λe=>ji (by rw[e]),λe=>by cases e⟩
 refine aU<|⟨mj-1,oo,j+1,oo,g9,C,rfl,oo,g1,gh,gc,g2,gA (xC.1 (eK.1 jj)),gg⟩
structure FV(w1 w:wD)(g:Nat)(v:vL)(out:List Nat):Prop where
 ext:aB w1 w
 mine:aZ [g] w v (bN out)
 g0:w1.heap.size<=g
section
variable {w1 w w':wD}{g:Nat}{v:vL}{out:List Nat}
def FV.step(h:FV w1 w g v out)(hx:aB w w'):FV w1 w' g v out:=⟨h.ext.trans hx,h.mine.ext hx,h.g0⟩
def FV.lt(h:FV w1 w g v out):g<w.heap.size:=h.mine.lt g ss
def FV.own(h:FV w1 w g v out):eG w1.heap.size w v (bN out):=⟨[g],h.mine,λb hb=>by simp only[bF,dL,dI]at hb;have:=h.g0;omega⟩
def FV.make(ho:eG w1.heap.size w v (bN out))(hx:aB w1 w)(hT:0<out.length):∃g,FV w1 w g v out:=by
 obtain⟨_,hm,hF⟩:=ho;obtain⟨b,_,_,_,rfl⟩:=KD hm (by intro e;have:=cS List.length e;rw[cB]at this;simp only[eU]at this;omega);exact⟨b,hx,hm,hF b ss⟩
def zFW{q m:Nat}{K:wD->Prop}(h:FV w1 w g v out)(hq:q<out.length)(hm:m<9223372036854775808)(k:∀ w',FV w1 w' g v (out.set q m)->aN g (g+1) w w'->K w') :
   RD tp (Instr.indexAt 31 v (iV q)) w λa=>fA tp (Instr.storeAt 3 a (iV m)) w K:=by
 refine JN bG aG h.mine (by rw[cB];exact hq) λb o _ hL=>KU (upd:=λy=>(bN out).set q y) (y':=(m:Int)) aG hL (tN hm) λw2 F2 g3 g1 g4=>?_
 have hF:F2=[g]:=by
   obtain⟨b,o,_,_,rfl⟩:=KD g1 (by intro e;have:=cS List.length e;rw[HN,cB]at this;simp only[eU]at this;omega);have:=g4 b ss;simpa using this
 subst hF;have g2:=FJ g3;exact k w2 ⟨h.ext.xI g2 h.g0,by rw[NC];exact g1,h.g0⟩ g2
end
noncomputable def LB(c:aF)(p:Nat):Nat:=@ite _ (bE c p) (Classical.propDecidable _) 0 63
noncomputable def EE(c:aF)(k:Nat):List Nat:=(List.range k).map (LB c)
def Y6(c:aF)(k:Nat):bN (EE c (k+1))=bN (EE c k)++[(LB c k:Int)]:=by simp[EE,bN,HA]
def NX(c:aF)(k:Nat):(EE c k).length=k:=by simp[EE]
def yc(hc:aM c):BI c (EE c c.P.length):=BI.start hc _ (NX c _) λp hp=>by
 have:bD (EE c c.P.length) p=LB c p:=by rw[<-pQ (by rw[NX];exact hp)];simp[EE]
 rw[this];unfold LB;exact⟨λh=>by rw[aP h],λh=>by rw[aH h]⟩
def sw(h0:Is W0 v0 c)(e0:aB W0 w)(h1:Is W1 v1 (oP (fC c)))(e1:aB W1 w)(hc:aM c) :
   aJ tp 233 [v0,v1] w λr w'=>aB w w'/\eG w.heap.size w' r (bN (OA c)):=by
 refine co (g:=kf [] [(5,68717380480,[7,8]),(12,332306998946228968225951696350673920,[10]),(15,332306998946228968225951627631197184,[10,11]),(21,332306998946228931332463617651033088,[10,14])] [(18,[0,1,2,3,4,5,6,7,8],0),(24,[0,1,2,3,4,5,6,7,8,9,10,11,12,13,14,15,16,17,18,19,20,21,22,23,24,25,26],0),(25,[0,1,2,3,4,5,6,7,8,9,10,11,12,13,14],0)]) Tryz.func233 ?_;have h8:=hc.1.p8;have hil:=hc.f.I;have hT:=Fm c;have hU:=yc hc;refine iR h0 e0 λ_ gY hA=>?_;have hs0:=gY.size;refine aL cP hA (aC _) λ_ hV=>?_;refine(Em hV (aC _) hc).mono ?_;rintro _ _ ⟨gU,hW⟩;have hsa:=gU.size;refine aL cP hA gU λ_ hX=>?_;refine(Df hX gU hc).mono ?_;rintro _ wb ⟨gZ,hY⟩;have hsb:=gZ.size;have C:=gU.t gZ;have j0:=hW.is.ext gZ;have j1:=hY.is;have hn:c.P.length=c.P.length:=rfl;generalize hnn:c.P.length=n at hn;rw[hnn]at h8;refine pR (α:=Int) bG aG λ_ _ hG j2=>?_;have j3:=hG.size;refine bV n (λk us w'=>∃v,us=[v,iV k]/\k<=n/\aB wb w'/\bQ wb.heap.size w'.heap.size 3 w' v (bN (EE c k))) 0 (z0 _) ⟨_,rfl,z0 _,hG,by simpa[EE,bN]using j2.mono j3 (lr _)⟩ ?_;rintro k mk u w3 hH ⟨v,hu,j4,gq,gx⟩;obtain⟨gy,gz⟩:=dQ hu;clear hu;rw[gy,gz];have hs3:=gq.size;have h4:=C.t gq;refine aE lQ<|aL dC (nF hA) h4 λ_ j5=>aX cL j5 ?_;rw[hnn];refine bM<|br (λhI=>?_) (λhJ=>?_)
 ·have hk:k<n:=oo;refine bC eY cE (i:=k) j0 (by rw[dZ];omega) λb2 o2 h5=>iY cE h5 gq ?_;have gi:=lY (n:=c.P.length) (p:=bE c) (i:=k);rw[kS (by rw[dZ];omega)]at gi;refine bW (λhf=>?_) (λhf=>?_)
  ·have h6:LB c k=0:=by unfold LB;rw[aP (gi.1 hf).2]
   refine oS (lo2:=w3.heap.size) (hi2:=w3.heap.size) (x:=((0:Nat):Int)) bG aG z3 wQ dD gx oo (DC _ _ io) oo oo (by rw[eB,cB,NX];omega) (by rw[cB,NX];omega) λh9 w9 ha hd=>aU<|⟨mk-1,oo,k+1,oo,h9,rfl,oo,gq.xI ha (lr _),?_⟩;rw[Y6,h6];exact hd
  have h6:LB c k=63:=by unfold LB;rw[aH λh=>by rw[gi.2 ⟨oo,h⟩]at hf;cases hf]
  refine oS (lo2:=w3.heap.size) (hi2:=w3.heap.size) (x:=((63:Nat):Int)) bG aG z3 wQ dD gx oo (DC _ _ io) oo oo (by rw[eB,cB,NX];omega) (by rw[cB,NX];omega) λh9 w9 ha hd=>aU<|⟨mk-1,oo,k+1,oo,h9,rfl,oo,gq.xI ha (lr _),?_⟩;rw[Y6,h6];exact hd
 have hk:k=c.P.length:=oo;rw[hk]at gx;obtain⟨g,j6⟩:=FV.make gx.own.own gq (by rw[NX];omega);generalize EE c c.P.length=out at *;clear gx hH;refine iB.mk (λm us w'=>∃(ag:Bool)(out:List Nat),us=[.bool ag]/\m=out.sum+(if ag then 1 else 0)/\FV wb w' g v out/\BI c out/\(ag=false->∀p i,bU c p->dE c p i->(bO c i).op=4->CL c out p i)) (out.sum+1) ⟨true,out,rfl,rfl,j6,hU,λe=>by cases e⟩ ?_;rintro m u _ ⟨ag,out,hu,hm,gV,hK,j7⟩;try replace hu:=cJ hu
 rw[hu];refine bW (λhe=>?_) (λhe=>?_)
 case refine_2=>rw[hK.fin hc (j7 he)]at gV;exact⟨gY.t (C.t gV.ext),gV.own.mono oo⟩
 rw[he,aP rfl]at hm;refine bV n (λk us w'=>∃(ag:Bool)(D:List Nat),us=[.bool ag,iV k]/\k<=n/\FV wb w' g v D/\BQ c out ag D (λp i=>p<k)) 0 (z0 _) ⟨false,out,rfl,z0 _,gV,hK,λe=>(by cases e),λ_=>⟨rfl,λp i h=>oo⟩⟩ ?_;rintro p mk u w8 hH ⟨gr,V,hu,j4,gA,gd⟩;obtain⟨gy,gz⟩:=dQ hu;clear hu;rw[gy,gz];have hg:=C.t gA.ext;refine aE lQ<|aL dC (nF hA) hg λ_ j8=>aX cL j8 ?_;rw[hnn];refine bM<|br (λhI=>?_) (λhJ=>?_)
 case refine_2=>
   refine⟨V.sum+(if gr then 1 else 0),?_,gr,V,rfl,rfl,gA,gd.bi,λe p' i hu hl ho=>?_⟩
   ·cases gr with
    |true=>have:=gd.yes rfl;simp;omega
    |false=>rw[(gd.no rfl).1];simp;omega
   have:=gd.no e;rw[this.1];exact this.2 p' i (by have:=hu.lt hc;omega) hu hl ho
 have j9:p<n:=oo;have gs:p<c.P.length:=oo;have gj:p<c.E.length:=by rw[hc.2.1.1];exact gs
 refine bC eY cE (i:=p) j1 (by rw[dZ];omega) λb2 o2 h5=>iY cE h5 gA.ext ?_;have gi:=lY (n:=c.P.length) (p:=bU c) (i:=p);rw[kS (by rw[dZ];omega)]at gi;refine dG<|bW (λhf=>?_) (λhf=>?_)
 ·have ja:¬bU c p:=λh=>by rw[gi.2 ⟨gs,h⟩]at hf;cases hf
  refine aU<|⟨mk-1,oo,p+1,oo,gr,V,rfl,oo,gA,gd.mono λq i hu _ _ h=>?_⟩;by_cases e:q=p
  ·subst e;exact absurd hu ja
  omega
 have jb:bU c p:=(gi.1 (by simpa using hf)).2;have jc:=cO w8;have g1:=gA.step jc;generalize World.drew1 w8=w8d at *;have jd:=gd.bi.len;refine aL cP hA (C.t g1.ext) λ_ je=>bC bG aG (i:=p) g1.mine.is (by rw[cB,jd];exact gs) λ_ _ hM=>?_;rw[oQ]at hM;refine aS aG hM (aC _) λ_=>?_;have hj:=gd.bi.lt0 p;have jf:∀l,l<6->(bD V p).testBit l=false->iH c (tK (fC c)) (tG (fC c)) p none l:=λl hl hb=>gd.bi.snd p l gs hl hb;have jg:gr=false->bD V p=bD out p:=λe=>by rw[(gd.no e).1]
 generalize bD V p=hh at *;refine(Oy je (C.t g1.ext) h1 (e1.trans (gY.t (C.t g1.ext))) hc hT gs hj).mono ?_;rintro gB w9 ⟨jh,ji⟩;have gW:=g1.step jh;have hg8:=g1.lt;refine aL cP hA (C.t gW.ext) λ_ jj=>?_;refine(WD jj (C.t gW.ext) hc gj).mono ?_;rintro hq jk ⟨gC,hr⟩;have gl:=gW.step gC;have hg9:=gW.lt;have hs:=ji.toI.ext gC;have gD:=hr.toI;generalize hl9:w9.heap.size=lo9 at *;generalize hl10:jk.heap.size=hi10 at *;generalize hl8':w8d.heap.size=lo8 at *;obtain⟨jl,_,_⟩:=vM hc gj;obtain⟨_,jm,_⟩:=yF hc gs;obtain⟨_,_,_⟩:=HM hc gj;refine aE kJ<|aL dT (lJ hA) (C.t gl.ext) λ_ jn=>bC bG aG jn gj λ_ _ hN=>?_;rw[mP gj,jl]at hN;refine aS aG hN (C.t gl.ext) λ_=>?_;have jo:(lL c (fC c) p hh).length=c.I.length:=LF _ _ _ _;have ht:=WF (c:=c) (T:=fC c) (p:=p) (h:=hh)
 have hO:∀i,dE c p i->eN c p<=i/\i<=zN c p:=λi h=>by
   have:=rB hc gj h;exact Hx hc this.1 gj this.2
 generalize hE:eN c p=E at *;generalize hZ:zN c p=Z at *;refine bV (Z+1-E) (λj us w'=>∃(ag:Bool)(D:List Nat),us=[.bool ag,iV ((E+j:Nat):Int)]/\E+j<=Z+1/\FV wb w' g v D/\aK lo8 lo9 w' gB (bN (lL c (fC c) p hh))/\aK lo9 hi10 w' hq (cZ c.I.length (dE c p))/\BQ c out ag D (λq i=>q<p\/(q=p/\i<E+j))/\(ag=false->hh=bD out p)) 0 (z0 _) ⟨gr,V,rfl,oo,gl,hs,gD,gd.mono λq i _ hl _ h=>h.elim id λ⟨h1,h2⟩=>by subst h1;have:=hO i hl;omega,jg⟩ ?_;rintro j mj u _ _ ⟨gE,M,hu,_,gF,hv,gG,g2,gf⟩;obtain⟨gy,gz⟩:=dQ hu;clear hu;rw[gy,gz];have gH:=C.t gF.ext;refine aL cP hA gH λ_ jp=>?_;refine(NU jp gH (p:=(p:Int)) oo oo hc.2.1.nonneg).mono ?_;rintro _ _ ⟨gn,rfl⟩;rw[jm];have gp:=gF.step gn;have hw:=hv.ext gn;have gI:=gG.ext gn;have g5:=C.t gp.ext;refine tR<|br (λhI=>?_) (λhJ=>?_)
 case refine_2=>
   refine aU<|⟨mk-1,oo,p+1,oo,gE,M,rfl,oo,gp,g2.mono λq i hu hl ho h=>?_⟩;by_cases e:q=p
   ·subst e;have:=hO i hl;exact .inr ⟨rfl,oo⟩
   exact .inl oo
 have gt:E+j<c.I.length:=oo;generalize hij:E+j=i at *;refine aE eW<|aL eJ (fV hA) g5 λ_ jq=>bC eQ fE jq gt λ_ _ hP=>?_;rw[oM]at hP;refine aL fE hP g5 λ_ jr=>mB zL rfl fE rfl jr g5 λgJ gK gL _=>?_;have g3:=cO gJ;have g9:=gK.t g3;have g4:=gp.step g9;have gb:=hw.ext g9;have O:=gI.ext g9;generalize World.drew1 gJ=w13 at *;have hx:=lY (n:=c.I.length) (p:=dE c p) (i:=i);rw[kS (by rw[dZ];exact gt)]at hx
 have hR:¬(dE c p i/\(bO c i).op=4)->BQ c out gE M (λq i'=>q<p\/(q=p/\i'<i+1)):=λhn=>g2.mono λq i' _ hl ho h=>h.imp id λ⟨h1,h2⟩=>⟨h1,by
   by_cases e:i'=i
   ·subst e;subst h1;exact absurd ⟨hl,ho⟩ hn
   omega⟩
 have g0:∀{w':wD}{gM:Bool}{D:List Nat}(hF:FV wb w' g v D)(hA:aK lo8 lo9 w' gB (bN (lL c (fC c) p hh)))(hL:aK lo9 hi10 w' hq (cZ c.I.length (dE c p)))(hQ:BQ c out gM D (λq i'=>q<p\/(q=p/\i'<i+1)))(hz:gM=false->hh=bD out p),
     ∃m',m'<mj/\∃k',k'+m'=Z+1-E/\∃(ag:Bool)(out'':List Nat),[Value.bool gM,Value.int .i64 ((i+1:Nat):Int)]=[.bool ag,iV ((E+k':Nat):Int)]/\E+k'<=Z+1/\FV wb w' g v out''/\aK lo8 lo9 w' gB (bN (lL c (fC c) p hh))/\aK lo9 hi10 w' hq (cZ c.I.length (dE c p))/\BQ c out ag out'' (λq i=>q<p\/(q=p/\i<E+k'))/\(ag=false->hh=bD out p):=λ{w' gM D} hF hA hL hQ hz=>
   ⟨mj-1,oo,j+1,oo,gM,D,by rw[show i+1=E+(j+1) by omega],oo,hF,hA,hL,by rw[show E+(j+1)=i+1 by omega];exact hQ,hz⟩
 refine bC eY cE (i:=i) O.is (by rw[dZ];exact gt) λ_ _ js=>iY cE js (aC _)<|bW (λgX=>?_) (λgX=>?_)
 case refine_2=>refine aU<|g0 g4 gb O (hR λh=>by rw[hx.2 ⟨gt,h.1⟩]at gX;cases gX) gf
 have jt:dE c p i:=(hx.1 gX).2;refine aE lV<|aS aG (lW gL) g3 λ_=>bI<|br (λc4=>?_) (λc4=>?_)
 case refine_2=>refine aU<|g0 g4 gb O (hR λh=>c4 h.2) gf
 obtain⟨gg,gN⟩:=sW hc gt (.inl c4);have gO:=g2.bi.len;have hy:=λD'=>g2.set (D':=D') hc jb jt c4 jf
 have gP:=g2.skip (D':=λq i'=>q<p\/(q=p/\i'<i+1)) (p:=p) (i:=i) gf λq j' h=>by
   rcases h with h|⟨h1,h2⟩
   ·exact .inl (.inl h)
   by_cases e:j'=i
   ·exact .inr ⟨h1,e⟩
   exact .inl (.inr ⟨h1,oo⟩)
 have ju:=g2.bi.lt0 (bS c i);have jv:=yL ht i
 have hB:∀{w':wD}{K:vL->Prop}(hF:FV wb w' g v M)(k:K (iV (bD M (bS c i):Int))),RD tp (Instr.indexAt 31 v (iV (bS c i:Int))) w' λhC=>RD tp (Instr.loadAt 3 hC) w' K:=λhF k=>by
   refine bC bG aG (i:=bS c i) hF.mine.is (by rw[cB,gO];exact gN) λb1 o1 gQ=>?_;rw[oQ]at gQ;exact aS aG gQ (aC _) λ_=>k
 have hS:∀{w':wD}{K:vL->Prop}(hA:aK lo8 lo9 w' gB (bN (lL c (fC c) p hh)))(k:K (iV (bD (lL c (fC c) p hh) i:Int))),RD tp (Instr.indexAt 31 gB (iV i)) w' λhC=>RD tp (Instr.loadAt 3 hC) w' K:=λhA k=>by
   refine bC bG aG (i:=i) hA.is (by rw[cB,jo];exact gt) λb1 o1 gQ=>?_;rw[oQ]at gQ;exact aS aG gQ (aC _) λ_=>k
 refine aE mE<|aS aG (mF gL) g3 λ_=>?_;rw[gg];refine hB g4<|hS gb<|xV oo oo<|aE mE<|aS aG (mF gL) g3 λ_=>?_;rw[gg];refine hB g4<|fP<|br (λjw=>?_) (λjx=>?_)
 ·have gc:=cO w13;have gR:=g4.step gc;have gS:=gb.ext gc;have gT:=O.ext gc;generalize World.drew1 w13=w14 at *;refine aE mE<|aS aG (mF gL) (g3.t gc) λ_=>?_;rw[gg];refine aE mE<|aS aG (mF gL) (g3.t gc) λ_=>?_;rw[gg];refine hB gR<|hS gS<|xV oo oo ?_;have hvl:=AG (n:=bD M (bS c i)) (m:=bD (lL c (fC c) p hh) i);refine zFW (m:=bD M (bS c i) &&& bD (lL c (fC c) p hh) i) gR (by rw[gO];exact gN) oo λ_ hD gh=>aU<|g0 hD (gS.chg gh oo) (gT.chg gh oo) (hy _ λe=>jw (by rw[e])) (λe=>by cases e)
 refine aU<|g0 g4 gb O (gP (xC.1 (eK.1 jx))) gf
def MS(c:aF)(out:List Nat)(D:Nat->Prop):Prop:=out.length=c.I.length/\∀i,i<c.I.length->D i->bD out i=BU c i
def MS.set{D D':Nat->Prop}(h:MS c out D){i v:Nat}(hi:i<c.I.length)(hv:v=BU c i)(hD:∀ j,D' j->D j\/j=i):MS c (out.set i v) D':=by
 refine⟨by simp[h.1],λj hj hd=>?_⟩;rw[uF (by rw[h.1];exact hi)];by_cases e:i=j
 ·subst e;rw[aP rfl];exact hv
 rw[aH e];exact h.2 j hj ((hD j hd).resolve_right λe'=>e e'.symm)
def MS.mono{D D':Nat->Prop}(h:MS c out D)(hD:∀ j,j<c.I.length->D' j->D j):MS c out D':=⟨h.1,λj hj hd=>h.2 j hj (hD j hj hd)⟩
def MS.fin{D:Nat->Prop}(h:MS c out D)(hD:∀ j,j<c.I.length->D j):out=BW c:=by
 refine wE (by rw[h.1,Ap]) λi h1 h2=>?_;have hi:i<c.I.length:=by rw[<-h.1];exact h1
 rw[pQ h1,pQ h2,zCp hi,h.2 i hi (hD i hi)]
def LR(hc:aM c){i:Nat}(hi:i<c.I.length):∃p,p<c.P.length/\eC c i=p/\eN c p<=i/\i<=zN c p:=by
 obtain⟨q,hq,_,_,h3⟩:=hc.f.find hc.1.p8.2 (a:=(i:Int)) oo oo;exact⟨q,by have:=hc.2.1.1;omega,h3,(Hx hc hi hq h3)⟩
def zFX(hW:tI W0 b c)(e0:aB W0 w)(hc:aM c) :
   aJ tp 146 [pT b 0] w λr w'=>aB w w'/\eG w.heap.size w' r (bN (BW c)):=by
 refine co (g:=kf [] [(5,4261412928,[25]),(10,75557863725639445513984,[38]),(14,37778643632581009998848,[10])] []) Tryz.func146 ?_;have h8:=hc.1.p8;have gN:=hc.f.I;have gO:=Fm c;refine(ix hW e0 hc).mono ?_;rintro _ _ ⟨gh,gt⟩;have hs1:=gh.size;refine(qo hW xx gt.is xx hc).mono ?_;rintro _ w2 ⟨gi,gP⟩;have hs2:=gi.size;have g1:=gh.t gi;have e2:=e0.t g1;have gQ:=gt.is.ext gi;have gR:=gP.is;refine bZ.mk rfl<|aE mT<|aE eW<|aL eJ (fV hW.wl.code) e2 λ_ gS=>aX eQ gS ?_;have hn:c.I.length=c.I.length:=rfl;generalize hnn:c.I.length=n at hn;rw[hnn]at gN;have hz0:=(yF hc h8.2).2.2;refine FK oo oo λw3 gT gU=>?_;generalize hg:w2.heap.size=g at *;have gV:FW w2 w3 g n (fil n 0):=⟨gT,by simpa[fil]using gU,oo⟩;refine TK bG<|bV n (λk us w'=>us=[iV k]/\k<=n/\FW w2 w' g n (fil n k)) 0 (z0 _) ⟨rfl,z0 _,gV⟩ ?_;rintro k mk u w4 gx ⟨hu,gy,g0⟩;try replace hu:=cJ hu
 rw[hu];refine bM<|br (λgz=>?_) λgA=>?_
 ·have hk:k<n:=oo;refine oA (α:=Int) rfl bG aG hk<|oC (α:=Int) rfl aG g0.mine (by rw[cB,Mj gy]) hk (tN (v:=63) oo) λw5 gW gX=>?_;have gd:=g0.set (v:=63) gW gX;rw[Lc hk]at gd;refine aU<|⟨mk-1,oo,k+1,oo,rfl,oo,gd⟩
 have hk:k=n:=oo;rw[hk,Lx]at g0
 have gY:MS c (List.replicate n 63) (λi=>¬bU c (eC c i).toNat):=⟨by simp[hnn],λi hi hd=>by
   rw[<-pQ so];obtain⟨p,_,h1,_⟩:=LR hc hi;have gB:¬bU c (eC c i).toNat:=hd;rw[h1,qM]at gB;rw[G9 (p:=p) h1 gB];simp⟩
 generalize List.replicate n 63=out at *;clear hu gx;have hus:rL c<256:=uW h8.1;refine bZ.mk rfl<|aE ON<|aS aG hW.used (e2.trans g0.ext) λ_=>(JO (m:=rL c) oo).mono ?_;rintro gC w5 ⟨gZ,gf⟩;unfold rL at gf;rw[MT oo]at gf;have gd:=g0.step gZ;have hg4:=g0.lt;have hL:∀p,p∈cC c.P.length (bU c)↔bU c p:=λp=>by rw[mG];exact⟨λh=>h.2,λh=>⟨h.lt hc,h⟩⟩
 have hLl:(cC c.P.length (bU c)).length<=8:=eH pC h8.1;generalize cC c.P.length (bU c)=L at *;have h4:=gf.toI;generalize hlo:w4.heap.size=lo at *;generalize hhi:w5.heap.size=hi at *;refine aX bG gf.is ?_;rw[cB];refine bV L.length (λk us w'=>∃(out':List Nat),us=[iV k]/\k<=L.length/\FW w2 w' g n out'/\aK lo hi w' gC (bN L)/\MS c out' (λi=>¬bU c (eC c i).toNat\/(eC c i).toNat∈L.take k)) 0 (z0 _) ⟨out,rfl,z0 _,gd,h4,gY.mono λj _ h=>h.elim id λh=>by simp at h⟩ ?_;rintro k mk u w8 gx ⟨gj,hu,gy,D,gD,gE⟩;try replace hu:=cJ hu
 rw[hu];refine bM<|br (λgz=>?_) λgA=>?_
 case refine_2=>
   rw[gE.fin λj _=>by
     by_cases hu:bU c (eC c j).toNat
     ·exact .inr (by rw[iO oo];exact(hL _).2 hu)
     exact .inl hu]at D
   exact⟨g1.t D.ext,D.own.mono oo⟩
 have hk:k<L.length:=oo;refine bC bG aG (i:=k) gD.is (by rw[cB];exact hk) λ_ _ gF=>?_;rw[nI]at gF;refine aS aG gF xx λ_=>?_;have h5:=λx=>BJ hk (x:=x);have gG:=(hL L[k]).1 (cY hk);generalize L[k]=p at *;have g2:=gG.lt hc;have g3:p<c.E.length:=by rw[hc.2.1.1];exact g2
 have e8:=e2.trans D.ext;refine bC bG aG (i:=p) gR (by rw[cB,Ad];exact g2) λ_ _ gH=>?_;rw[oQ,Hv g2]at gH;refine aS aG gH D.ext λ_=>(Ha hW.wl e8 gQ D.ext hc gO g2 (h:=AK c p) ED).mono ?_;rintro h6 w9 ⟨gI,h9⟩;have gJ:=D.step gI;have ha:=gD.ext gI;have hg8:=D.lt;have hb:=h9.toI;have e9:=e2.trans gJ.ext;generalize hl8':w8.heap.size=lo8 at *;generalize hl9:w9.heap.size=lo9 at *;obtain⟨he,_,_⟩:=vM hc g3;obtain⟨hf,_,_⟩:=yF hc g2;obtain⟨_,_,_⟩:=HM hc g3;have gl:∀i,eN c p<=i->i<=zN c p->bD (lL c (fC c) p (AK c p)) i=BU c i:=λi h1 h2=>(Xa (Fa hc g3 h1 h2) gG).symm
 have hh:∀i,i<c.I.length->(eC c i).toNat=p->eN c p<=i/\i<=zN c p:=λi hi h=>by
   obtain⟨q,_,h1,h2⟩:=LR hc hi;have:q=p:=by rw[h1,qM]at h;exact h
   subst this;exact h2
 have hj:(lL c (fC c) p (AK c p)).length=c.I.length:=LF _ _ _ _;have gn:=WF (c:=c) (T:=fC c) (p:=p) (h:=AK c p);generalize lL c (fC c) p (AK c p)=fl at *;refine bZ.mk rfl<|aE mT<|aE kJ<|aL dT (lJ hW.wl.code) e9 λ_ hl=>bC bG aG hl g3 λ_ _ gK=>?_;rw[mP g3,he]at gK;refine aS aG gK e9 λ_=>?_;generalize hE:eN c p=E at *;generalize hZ:zN c p=Z at *;refine bV (Z+1-E) (λj us w'=>∃(out':List Nat),us=[iV ((E+j:Nat):Int)]/\E+j<=Z+1/\FW w2 w' g n out'/\aK lo hi w' gC (bN L)/\aK lo8 lo9 w' h6 (bN fl)/\MS c out' (λi=>¬bU c (eC c i).toNat\/(eC c i).toNat∈L.take k\/(E<=i/\i<E+j))) 0 (z0 _) ⟨gj,rfl,oo,gJ,ha,hb,gE.mono λi _ h=>h.imp id λh=>h.resolve_right λh=>oo⟩ ?_;rintro j mj u _ _ ⟨g4,hu,_,g5,gp,gq,O⟩;try replace hu:=cJ hu
 rw[hu];have gL:=e2.trans g5.ext;refine bZ.mk rfl<|aE mT<|aL cP hW.wl.code gL λ_ hq=>(PX hq gL oo).mM λ_ C=>?_;rw[hf];have V:=g5.step C;have g9:=gp.ext C;have gb:=gq.ext C;refine bM<|br (λgz=>?_) λgA=>?_
 case refine_2=>
   refine aU<|⟨mk-1,oo,k+1,oo,g4,rfl,oo,V,g9,O.mono λi hi h=>?_⟩;rcases h with h|h
   ·exact .inl h
   rcases(h5 _).1 h with h|h
   ·exact .inr (.inl h)
   have:=hh i hi h;exact .inr (.inr oo)
 have gg:E+j<n:=oo;have hv:=gl (E+j) oo oo;have hr:=yL gn (E+j);refine bC bG aG (i:=E+j) gb.is (by rw[cB,hj,hnn];exact gg) λ_ _ gM=>?_;rw[oQ]at gM;refine aS aG gM xx λ_=>oA (α:=Int) rfl bG aG gg<|oC (α:=Int) rfl aG V.mine (by rw[cB,O.1,hnn]) gg (tN (v:=bD fl (E+j)) oo) λ_ gc gr=>?_;have gs:=V.set (v:=bD fl (E+j)) gc gr;have M:=FJ gc;refine aU<|⟨mj-1,oo,j+1,oo,_,rfl,oo,gs,g9.chg M oo,gb.chg M oo,O.set (by rw[hnn];exact gg) hv λi h=>?_⟩;by_cases e:i=E+j
 ·exact .inr e
 exact .inl (h.imp id λh=>h.imp id λh=>oo)
def pz(h0:Is W0 v0 c)(e0:aB W0 w)(hc:aM c) :
   aJ tp 173 [v0] w λr w'=>aB w w'/\eG w.heap.size w' r (bN (BW c)):=by
 refine co (g:=kf [] [(6,4611686018425291648,[7]),(10,4611683819404132864,[9])] [(8,[0,1,2,3,4,5,6,7,8],0)]) Tryz.func173 ?_;have h8:=hc.1.p8;have gL:=hc.f.I;have gM:=Fm c;refine iR h0 e0 λ_ gB hA=>?_;have hs0:=gB.size;refine aL cP hA xx λ_ gN=>(mv gN xx hc).mono ?_;rintro _ _ ⟨g5,gC⟩;have hs1:=g5.size;refine aL cP hA g5 λ_ gO=>(sw gO g5 gC.is xx hc).mono ?_;rintro _ _ ⟨C,gp⟩;have gP:=C.size;refine aL cP hA xx λ_ gQ=>(Df gQ xx hc).mono ?_;rintro _ w2 ⟨gn,gR⟩;have hs2:=gn.size;have D:=g5.t (C.t gn);have gS:=gC.is.ext (C.t gn);have gT:=gp.is.ext gn;have gU:=gR.is;refine aE eW<|aL eJ (fV hA) D λ_ gV=>aX eQ gV ?_;have hn:c.I.length=c.I.length:=rfl;generalize hnn:c.I.length=n at hn;rw[hnn]at gL;have hz0:=(yF hc h8.2).2.2;refine FK oo oo λw3 gW gX=>?_;generalize hg:w2.heap.size=g at *;have gY:FW w2 w3 g n (List.replicate n 0):=⟨gW,gX,oo⟩;refine bV c.P.length (λk us w'=>∃(out':List Nat),us=[iV k]/\k<=c.P.length/\FW w2 w' g n out'/\MS c out' (λi=>(eC c i).toNat<k)) 0 (z0 _) ⟨_,rfl,z0 _,gY,by simp[hnn],λi _ h=>oo⟩ ?_;rintro p mk u w8 _ ⟨gq,hu,_,gb,gD⟩;try replace hu:=cJ hu
 rw[hu];have e8:=D.t gb.ext;refine aE lQ<|aL dC (nF hA) e8 λ_ gZ=>aX cL gZ<|bM<|br (λh4=>?_) λh5=>?_
 case refine_2=>rw[gD.fin λj hj=>by obtain⟨q,hq,h1,_⟩:=LR hc hj;rw[h1,qM];omega]at gb;exact⟨xx,gb.own.mono oo⟩
 have g0:p<c.P.length:=oo;have g9:p<c.E.length:=by rw[hc.2.1.1];exact g0
 have gE:=cO w8;have O:=gb.step gE;have gF:=e8.trans gE;generalize World.drew1 w8=w8d at *;refine aL cP hA gF λ_ h6=>bC bG aG (i:=p) gT (by rw[cB,Ad];exact g0) λ_ _ gG=>?_;rw[oQ,Hv g0]at gG;refine aS aG gG O.ext λ_=>(Oy h6 gF gS O.ext hc gM g0 (h:=AK c p) ED).mono ?_;rintro h9 w9 ⟨ha,hb⟩;have gH:=O.step ha;have hg8:=O.lt;have hd:=hb.toI;have e9:=D.t gH.ext;generalize hl8':w8d.heap.size=lo8 at *;generalize hl9:w9.heap.size=lo9 at *;obtain⟨he,_,_⟩:=vM hc g9;obtain⟨_,hh,_⟩:=yF hc g0;obtain⟨_,_,_⟩:=HM hc g9;have gr:bU c p->∀i,eN c p<=i->i<=zN c p->bD (lL c (fC c) p (AK c p)) i=BU c i:=λhu i h1 h2=>(Xa (Fa hc g9 h1 h2) hu).symm;have gc:¬bU c p->∀i,eN c p<=i->i<=zN c p->63=BU c i:=λhu i h1 h2=>(G9 (Fa hc g9 h1 h2) hu).symm
 have hk:∀i,i<c.I.length->(eC c i).toNat=p->eN c p<=i/\i<=zN c p:=λi hi h=>by
   obtain⟨q,hq,h1,h2⟩:=LR hc hi;have:q=p:=by rw[h1,qM]at h;exact h
   subst this;exact h2
 have hl:(lL c (fC c) p (AK c p)).length=c.I.length:=LF _ _ _ _;have gs:=WF (c:=c) (T:=fC c) (p:=p) (h:=AK c p);generalize lL c (fC c) p (AK c p)=fl at *;refine aE kJ<|aL dT (lJ hA) e9 λ_ hr=>bC bG aG hr g9 λ_ _ gI=>?_;rw[mP g9,he]at gI;refine aS aG gI e9 λ_=>?_;generalize hE:eN c p=E at *;generalize hZ:zN c p=Z at *;refine bV (Z+1-E) (λj us w'=>∃(out':List Nat),us=[iV ((E+j:Nat):Int)]/\E+j<=Z+1/\FW w2 w' g n out'/\aK lo8 lo9 w' h9 (bN fl)/\MS c out' (λi=>(eC c i).toNat<p\/(E<=i/\i<E+j))) 0 (z0 _) ⟨gq,rfl,oo,gH,hd,gD.mono λi _ h=>h.resolve_right λh=>oo⟩ ?_;rintro j mj u _ _ ⟨gd,hu,_,gf,gt,M⟩;try replace hu:=cJ hu
 rw[hu];have gJ:=D.t gf.ext;refine aL cP hA gJ λ_ hs=>(NU hs gJ (p:=(p:Int)) oo oo hc.2.1.nonneg).mM λ_ g1=>?_;rw[hh];have g2:=gf.step g1;have gx:=gt.ext g1;refine tR<|br (λh4=>?_) λh5=>?_
 case refine_2=>
   refine aU<|⟨mk-1,oo,p+1,oo,gd,rfl,oo,g2,M.mono λi hi h=>?_⟩;by_cases e:(eC c i).toNat=p
   ·have:=hk i hi e;exact .inr oo
   exact .inl oo
 have g3:E+j<n:=oo;refine oA (α:=Int) rfl bG aG g3<|oC (α:=Int) rfl aG g2.mine (by rw[cB,M.1,hnn]) g3 (tN (v:=63) oo) λ_ gg gy=>?_;have V:=g2.set (v:=63) gg gy;have gh:=FJ gg;have g4:=gx.chg gh oo;refine bC eY cE (i:=p) gU (by rw[dZ];exact g0) λ_ _ ht=>iY cE ht V.ext ?_;have gz:=lY (n:=c.P.length) (p:=bU c) (i:=p);rw[kS (by rw[dZ];exact g0)]at gz
 have hD:∀i:Nat,((eC c i).toNat<p\/(E<=i/\i<E+(j+1)))->((eC c i).toNat<p\/(E<=i/\i<E+j))\/i=E+j:=λi h=>by
   by_cases e:i=E+j
   ·exact .inr e
   exact .inl (h.imp id λh=>oo)
 refine bW (λhf=>?_) λhf=>?_
 ·have hv:=gr (gz.1 hf).2 (E+j) oo oo;have hw:=yL gs (E+j);refine bC bG aG (i:=E+j) g4.is (by rw[cB,hl,hnn];exact g3) λ_ _ gK=>?_;rw[oQ]at gK;refine aS aG gK xx λ_=>oA (α:=Int) rfl bG aG g3<|oC (α:=Int) rfl aG V.mine (by rw[cB,HN,M.1,hnn]) g3 (tN (v:=bD fl (E+j)) oo) λ_ gi gA=>?_;have gj:=V.set (v:=bD fl (E+j)) gi gA;have gl:=FJ gi;rw[List.set_set]at gj;refine aU<|⟨mj-1,oo,j+1,oo,_,rfl,oo,gj,g4.chg gl oo,M.set (by rw[hnn];exact g3) hv hD⟩
 have hv:=gc (λh=>by rw[gz.2 ⟨g0,h⟩]at hf;cases hf) (E+j) oo oo;refine aU<|⟨mj-1,oo,j+1,oo,_,rfl,oo,V,g4,M.set (by rw[hnn];exact g3) hv hD⟩
def MC(c:aF)(ms:List Bool)(i:Nat):Prop:=
 ((bO c i).op=4->cN ms (eN c (bS c i))/\(cN ms (zN c (bS c i))->∀j∈cQ c i,cN ms j))/\(¬(bO c i).op=4->∀j∈cQ c i,cN ms j)
structure TP(c:aF)(ms0:List Bool)(ag:Bool)(ms:List Bool)(k:Nat):Prop where
 len:ms.length=c.I.length
 snd:∀i,cN ms i->cD c i
 root:∀p,bE c p->cN ms (eN c p)
 yes:ag=true->rR ms0<rR ms
 no:ag=false->ms=ms0/\∀i,i<k->cN ms0 i->MC c ms0 i
def KQ{ms:List Bool}(h:cN ms j):cN (ms.set i true) j:=by
 by_cases hi:i<ms.length
 ·exact(wI hi).2 (.inl h)
 rw[Xy oo];exact h
def YM{ms:List Bool}(h:cN ms i):ms.set i true=ms:=by
 have hl:=Ml h;rw[kS hl]at h;rw[<-h];exact n9 hl
def PV(ms:List Bool)(i:Nat)(ag:Bool):Bool:=ag || !ms.getD i false
def Si{ms:List Bool}{ag:Bool}(h:cN ms i):PV ms i ag=ag:=by
 unfold cN at h;unfold PV;rw[h];simp
def Uf{ms:List Bool}{ag:Bool}(h:¬cN ms i):PV ms i ag=true:=by
 unfold cN at h;unfold PV;rw[WZ]at h;rw[h];simp
theorem TP.meet{g0 ms:List Bool}{ag:Bool}(h:TP c g0 ag ms k)(hi:i<c.I.length)(hm:cD c i):TP c g0 (PV ms i ag) (ms.set i true) k:=by
 by_cases hk:cN ms i
 ·rw[Si hk,YM hk];exact h
 rw[Uf hk];have:=VN (by rw[h.len];exact hi) hk;refine⟨by simp[h.len],λj hj=>?_,λp hp=>KQ (h.root p hp),λ_=>?_,λe=>by cases e⟩
 ·rcases(wI (by rw[h.len];exact hi)).1 hj with h1|h1
  ·exact h.snd j h1
  rw[h1];exact hm
 cases ag with
 |true=>have:=h.yes rfl;omega
 |false=>rw[<-(h.no rfl).1];omega
def TP.next{ms0 ms:List Bool}{ag:Bool}(h:TP c ms0 ag ms k)(hk:cN ms k->MC c ms k):TP c ms0 ag ms (k+1):=
 ⟨h.len,h.snd,h.root,h.yes,λe=>⟨(h.no e).1,λi hi hm=>by
   by_cases e2:i=k
   ·subst e2;rw[(h.no e).1]at hk;exact hk hm
   exact(h.no e).2 i oo hm⟩⟩
def TP.fin(hc:aM c){g1 ms:List Bool}(h:TP c g1 false ms c.I.length):ms=nH c:=by
 obtain⟨h1,h2⟩:=h.no rfl;refine DS h.len λi hi=>⟨h.snd i,λhm=>?_⟩;have hC:ML c (cN ms):=⟨h.root,λi hi ho=>?_,λi j hi ho hj=>?_,λi j hi ho hz hj=>?_⟩
 ·exact hC.all hm
 all_goals
   have g0:=Ml hi;rw[h.len]at g0;have:=h2 i g0 (by rw[<-h1];exact hi);rw[<-h1]at this
 ·exact(this.1 ho).1
 ·exact this.2 ho j hj
 exact(this.1 ho).2 hz j hj
def TP.again{ms0 ms:List Bool}{ag:Bool}(h:TP c ms0 ag ms k):TP c ms false ms 0:=
 ⟨h.len,h.snd,h.root,λe=>(by cases e),λ_=>⟨rfl,λi hi=>oo⟩⟩
def oD(m n:Nat):Prop:=∀l,l<6->m.testBit l=true->n.testBit l=true
def HC(c:aF)(out:List Nat)(i:Nat):Prop:=
 ((bO c i).op=4->oD (bD out i) (bD out (eN c (bS c i)))/\(cD c (zN c (bS c i))->∀j∈cQ c i,oD (bD out (zN c (bS c i))) (bD out j)))/\(¬(bO c i).op=4->∀j∈cQ c i,oD (aft c [] i (bD out i)) (bD out j))
structure HP(c:aF)(out0:List Nat)(ag:Bool)(out:List Nat)(k:Nat):Prop where
 len:out.length=c.I.length
 lt:∀x∈out,x<64
 snd:∀i l,i<c.I.length->(bD out i).testBit l=true->fT c i l/\cD c i
 yes:ag=true->out0.sum<out.sum
 no:ag=false->out=out0/\∀i,i<k->cD c i->HC c out0 i
def HP.lt0{out0 out:List Nat}{ag:Bool}(h:HP c out0 ag out k)(i:Nat):bD out i<64:=yL h.lt i
def zAh(h:n ||| m=n):oD m n:=λl _ hb=>by
 rw[<-h,vA,hb];simp
def Tg:oD m (n ||| m):=λl _ hb=>by rw[vA,hb];simp
def Ry(h:oD k n):oD k (n ||| m):=λl hl hb=>by rw[vA,h l hl hb];rfl
def Tl(hm:m<64)(hn:n<64):sH m n=0↔oD m n:=by
 constructor
 ·intro h l _ hb;have:=cS (·.testBit l) h;simp only[AE,hb,KF,ZB,WR]at this;exact this
 intro h;refine KW λl=>?_;rw[AE,ZB];cases e:m.testBit l
 ·rfl
 rw[h l (ID hm e) e];rfl
def ZQ(hm:m<64)(hn:n<64):n ||| m<64:=zO (n:=6) hn hm
def ZA(h:¬n ||| m=n):n<n ||| m:=by
 have:n<=n ||| m:=Nat.left_le_or;omega
theorem HP.add{out0 out:List Nat}{ag:Bool}(h:HP c out0 ag out k)(hi:i<c.I.length)(hm:m<64)(g1:cD c i)(g0:∀ l,l<6->m.testBit l=true->fT c i l)(hn:¬oD m (bD out i)):HP c out0 true (out.set i (bD out i ||| m)) k:=by
 have g2:=h.lt0 i;refine⟨by simp[h.len],λx hx=>?_,λj l hj hb=>?_,λ_=>?_,λe=>by cases e⟩
 ·rcases OS hx with rfl|hx
  ·exact ZQ hm g2
  exact h.lt x hx
 ·rw[uF (by rw[h.len];exact hi)]at hb;split at hb
  ·rename_i e;subst e;rw[vA,vB]at hb;rcases hb with hb|hb
   ·exact h.snd i l hj hb
   exact⟨g0 l (ID hm hb) hb,g1⟩
  exact h.snd j l hj hb
 have:=QU (l:=out) (i:=i) (v:=bD out i ||| m) (by rw[h.len];exact hi);have:=ZA (m:=m) (n:=bD out i) λe=>hn (zAh e);cases ag with
 |true=>have:=h.yes rfl;omega
 |false=>rw[<-(h.no rfl).1];omega
def HP.next{out0 out:List Nat}{ag:Bool}(h:HP c out0 ag out k)(hk:ag=false->cD c k->HC c out k):HP c out0 ag out (k+1):=
 ⟨h.len,h.lt,h.snd,h.yes,λe=>⟨(h.no e).1,λi hi hm=>by
   by_cases e2:i=k
   ·subst e2;have:=hk e hm;rw[(h.no e).1]at this;exact this
   exact(h.no e).2 i oo hm⟩⟩
def Oj(h4:¬(bO c i).op=4):(aft c [] i m).testBit l=true↔¬((bO c i).op=7/\bS c i=l)/\(((bO c i).op=6/\bS c i=l)\/m.testBit l=true):=by
 rw[<-Bool.not_eq_false,XT];unfold UE VX;have e4:((bO c i).op=4)=False:=eq_false h4;simp only[e4,false_and,dI,not_false_eq_true,and_true,not_or,not_and,Bool.not_eq_false];constructor
 ·rintro⟨h1,h2⟩;refine⟨h1,?_⟩;by_cases e:(bO c i).op=6/\bS c i=l
  ·exact .inl e
  exact .inr (h2 λa b=>e ⟨a,b⟩)
 rintro⟨h1,h2⟩;refine⟨h1,λh3=>?_⟩;rcases h2 with h2|h2
 ·exact absurd h2.2 (h3 h2.1)
 exact h2
def Us(h4:¬(bO c i).op=4)(hm:cD c i)(hj:j∈cQ c i)(g0:m.testBit l=true->fT c i l)(hb:(aft c [] i m).testBit l=true):fT c j l:=by
 obtain⟨h1,h2⟩:=(Oj h4).1 hb;rcases h2 with h2|h2
 ·exact .lock hm h2.1 h2.2 hj
 exact .pass hm h4 h1 (g0 h2) hj
def HC.may(hc:aM c)(h:∀ i,cD c i->HC c out i):OD c λi l=>(bD out i).testBit l=true:=by
 refine⟨λi j hm ho hj=>?_,λi j l hm hl ho ha hb hj=>?_,λi l hm hl ho hb=>?_,λi j l hm hl ho hz hb hj=>?_⟩
 ·have ha:=yD hc (hm.lt hc) (.inl ho);exact(h i hm).2 oo j hj _ ha.2.2 ((Oj oo).2 ⟨λh=>oo,.inl ⟨ho,rfl⟩⟩)
 ·exact(h i hm).2 ho j hj l hl ((Oj ho).2 ⟨ha,.inr hb⟩)
 ·exact((h i hm).1 ho).1 l hl hb
 exact((h i hm).1 ho).2 hz j hj l hl hb
def Qd(hc:aM c){out:List Nat}(g0:out.length=c.I.length)(g1:∀ x∈out,x<64)(hs:∀ i l,i<c.I.length->(bD out i).testBit l=true->fT c i l)(h:∀ i,cD c i->HC c out i):out=xL c:=by
 refine wE (by rw[g0,As]) λi h1 h2=>?_;have hi:i<c.I.length:=by rw[<-g0];exact h1
 rw[pQ h1,pQ h2,Kx hi];exact XY (yL g1 i) λl hl=>⟨hs i l hi,λhm=>(HC.may hc h).all hl hm⟩
def HP.fin(hc:aM c){out0 out:List Nat}(h:HP c out0 false out c.I.length):out=xL c:=by
 obtain⟨h1,h2⟩:=h.no rfl;exact Qd hc h.len h.lt (λi l hi hb=>(h.snd i l hi hb).1) λi hm=>by rw[h1];exact h2 i (hm.lt hc) hm
def HP.again{out0 out:List Nat}{ag:Bool}(h:HP c out0 ag out k):HP c out false out 0:=
 ⟨h.len,h.lt,h.snd,λe=>(by cases e),λ_=>⟨rfl,λi hi=>oo⟩⟩
def HP.start:HP c (List.replicate c.I.length 0) false (List.replicate c.I.length 0) 0:=
 ⟨ss,λx hx=>by rw[(Ja.1 hx).2];omega,λi l hi hb=>by rw[<-pQ (by simp;exact hi)]at hb;simp at hb,λe=>(by cases e),λ_=>⟨rfl,λi hi=>oo⟩⟩
def HP.sum_le{out0 out:List Nat}{ag:Bool}(h:HP c out0 ag out k):out.sum<=c.I.length*63:=by
 rw[<-h.len];exact Go.Proofs.YtcaakhmhlfgogaaGreatDoor.sum_le λx hx=>by have:=h.lt x hx;omega
end Go.Proofs.YtcaakhmhlfgogaaGreatDoor
namespace Go.Sh
open Rep (rep)
variable {F:List Nat}{cs:List vL}{e g:Nat}{w w' w0:wD}
def aN.one(h:aN g (g+1) w w'):cH [g] w w':=⟨h.os,h.tape,h.output,h.size,λb hb hn=>h.block b hb (by simp at hn;omega)⟩
def aK.chgF{α:Type}[Rep α]{w w':wD}{lo hi:Nat}{v:vL}{x:α}{F:List Nat}(h:aK lo hi w v x)(hc:cH F w w')(hd:∀ b∈F,b<lo\/hi<=b):aK lo hi w' v x:=by
 obtain⟨G,hm,hG⟩:=h;exact⟨G,hm.keep λb hb=>hc.block b (hm.lt b hb) λhF=>by have:=hG b hb;have:=hd b hF;omega,hG⟩
def cA.chgF(h:cA g e w cs)(hc:cH F w w')(hd:g∉F):cA g e w' cs:=h.keep (hc.block g h.lt hd)
def aB.chgF(h:aB w0 w)(hc:cH F w w')(hd:∀ b∈F,w0.heap.size<=b):aB w0 w':=
 ⟨hc.os.trans h.os,hc.tape.trans h.tape,hc.output.trans h.output,eH h.size hc.size,λb hb=>(hc.block b (kP hb h.size) λhF=>by have:=hd b hF;omega).trans (h.block b hb)⟩
end Go.Sh
namespace Go.Proofs.YtcaakhmhlfgogaaGreatDoor
open Go Go.Sh Go.Proofs
open Rep (rep)
variable {P:pG}{W0 W1 w:wD}{b f h0 hi i k lo m:Nat}{c:aF}{t:TypeId}{u v v1 z:vL}
def PI{args caps:List vL}{K:VW}(hE:xT P f=true)(h:aJ P f (args++caps) w K):AR P (LK (.func (.func f) #[] caps.toArray) args) w K:=by
 obtain⟨h⟩:=h;refine .enter f (args++caps).toArray w ?_ h;simp[LK,Deferred.ofValue,invoke,XM hE]
def b6:xT tp 210=true:=by kernel_rfl
def Zh:xT tp 217=true:=by kernel_rfl
def zJg:kO tp 125=some [.slice none 0 0]:=by kernel_rfl
def xr:kO tp 31=some [.slice none 0 0]:=by kernel_rfl
def yG(h:u.oneCell'=true):aK lo hi w u (⟨u⟩:dM):=⟨[],⟨⟨[u],⟨rfl,rfl,h⟩,rfl⟩,kM,Wr.nil _⟩,ss⟩
def JQ{t by_:Nat}{K:VW}(hz:kO tp t=some [z])(ht:cT tp t=some (1,by_,false))(hu:u.oneCell'=true)(k:∀ w',aB w w'->cA w.heap.size t w' [u]->K (pT w.heap.size 0) w') :
   OP tp (Instr.alloc t true (.tuple #[])) w λp w1=>fA tp (Instr.storeAt t p u) w1 λw2=>K p w2:=by
 refine rK hz λw1 g0 g1=>qL (α:=dM) (lo:=0) (hi:=0) ht rfl rfl g1 ss (yG hu) λw2 g2 g3=>k w2 (g0.xI g2 (lr _)) g3
structure MW(w1 w:wD)(gv g ga n:Nat)(ms:List Bool)(ag:Bool):Prop where
 ext:aB w1 w
 var:cA gv 125 w [.slice (some ⟨g,0,none⟩) n n]
 mks:aZ [g] w (.slice (some ⟨g,0,none⟩) n n) ms
 agn:cA ga 4 w [.bool ag]
 n1:gv≠g
 n2:gv≠ga
 n3:g≠ga
 g0:w1.heap.size<=g
 g1:w1.heap.size<=gv
 g2:w1.heap.size<=ga
section
variable {w1 w w':wD}{gv g ga n:Nat}{ms:List Bool}{ag:Bool}
def MW.step(h:MW w1 w gv g ga n ms ag)(hx:aB w w'):MW w1 w' gv g ga n ms ag:=⟨h.ext.trans hx,h.var.ext hx,h.mks.ext hx,h.agn.ext hx,h.n1,h.n2,h.n3,h.g0,h.g1,h.g2⟩
def MW.mark{ms':List Bool}(h:MW w1 w gv g ga n ms ag)(hc:cH [g] w w')(hm:aZ [g] w' (.slice (some ⟨g,0,none⟩) n n) ms'):MW w1 w' gv g ga n ms' ag:=
 ⟨h.ext.chgF hc (by simp[h.g0]),h.var.chgF hc (by simp[h.n1]),hm,h.agn.chgF hc (by simp[Ne.symm h.n3]),h.n1,h.n2,h.n3,h.g0,h.g1,h.g2⟩
def MW.agains{ag':Bool}(h:MW w1 w gv g ga n ms ag)(hc:cH [ga] w w')(hB:cA ga 4 w' [.bool ag']):MW w1 w' gv g ga n ms ag':=
 ⟨h.ext.chgF hc (by simp[h.g2]),h.var.chgF hc (by simp[h.n2]),h.mks.keep λb hb=>by
   simp only[bF,dL,dI]at hb;subst hb;exact hc.block b (h.mks.lt b ss) (by simp[h.n3]),hB,h.n1,h.n2,h.n3,h.g0,h.g1,h.g2⟩
def MW.cell{ga':Nat}{ag':Bool}(h:MW w1 w gv g ga n ms ag)(hx:aB w w')(hB:cA ga' 4 w' [.bool ag'])(hg:w.heap.size<=ga'):MW w1 w' gv g ga' n ms ag':=
 ⟨h.ext.trans hx,h.var.ext hx,h.mks.ext hx,hB,h.n1,by have:=h.var.lt;omega,by have:=h.mks.lt g ss;omega,h.g0,h.g1,by have:=h.ext.size;omega⟩
def cr{i:Nat}(h:MW w1 w gv g ga n ms ag)(hi:i<n)(hl:ms.length=n) :
   aJ tp 210 [iV i,pT gv 0,pT ga 0] w λr w'=>r=.tuple #[]/\MW w1 w' gv g ga n (ms.set i true) (PV ms i ag)/\cH [g,ga] w w':=by
 refine co (g:=kf [] [] []) Tryz.func210 ?_;refine cX lT h.var rfl<|bC eY cE h.mks.is (by rw[hl];exact hi) λ_ _ g3=>iY cE g3 xx ?_;have g0:=kS (ms:=ms) (i:=i) (by rw[hl];exact hi);refine dG<|bW (λhf=>?_) λhf=>?_
 ·have hn:¬cN ms i:=by rw[g0];simpa using hf
  rw[Uf hn];refine cX lT h.var rfl<|oA (α:=Bool) rfl eY cE hi<|oC (α:=Bool) rfl cE h.mks hl hi zD λ_ g1 g4=>?_;have h2:=h.mark g1 g4;refine qL (α:=dM) (lo:=0) (hi:=0) cE rfl rfl h2.agn ss (yG rfl) λ_ g2 g5=>⟨rfl,h2.agains g2.one g5,(g1.mono ss).trans (g2.one.mono ss)⟩
 have hy:cN ms i:=by rw[g0];simpa using hf
 rw[Si hy,YM hy];exact⟨rfl,h,cH.refl _ _⟩
end
def ao(hW:tI W0 b c)(e0:aB W0 w)(hc:aM c) :
   aJ tp 148 [pT b 0] w λr w'=>aB w w'/\eG w.heap.size w' r (nH c):=by
 refine co (g:=kf [(18,19342812825603690643587072,[])] [(3,1099478073376,[25]),(8,316912650057057349274664176576,[6]),(12,158456325028528393712111192832,[48]),(19,78918677504442992524819171328,[88])] [(5,[0,1,2,3,4,5,6,7,8,9,10],0),(16,[0,1,2,3,4,5,6,7,8,9,10],0),(17,[0,1,2,3,4,5,6,7,8,9,10,11],128)]) Tryz.func148 ?_;have h8:=hc.1.p8;have hQ:=hc.f.I;have C:=hW.wl.code;refine bZ.mk rfl<|aE mT<|aE eW<|aL eJ (fV C) e0 λ_ hR=>aX eQ hR ?_;have hz0:=(yF hc h8.2).2.2;have hn:c.I.length=c.I.length:=rfl;generalize hnn:c.I.length=n at hn;rw[hnn]at hQ;refine JC oo oo λw1 hr hs=>?_;have hg1:=hs.lt _ (oY.2 rfl);generalize hg:w.heap.size=g at *;refine JQ zJg lT rfl λw2 gI ht=>?_;have hS:=hs.ext gI;generalize hgv:w1.heap.size=gv at *;refine bZ.mk rfl<|aE OQ<|aS aG hW.roots xx λ_=>?_;have hrs:sD c<256:=uW h8.1;refine(JO (m:=sD c) oo).mono ?_;rintro hU w3 ⟨gJ,gg⟩;unfold sD at gg;rw[MT oo]at gg;have hL:∀p,p∈cC c.P.length (bE c)↔bE c p:=λp=>by rw[mG];exact⟨λh=>h.2,λh=>⟨h.lt hc,h⟩⟩
 have hLl:(cC c.P.length (bE c)).length<=8:=eH pC h8.1;generalize cC c.P.length (bE c)=L at *;have hV:=ht.lt;refine aX bG gg.is ?_;rw[cB];refine bV L.length (λk us w'=>∃ms,us=[iV k]/\k<=L.length/\aB w w'/\cA gv 125 w' [.slice (some ⟨g,0,none⟩) n n]/\aZ [g] w' (.slice (some ⟨g,0,none⟩) n n) ms/\aK w2.heap.size w3.heap.size w' hU (bN L)/\ms.length=n/\(∀i,cN ms i->cD c i)/\∀p∈L.take k,cN ms (eN c p)) 0 (z0 _) ⟨_,rfl,z0 _,xx,ht.ext gJ,hS.ext gJ,gg.toI,ss,λi h=>absurd h GY,ss⟩ ?_;rintro k mk u w4 hv ⟨ms,hu,hX,gK,gL,gM,gN,gh,gi,gj⟩;try replace hu:=cJ hu
 rw[hu];refine bM<|br (λhw=>?_) λhx=>?_
 ·have hk:k<L.length:=oo;refine bC bG aG (i:=k) gN.is (by rw[cB];exact hk) λ_ _ hy=>?_;rw[nI]at hy;refine aS aG hy xx λ_=>?_;have hY:=λx=>BJ hk (x:=x);have hz:=(hL L[k]).1 (cY hk);generalize L[k]=p at *;have g2:p<c.E.length:=by rw[hc.2.1.1];exact hz.lt hc
  obtain⟨gO,hA,_⟩:=vM hc g2;have V:=cO w4;have g3:=gK.t V;have gG:=gL.ext V;have hZ:=gM.ext V;have j0:=gN.ext V;generalize World.drew1 w4=w5 at *;refine cX lT gG rfl<|bZ.mk rfl<|aE mT<|aE kJ<|aL dT (lJ C) xx λ_ j1=>bC bG aG j1 g2 λb5 o5 gl=>?_;rw[mP g2,gO]at gl;refine aS aG gl xx λ_=>oA (α:=Bool) rfl eY cE oo<|oC (α:=Bool) rfl cE hZ gh oo zD λw6 gP j2=>aU<|⟨mk-1,oo,k+1,oo,_,rfl,oo,g3.chgF gP (by simp[hg]),gG.chgF gP so,j2,j0.chgF gP so,by simp[gh],λi hi=>?_,λq hq=>?_⟩
  ·rcases(wI (by rw[gh];omega)).1 hi with h|h
   ·exact gi i h
   rw[h];exact .root hz
  rcases(hY q).1 hq with h|h
  ·exact KQ (gj q h)
  rw[h];exact(wI (by rw[gh];omega)).2 (.inr rfl)
 have j3:∀p,bE c p->cN ms (eN c p):=λp hp=>gj p (by rw[iO oo];exact(hL p).2 hp);have hT:TP c ms false ms 0:=⟨by rw[gh,hnn],gi,j3,λe=>(by cases e),λ_=>⟨rfl,λi hi=>oo⟩⟩;clear hu hv gN gg;refine JQ SB cE rfl λw5 g3 gG=>?_;have hs4:=gK.size;have j4:MW w w5 gv g w4.heap.size n ms true:=⟨xx,gL.ext g3,gM.ext g3,gG,oo,by have:=gL.lt;omega,by have:=gM.lt g ss;omega,oo,oo,oo⟩;generalize w4.heap.size=ga at *;refine iB.mk (λm us w'=>∃(ga:Nat)(ms:List Bool)(ag:Bool),us=[pT ga 0]/\m=(n-rR ms)+(if ag then 1 else 0)/\MW w w' gv g ga n ms ag/\TP c ms false ms 0/\(ag=false->ms=nH c)) (n-rR ms+1) ⟨ga,ms,true,rfl,rfl,j4,hT,λe=>by cases e⟩ ?_;rintro m u w6 ⟨ga,ms,ag,hu,hm,gf,hB,gQ⟩;try replace hu:=cJ hu
 rw[hu];have j5:=LL ms;rw[hB.len,hnn]at j5;refine cX cE gf.agn rfl<|bW (λgR=>?_) λgR=>?_
 case refine_2=>refine cX lT gf.var rfl ?_;rw[<-gQ gR];exact⟨gf.ext,[g],gf.mks,λb hb=>by simp only[bF,dL,dI]at hb;omega⟩
 rw[gR,aP rfl]at hm;refine qL (α:=dM) (lo:=0) (hi:=0) cE rfl rfl gf.agn ss (yG rfl) λ_ j6 j7=>?_;have hC:=gf.agains j6.one j7;refine dY (v:=.func (.func 210) #[] #[pT gv 0,pT ga 0]) (λw' _=>by simp[Instr.makeFunc])<|bZ.mk rfl<|aE mT<|aE eW<|aL eJ (fV C) (e0.t hC.ext) λ_ hD=>aX eQ hD ?_;rw[hnn];refine bV n (λk us w'=>∃(ms':List Bool)(ag':Bool),us=[iV k]/\k<=n/\MW w w' gv g ga n ms' ag'/\TP c ms ag' ms' k) 0 (z0 _) ⟨ms,false,rfl,z0 _,hC,hB⟩ ?_;rintro k mk u w8 hv ⟨D,gn,hu,hX,g4,M⟩;try replace hu:=cJ hu
 rw[hu];refine bM<|br (λhw=>?_) λhx=>?_
 case refine_2=>
   have j8:k=n:=oo;rw[j8]at M;refine cX cE g4.agn rfl<|JQ SB cE rfl λw9 gS j9=>?_;have gT:=LL D;rw[M.len,hnn]at gT;refine⟨(n-rR D)+(if gn then 1 else 0),?_,_,D,gn,rfl,rfl,g4.cell gS j9 (lr _),M.again,λe=>?_⟩
   ·cases gn with
    |true=>have:=M.yes rfl;simp;omega
    |false=>rw[(M.no rfl).1];simp;omega
   rw[e,<-hnn]at M;exact M.fin hc
 have hk:k<n:=oo;have gH:k<c.I.length:=oo;have gp:D.length=n:=by rw[M.len,hnn]
 refine bC eQ fE hD gH λ_ _ hF=>?_;rw[oM]at hF;refine aL fE hF (e0.t g4.ext) λ_ hG=>mB zL rfl fE rfl hG (e0.t g4.ext) λw9 gS hH hI=>?_;have gq:=g4.step gS;have gU:=uT hG hI rfl;refine cX lT gq.var rfl<|bC eY cE (i:=k) gq.mks.is (by rw[gp];exact hk) λ_ _ ja=>iY cE ja xx<|dG ?_;have gr:=kS (ms:=D) (i:=k) (by rw[gp];exact hk);refine bW (λhf=>?_) λhf=>?_
 ·have gV:¬cN D k:=by rw[gr];simpa using hf
  refine aU<|⟨mk-1,oo,k+1,oo,D,gn,rfl,oo,gq,M.next λh=>absurd h gV⟩
 have jb:cN D k:=by rw[gr];simpa using hf
 have gW:=M.snd k jb;refine dJ.mk (λus w'=>∃(ms':List Bool)(ag':Bool),MW w w' gv g ga n ms' ag'/\TP c ms ag' ms' k/\((bO c k).op=4->cN ms' (eN c (bS c k)))/\∀j∈cQ c k,cD c j) ?_ ?_
 ·refine aE lV ?_;refine aS aG (lW hH) xx λ_=>bI<|br (λc4=>?_) λc4=>?_
  ·obtain⟨hJ,hK⟩:=sW hc gH (.inl c4);have g2:bS c k<c.E.length:=by rw[hc.2.1.1];exact hK
   obtain⟨gO,hA,_⟩:=vM hc g2;obtain⟨jc,_,_⟩:=yF hc hK;have V:=cO w9;have g5:=gq.step V;generalize World.drew1 w9=w10 at *;refine bZ.mk rfl<|aE mT<|aE kJ<|aL dT (lJ C) (e0.t g5.ext) λ_ jd=>aE mE<|aS aG (mF hH) V λ_=>?_;rw[hJ];refine bC bG aG jd g2 λb5 o5 gl=>?_;rw[mP g2,gO]at gl;refine aS aG gl (e0.t g5.ext) λ_=>PI (args:=[_]) (caps:=[_,_]) b6 ((cr (i:=eN c (bS c k)) g5 oo gp).mono ?_);rintro _ hM ⟨rfl,gX,gY⟩;have g9:=M.meet hA (.call gW c4);have hN:cN (D.set (eN c (bS c k)) true) (eN c (bS c k)):=(wI (by rw[gp];omega)).2 (.inr rfl);have gs:=cO hM;have O:=gX.step gs;have je:w8.heap.size<w10.heap.size:=by have:=hI.lt;have:=V.size;omega
   have jf:w8.heap.size∉[g,ga]:=by have h1:=g4.mks.lt g ss;have h2:=g4.agn.lt;simp;omega
   have gt:=(gU.ext V).keep (gY.block _ je jf);have gx:=(gt.ext gs).at (e0.t O.ext);generalize World.drew1 hM=w12 at *;refine cX lT O.var rfl<|bZ.mk rfl<|aE mT<|aL cP C (e0.t O.ext) λ_ jg=>aE mE<|aS aG (mF gx) xx λ_=>?_;rw[hJ];refine(PX jg (e0.t O.ext) oo).mM λ_ gy=>?_;refine⟨gy,?_⟩;have gb:=O.step gy;rw[jc];refine kQ io ?_;rw[show((zN c (bS c k)+1:Nat):Int)-1=(zN c (bS c k):Int) by omega];have gz:(D.set (eN c (bS c k)) true).length=n:=by rw[HN,gp]
   generalize D.set (eN c (bS c k)) true=ms13 at *;refine bC eY cE (i:=zN c (bS c k)) gb.mks.is (by rw[gz];omega) λ_ _ jh=>iY cE jh xx<|dG ?_;have g1:=kS (ms:=ms13) (i:=zN c (bS c k)) (by rw[gz];omega);refine bW (λgc=>?_) λgc=>?_
   ·have gV:¬cN ms13 (zN c (bS c k)):=by rw[g1];simpa using gc
    refine aU<|⟨mk-1,oo,k+1,oo,ms13,_,rfl,oo,gb,g9.next λ_=>⟨λ_=>⟨hN,λh=>absurd h gV⟩,λh=>absurd c4 h⟩⟩
   have ji:cN ms13 (zN c (bS c k)):=by rw[g1];simpa using gc
   exact⟨ms13,_,gb,g9,λ_=>hN,λj hj=>.back gW c4 (g9.snd _ ji) hj⟩
  exact⟨D,gn,gq,M,λh=>absurd h c4,λj hj=>.next gW c4 hj⟩
 rintro us jj ⟨gZ,h5,Z,h6,h9,jk⟩;refine(Fk C (e0.t Z.ext) hc gH).mono ?_;rintro jl jm ⟨ha,gA⟩;have hd:=Z.step ha;have hl2:=OE c k;have jn:=λ{j:Nat}(hj:j∈cQ c k)=>(zZ hc gH hj).1;generalize hNx:cQ c k=N at *;refine aX bG gA.is ?_;rw[cB];refine bV N.length (λq us w'=>∃(ms':List Bool)(ag':Bool),us=[iV q]/\q<=N.length/\MW w w' gv g ga n ms' ag'/\TP c ms ag' ms' k/\((bO c k).op=4->cN ms' (eN c (bS c k)))/\(∀j∈N.take q,cN ms' j)/\aK jj.heap.size jm.heap.size w' jl (bN N)) 0 (z0 _) ⟨gZ,h5,rfl,z0 _,hd,h6,h9,ss,gA.toI⟩ ?_;rintro q mq u _ _ ⟨gB,he,hu,_,gC,gd,gD,g0,gE⟩;try replace hu:=cJ hu
 rw[hu];refine bM<|br (λhw=>?_) λhx=>?_
 case refine_2=>refine aU ?_;rw[iO oo]at g0;exact⟨mk-1,oo,k+1,oo,gB,he,rfl,oo,gC,gd.next λ_=>⟨λh4=>⟨gD h4,λ_=>hNx▸g0⟩,λ_=>hNx▸g0⟩⟩
 have hq:q<N.length:=oo;refine bC bG aG (i:=q) gE.is (by rw[cB];exact hq) λ_ _ hO=>?_;rw[nI]at hO;refine aS aG hO xx λ_=>?_;have jo:=λx=>BJ hq (x:=x);have hj:=cY hq;have jp:=jn hj;have jq:=jk _ hj;generalize N[q]=j at *;have gF:gB.length=n:=by rw[gd.len,hnn]
 refine PI (args:=[_]) (caps:=[_,_]) b6 ((cr (i:=j) gC oo gF).mono ?_);rintro _ _ ⟨rfl,hh,hl⟩;refine aU ?_;have jr:=Z.mks.lt g ss;have hP:=Z.agn.lt;refine⟨mq-1,oo,q+1,oo,_,_,rfl,oo,hh,gd.meet jp jq,λh4=>KQ (gD h4),λi hi=>?_,gE.chgF hl so⟩;rcases(jo i).1 hi with h|h
 ·exact KQ (g0 i h)
 rw[h];exact(wI (by rw[gF];omega)).2 (.inr rfl)
def zFY{K:VW}(h:v.cells=#[v])(k:∀ w',aB w w'->cA w.heap.size t w' [v]->K (pT w.heap.size 0) w'):OP P (Instr.box t v) w K:=
 ⟨_,w.alloc (.cells #[v] t),by simp[Instr.box,newVar,newRow,h],k _ (oK w _) (by unfold cA;rw[heap_alloc_new w _])⟩
def vQ(c:aF)(out:List Nat)(ag:Bool)(i m:Nat)(out':List Nat)(ag':Bool):Prop:=
 (cD c i/\¬oD m (bD out i)/\out'=out.set i (bD out i ||| m)/\ag'=true)\/((cD c i->oD m (bD out i))/\out'=out/\ag'=ag)
def vQ.hp{out0 out g0:List Nat}{ag g2:Bool}(h:vQ c out ag i m g0 g2)(hP:HP c out0 ag out k)(hi:i<c.I.length)(hm:m<64)(g1:∀ l,l<6->m.testBit l=true->fT c i l):HP c out0 g2 g0 k:=by
 rcases h with⟨h1,h2,rfl,rfl⟩|⟨_,rfl,rfl⟩
 ·exact hP.add hi hm h1 g1 h2
 exact hP
def vQ.sub{out g0:List Nat}{ag g1:Bool}(h:vQ c out ag i m g0 g1)(hi:i<out.length)(hm:cD c i):oD m (bD g0 i):=by
 rcases h with⟨_,_,rfl,rfl⟩|⟨h,rfl,rfl⟩
 ·rw[uF hi,aP rfl];exact Tg
 exact h hm
def vQ.mono{out g0:List Nat}{ag g1:Bool}{i m x j:Nat}(h:vQ c out ag i m g0 g1)(hi:i<out.length)(hx:oD x (bD out j)):oD x (bD g0 j):=by
 rcases h with⟨_,_,rfl,rfl⟩|⟨_,rfl,rfl⟩
 ·rw[uF hi];split
  ·rename_i e;subst e;exact Ry hx
  exact hx
 exact hx
def vQ.ag{out g0:List Nat}{ag g1:Bool}(h:vQ c out ag i m g0 g1)(e:g1=false):ag=false:=by
 rcases h with⟨_,_,_,rfl⟩|⟨_,_,rfl⟩
 ·cases e
 exact e
structure HW(w1 w:wD)(gm go g ga n:Nat)(vm:vL)(out:List Nat)(ag:Bool):Prop where
 ext:aB w1 w
 met:cA gm 125 w [vm]
 var:cA go 31 w [.slice (some ⟨g,0,none⟩) n n]
 mine:aZ [g] w (.slice (some ⟨g,0,none⟩) n n) (bN out)
 agn:cA ga 4 w [.bool ag]
 n0:gm≠g
 n01:gm≠ga
 n1:go≠g
 n2:go≠ga
 n3:g≠ga
 g0:w1.heap.size<=g
 g1:w1.heap.size<=go
 g2:w1.heap.size<=ga
section
variable {w1 w w':wD}{gm go g ga n:Nat}{vm:vL}{out:List Nat}{ag:Bool}
def HW.step(h:HW w1 w gm go g ga n vm out ag)(hx:aB w w'):HW w1 w' gm go g ga n vm out ag:=⟨h.ext.trans hx,h.met.ext hx,h.var.ext hx,h.mine.ext hx,h.agn.ext hx,h.n0,h.n01,h.n1,h.n2,h.n3,h.g0,h.g1,h.g2⟩
def HW.set{i v:Nat}(h:HW w1 w gm go g ga n vm out ag)(hc:cH [g] w w')(hm:aZ [g] w' (.slice (some ⟨g,0,none⟩) n n) ((bN out).set i (v:Int))):HW w1 w' gm go g ga n vm (out.set i v) ag:=
 ⟨h.ext.chgF hc (by simp[h.g0]),h.met.chgF hc (by simp[h.n0]),h.var.chgF hc (by simp[h.n1]),by rw[NC];exact hm,h.agn.chgF hc (by simp[Ne.symm h.n3]),h.n0,h.n01,h.n1,h.n2,h.n3,h.g0,h.g1,h.g2⟩
def HW.agains{ag':Bool}(h:HW w1 w gm go g ga n vm out ag)(hc:cH [ga] w w')(hB:cA ga 4 w' [.bool ag']):HW w1 w' gm go g ga n vm out ag':=
 ⟨h.ext.chgF hc (by simp[h.g2]),h.met.chgF hc (by simp[h.n01]),h.var.chgF hc (by simp[h.n2]),h.mine.keep λb hb=>by
   simp only[bF,dL,dI]at hb;subst hb;exact hc.block b (h.mine.lt b ss) (by simp[h.n3]),hB,h.n0,h.n01,h.n1,h.n2,h.n3,h.g0,h.g1,h.g2⟩
def HW.cell{ga':Nat}{ag':Bool}(h:HW w1 w gm go g ga n vm out ag)(hx:aB w w')(hB:cA ga' 4 w' [.bool ag'])(hg:w.heap.size<=ga'):HW w1 w' gm go g ga' n vm out ag':=
 ⟨h.ext.trans hx,h.met.ext hx,h.var.ext hx,h.mine.ext hx,hB,h.n0,by have:=h.met.lt;omega,h.n1,by have:=h.var.lt;omega,by have:=h.mine.lt g ss;omega,h.g0,h.g1,by have:=h.ext.size;omega⟩
def C8{W1:wD}{c:aF}{i m:Nat}(h:HW w1 w gm go g ga n vm out ag)(hv:Is W1 vm (nH c))(e1:aB W1 w)(hn:c.I.length=n)(hi:i<n)(hl:out.length=n)(gf:∀ x∈out,x<64)(hm:m<64) :
   aJ tp 217 [iV i,iV m,pT gm 0,pT go 0,pT ga 0] w λr w'=>r=.tuple #[]/\∃out' ag',HW w1 w' gm go g ga n vm out' ag'/\cH [g,ga] w w'/\vQ c out ag i m out' ag':=by
 refine co (g:=kf [] [] []) Tryz.func217 ?_;have g2:(nH c).length=n:=by unfold nH;rw[dZ,hn]
 refine cX lT h.met rfl<|bC eY cE hv (by rw[g2];exact hi) λ_ _ gb=>iY cE gb e1 ?_;have gc:=kS (ms:=nH c) (i:=i) (by rw[g2];exact hi);have gd:=lY (n:=c.I.length) (p:=cD c) (i:=i)
 have g0:(nH c)[i]=true↔cD c i:=by
   rw[<-gc];unfold nH;rw[gd];exact⟨λh=>h.2,λh=>⟨oo,h⟩⟩
 have C:=yL gf i;refine bW (λhf=>?_) λhf=>?_
 ·have g1:=g0.1 hf;refine cX dT h.var rfl<|bC bG aG (i:=i) h.mine.is (by rw[cB,hl];exact hi) λ_ _ g3=>?_;rw[oQ]at g3;refine aS aG g3 xx λ_=>VR (m:=m) (n:=bD out i) oo oo<|fP<|br (λgg=>?_) λgh=>?_
  ·have gi:¬oD m (bD out i):=λhs=>gg (by rw[(Tl hm C).2 hs];rfl);refine cX dT h.var rfl<|bC bG aG (i:=i) h.mine.is (by rw[cB,hl];exact hi) λ_ _ g4=>?_;rw[oQ]at g4;refine aS aG g4 xx λ_=>xB (m:=bD out i) (n:=m) oo oo ?_;have:=ZQ hm C;refine oA (α:=Int) rfl bG aG hi<|oC (α:=Int) rfl aG h.mine (by rw[cB,hl]) hi (tN (v:=bD out i ||| m) oo) λ_ g5 gj=>?_;have h2:=h.set (v:=bD out i ||| m) g5 gj;refine qL (α:=dM) (lo:=0) (hi:=0) cE rfl rfl h2.agn ss (yG rfl) λ_ g9 gl=>⟨rfl,_,true,h2.agains g9.one gl,(g5.mono ss).trans (g9.one.mono ss),.inl ⟨g1,gi,rfl,rfl⟩⟩
  have hs:oD m (bD out i):=(Tl hm C).1 (xC.1 (eK.1 gh));exact⟨rfl,out,ag,h,cH.refl _ _,.inr ⟨λ_=>hs,rfl,rfl⟩⟩
 exact⟨rfl,out,ag,h,cH.refl _ _,.inr ⟨λhm=>(by rw[g0.2 hm]at hf;cases hf),rfl,rfl⟩⟩
end
def CR(c:aF)(out0:List Nat)(k h0 m:Nat)(ag:Bool):Prop:=ag=false->h0=bD out0 k/\((bO c k).op=4->m=bD out0 (zN c (bS c k)))/\(¬(bO c k).op=4->m=aft c [] k (bD out0 k))
def HP.close{out0 out:List Nat}{ag:Bool}(hP:HP c out0 ag out k)(hC:CR c out0 k h0 m ag)(h1:(bO c k).op=4->oD h0 (bD out (eN c (bS c k))))(h2:∀ j∈cQ c k,cD c j->oD m (bD out j)):HP c out0 ag out (k+1):=
 hP.next λe hk=>by
   obtain⟨c1,c2,c3⟩:=hC e;have ho:=(hP.no e).1;rw[<-ho]at c1 c2 c3;refine⟨λh4=>⟨c1▸h1 h4,λhz j hj=>?_⟩,λh4 j hj=>?_⟩
   ·rw[<-c2 h4];exact h2 j hj (.back hk h4 hz hj)
   rw[<-c3 h4];exact h2 j hj (.next hk h4 hj)
def kv(hW:tI W0 b c)(e0:aB W0 w)(hv:Is W1 v1 (nH c))(e1:aB W1 w)(hc:aM c) :
   aJ tp 160 [pT b 0,v1] w λr w'=>aB w w'/\eG w.heap.size w' r (bN (xL c)):=by
 refine co (g:=kf [(19,38685626227663735544087552,[10])] [(3,1267650600228229401496702162880,[6]),(7,633825300114114700748083173120,[28]),(20,316293680037414660236726243328,[89])] [(17,[0,1,2,3,4,5,6,7,8,9,10,11],0),(18,[0,1,2,3,4,5,6,7,8,9,10,11],128)]) Tryz.func160 ?_;have h8:=hc.1.p8;have j0:=hc.f.I;have D:=hW.wl.code
 have gn:v1.cells=#[v1]:=by
   obtain⟨_,_,_,_,hh,_⟩:=xD hv;rw[hh];rfl
 refine zFY gn λwm hD hF=>?_;refine bZ.mk rfl<|aE mT<|aE eW<|aL eJ (fV D) (e0.t hD) λ_ j2=>aX eQ j2 ?_;have hz0:=(yF hc h8.2).2.2;have hG:=HP.start (c:=c);have hn:c.I.length=c.I.length:=rfl;generalize hnn:c.I.length=n at hn;rw[hnn]at j0 hG;refine FK oo oo λw1 hH hI=>?_;have hg1:=hI.lt _ (oY.2 rfl);have hmg:w.heap.size<wm.heap.size:=hF.lt;generalize hgm:w.heap.size=gm at *;generalize hg:wm.heap.size=g at *;refine JQ xr dT rfl λw2 gM hJ=>?_;have j3:=hI.ext gM;have gN:=hF.ext (hH.t gM);generalize gH:w1.heap.size=go at *;have j4:=hJ.lt;refine JQ SB cE rfl λw5 gI j5=>?_;have j6:HW w w5 gm go g w2.heap.size n v1 (List.replicate n 0) true:=⟨xx,gN.ext gI,hJ.ext gI,j3.ext gI,j5,oo,oo,oo,oo,oo,oo,oo,oo⟩;generalize w2.heap.size=ga at *;generalize List.replicate n 0=out at *;refine iB.mk (λm us w'=>∃(ga:Nat)(out:List Nat)(ag:Bool),us=[pT ga 0]/\m=(n*63-out.sum)+(if ag then 1 else 0)/\HW w w' gm go g ga n v1 out ag/\HP c out false out 0/\(ag=false->out=xL c)) (n*63-out.sum+1) ⟨ga,out,true,rfl,rfl,j6,hG,λe=>by cases e⟩ ?_;rintro m u _ ⟨ga,out,ag,hu,hm,gl,hK,gO⟩;try replace hu:=cJ hu
 rw[hu];have j7:=hK.sum_le;rw[hnn]at j7;refine cX cE gl.agn rfl<|bW (λgP=>?_) λgP=>?_
 case refine_2=>refine cX dT gl.var rfl ?_;rw[<-gO gP];exact⟨gl.ext,[g],gl.mine,λb hb=>by simp only[bF,dL,dI]at hb;omega⟩
 rw[gP,aP rfl]at hm;refine qL (α:=dM) (lo:=0) (hi:=0) cE rfl rfl gl.agn ss (yG rfl) λ_ j8 j9=>?_;have hL:=gl.agains j8.one j9;refine dY (v:=.func (.func 217) #[] #[pT gm 0,pT go 0,pT ga 0]) (λw' _=>by simp[Instr.makeFunc])<|bZ.mk rfl<|aE mT<|aE eW<|aL eJ (fV D) (e0.t hL.ext) λ_ hM=>aX eQ hM ?_;rw[hnn];refine bV n (λk us w'=>∃(out':List Nat)(ag':Bool),us=[iV k]/\k<=n/\HW w w' gm go g ga n v1 out' ag'/\HP c out ag' out' k) 0 (z0 _) ⟨out,false,rfl,z0 _,hL,hK⟩ ?_;rintro k mk u w8 _ ⟨C,gc,hu,_,gd,M⟩;try replace hu:=cJ hu
 rw[hu];refine bM<|br (λja=>?_) λjb=>?_
 case refine_2=>
   have jc:k=n:=oo;rw[jc]at M;refine cX cE gd.agn rfl<|JQ SB cE rfl λw9 gQ jd=>?_;have gR:=M.sum_le;rw[hnn]at gR;refine⟨(n*63-C.sum)+(if gc then 1 else 0),?_,_,C,gc,rfl,rfl,gd.cell gQ jd (lr _),M.again,λe=>?_⟩
   ·cases gc with
    |true=>have:=M.yes rfl;simp;omega
    |false=>rw[(M.no rfl).1];simp;omega
   rw[e,<-hnn]at M;exact M.fin hc
 have hk:k<n:=oo;have gf:k<c.I.length:=oo;have gS:C.length=n:=by rw[M.len,hnn]
 refine bC eQ fE hM gf λ_ _ hN=>?_;rw[oM]at hN;refine aL fE hN (e0.t gd.ext) λ_ hO=>mB zL rfl fE rfl hO (e0.t gd.ext) λw9 gQ gJ hQ=>?_;have g4:=gd.step gQ;have gT:=uT hO hQ rfl;have hR:(nH c).length=n:=by unfold nH;rw[dZ,hnn]
 have je:=lY (n:=c.I.length) (p:=cD c) (i:=k);have jf:=kS (ms:=nH c) (i:=k) (by rw[hR];exact hk)
 have gp:(nH c)[k]=true↔cD c k:=by
   rw[<-jf];unfold nH;rw[je];exact⟨λh=>h.2,λh=>⟨oo,h⟩⟩
 refine cX lT g4.met rfl<|bC eY cE (i:=k) hv (by rw[hR];exact hk) λ_ _ jg=>iY cE jg (e1.trans g4.ext)<|dG<|bW (λhf=>?_) (λhf=>?_)
 ·have jh:¬cD c k:=λh=>by rw[gp.2 h]at hf;cases hf
  refine aU<|⟨mk-1,oo,k+1,oo,C,gc,rfl,oo,g4,M.next λ_ h=>absurd h jh⟩
 have gK:cD c k:=gp.1 (by simpa using hf);have O:=M.lt0 k;refine cX dT g4.var rfl<|bC bG aG (i:=k) g4.mine.is (by rw[cB,gS];exact hk) λb5 o5 gq=>?_;rw[oQ]at gq;refine aS aG gq xx λ_=>?_;have gU:gc=false->bD C k=bD out k:=λe=>by rw[(M.no e).1]
 have gr:∀l,l<6->(bD C k).testBit l=true->fT c k l:=λl hl hb=>(M.snd k l gf hb).1;generalize hh0:bD C k=h0 at *;refine dJ.mk (λus w'=>∃(m:Nat)(out':List Nat)(ag':Bool),us=[iV m]/\HW w w' gm go g ga n v1 out' ag'/\HP c out ag' out' k/\m<64/\CR c out k h0 m ag'/\((bO c k).op=4->oD h0 (bD out' (eN c (bS c k))))/\∀l,l<6->m.testBit l=true->∀j∈cQ c k,fT c j l) ?_ ?_
 ·have V:aft c [] k h0=if (bO c k).op=6 then h0 ||| 2^bS c k else if (bO c k).op=7 then sH h0 (2^bS c k)else if (bO c k).op=4 then(h0 &&& (tbl [] (bS c k)).1) ||| (tbl [] (bS c k)).2 else h0:=rfl
  have gH:¬(bO c k).op=4->∀w',HW w w' gm go g ga n v1 C gc->aft c [] k h0<64->∃(m:Nat)(out':List Nat)(ag':Bool),[Value.int .i64 (aft c [] k h0:Nat)]=[iV m]/\HW w w' gm go g ga n v1 out' ag'/\HP c out ag' out' k/\m<64/\CR c out k h0 m ag'/\((bO c k).op=4->oD h0 (bD out' (eN c (bS c k))))/\∀l,l<6->m.testBit l=true->∀j∈cQ c k,fT c j l:=λh4 w' ji gV=>
    ⟨_,C,gc,rfl,ji,M,gV,λe=>⟨gU e,λh=>absurd h h4,λ_=>by rw[gU e]⟩,λh=>absurd h h4,λl hl hb j hj=>Us h4 gK hj (gr l hl) hb⟩
  refine aE lV<|aS aG (lW gJ) xx λ_=>bI<|br (λc6=>?_) λc6=>?_
  ·obtain⟨ha,_,hq⟩:=yD hc gf (.inl c6);have hp:=HE hq;rw[aP c6]at V;refine aE mE<|aS aG (mF gJ) xx λ_=>?_;rw[ha];refine sN kK sR oo<|DM oo<|xB (m:=h0) (n:=2^bS c k) oo oo ?_;have:=gH oo w9 g4 (by rw[V];exact Nl O hq);rw[V]at this;exact this
  rw[aH c6]at V;refine bI<|br (λc7=>?_) λc7=>?_
  ·obtain⟨ha,_,hq⟩:=yD hc gf (.inr c7);have hp:=HE hq;rw[aP c7]at V;refine aE mE<|aS aG (mF gJ) xx λ_=>?_;rw[ha];refine sN kK sR oo<|DM oo<|VR (m:=h0) (n:=2^bS c k) oo oo ?_;have:=gH oo w9 g4 (by rw[V];exact uU (PP _ _) O);rw[V]at this;exact this
  rw[aH c7]at V;refine bI<|br (λc4=>?_) λc4=>?_
  ·obtain⟨hS,hT⟩:=sW hc gf (.inl c4);have gW:bS c k<c.E.length:=by rw[hc.2.1.1];exact hT
   obtain⟨jj,jk,_⟩:=vM hc gW;obtain⟨jl,_,_⟩:=yF hc hT;have gL:=cO w9;have g5:=g4.step gL;generalize World.drew1 w9=w10 at *;refine bZ.mk rfl<|aE mT<|aE kJ<|aL dT (lJ D) (e0.t g5.ext) λ_ jm=>aE mE<|aS aG (mF gJ) gL λ_=>?_;rw[hS];refine bC bG aG jm gW λb5 o5 gq=>?_;rw[mP gW,jj]at gq;refine aS aG gq (e0.t g5.ext) λ_=>PI (args:=[_,_]) (caps:=[_,_,_]) Zh ((C8 (i:=eN c (bS c k)) (m:=h0) g5 hv (e1.trans g5.ext) hnn oo gS M.lt O).mono ?_);rintro _ hU ⟨rfl,Z,gX,gY,gZ,gg⟩;have jn:cD c (eN c (bS c k)):=.call gK c4;have g0:=gg.hp M jk O λl hl hb=>.call gK c4 (gr l hl hb);have jo:=gg.sub (by rw[gS];omega) jn;have gs:=cO hU;have g1:=gY.step gs;have jp:w8.heap.size<w10.heap.size:=by have:=hQ.lt;have:=gL.size;omega
   have jq:w8.heap.size∉[g,ga]:=by have h1:=gd.mine.lt g ss;have h2:=gd.agn.lt;simp;omega
   have gt:=(gT.ext gL).keep (gZ.block _ jp jq);have gx:=(gt.ext gs).at (e0.t g1.ext);generalize World.drew1 hU=w12 at *;refine cX dT g1.var rfl<|bZ.mk rfl<|aE mT<|aL cP D (e0.t g1.ext) λ_ jr=>aE mE<|aS aG (mF gx) xx λ_=>?_;rw[hS];refine(PX jr (e0.t g1.ext) oo).mM λ_ gy=>?_;refine⟨gy,?_⟩;have gz:=g1.step gy;rw[jl];refine kQ io ?_;rw[show((zN c (bS c k)+1:Nat):Int)-1=(zN c (bS c k):Int) by omega];have h5:Z.length=n:=by rw[g0.len,hnn]
   refine bC bG aG (i:=zN c (bS c k)) gz.mine.is (by rw[cB,h5];omega) λ_ _ hV=>?_;rw[oQ]at hV;refine aS aG hV xx λ_=>⟨bD Z (zN c (bS c k)),Z,gX,rfl,gz,g0,g0.lt0 _,λe=>⟨gU (gg.ag e),λ_=>by rw[(g0.no e).1],λh=>absurd c4 h⟩,λ_=>jo,λl hl hb j hj=>?_⟩;have:=g0.snd _ l oo hb;exact .back gK c4 this.2 this.1 hj
  rw[aH c4]at V;have:=gH c4 w9 g4 (by rw[V];exact O);rw[V]at this;exact this
 rintro us js ⟨m,gA,h6,h9,g9,hd,gB,he,hr,hs⟩;try replace h9:=cJ h9
 rw[h9];refine(Fk D (e0.t g9.ext) hc gf).mono ?_;rintro jt ju ⟨ht,gC⟩;have hw:=g9.step ht;have hl2:=OE c k;have jv:=λ{j:Nat}(hj:j∈cQ c k)=>(zZ hc gf hj).1;have gh:=λ{out:List Nat}{o:List Nat}{ag:Bool}(hP:HP c out ag o k)=>HP.close (h0:=h0) (m:=m) hP;generalize hNx:cQ c k=N at *;refine aX bG gC.is ?_;rw[cB];refine bV N.length (λq us w'=>∃(out':List Nat)(ag':Bool),us=[iV q]/\q<=N.length/\HW w w' gm go g ga n v1 out' ag'/\HP c out ag' out' k/\CR c out k h0 m ag'/\((bO c k).op=4->oD h0 (bD out' (eN c (bS c k))))/\(∀j∈N.take q,cD c j->oD m (bD out' j))/\aK js.heap.size ju.heap.size w' jt (bN N)) 0 (z0 _) ⟨gA,h6,rfl,z0 _,hw,hd,he,hr,ss,gC.toI⟩ ?_;rintro q mq u _ _ ⟨g2,hx,hu,_,gi,gb,gD,gE,gj,gF⟩;try replace hu:=cJ hu
 rw[hu];refine bM<|br (λja=>?_) λjb=>?_
 case refine_2=>refine aU ?_;rw[iO oo]at gj;exact⟨mk-1,oo,k+1,oo,g2,hx,rfl,oo,gi,gh gb gD gE (hNx▸gj)⟩
 have hq:q<N.length:=oo;refine bC bG aG (i:=q) gF.is (by rw[cB];exact hq) λ_ _ hX=>?_;rw[nI]at hX;refine aS aG hX xx λ_=>?_;have jw:=λx=>BJ hq (x:=x);have hj:=cY hq;have jx:=jv hj;have jy:=λl hl hb=>hs l hl hb _ hj;generalize N[q]=j at *;have hy:g2.length=n:=by rw[gb.len,hnn]
 refine PI (args:=[_,_]) (caps:=[_,_,_]) Zh ((C8 (i:=j) (m:=m) gi hv (e1.trans gi.ext) hnn oo hy gb.lt gB).mono ?_);rintro _ _ ⟨rfl,gG,hz,hA,hB,g3⟩;refine aU ?_;have jz:=g9.mine.lt g ss;have hY:=g9.agn.lt;have hC:j<g2.length:=oo;refine⟨mq-1,oo,q+1,oo,gG,hz,rfl,oo,hA,g3.hp gb jx gB jy,λe=>gD (g3.ag e),λh4=>g3.mono hC (gE h4),λi hi hZ=>?_,gF.chgF hB so⟩;rcases(jw i).1 hi with h|h
 ·exact g3.mono hC (gj i h hZ)
 subst h;exact g3.sub hC hZ
end Go.Proofs.YtcaakhmhlfgogaaGreatDoor
namespace Go.Sh
open Rep (rep)
def TO{α:Type}[Rep α]{w:wD}{g e o:Nat}{cs:List vL}{v:vL}{l:List α}(hB:cA g e w cs)(ho:cs[o]?=some v)(h:Is w v l):At w g o l:=by
 obtain⟨F,_,hr,rfl⟩:=h;have g0:=hr;obtain⟨_,_,_,_,rfl,h⟩:=hr;refine⟨F,_,g0,λi _ hi=>?_⟩
 have:i=0:=by
   cases i with
   |zero=>rfl
   |succ i=>simp at hi
 subst this;simp only[List.getElem?_cons_zero,iU]at hi;subst hi;have:=hB.range o _ ho;rw[vO]at this;exact this
end Go.Sh
namespace Go.Proofs.YtcaakhmhlfgogaaGreatDoor
open Go Go.Sh Go.Proofs
open Rep (rep)
variable {W0 w:wD}{c:aF}{h0 i k m:Nat}{nw:Bool}{out:List Nat}{v v0:vL}
def X3(h:Is w v c):∃a0 a1 a2 a3 a4 n0 n1 n2 n3 n4 k0 k1 k2 k3 k4,v=.agg #[.slice a0 n0 k0,.slice a1 n1 k1,.slice a2 n2 k2,.slice a3 n3 k3,.slice a4 n4 k4]:=by
 obtain⟨_,_,hr,rfl⟩:=h;obtain⟨_,_,_,_,_,_,_,_,_,_,rfl,rfl,⟨_,_,_,_,rfl,_⟩,⟨_,_,_,_,rfl,_⟩,⟨_,_,_,_,rfl,_⟩,⟨_,_,_,_,rfl,_⟩,⟨_,_,_,_,rfl,_⟩⟩:=L8 hr;exact⟨_,_,_,_,_,_,_,_,_,_,_,_,_,_,_,rfl⟩
structure LP(c:aF)(ms0:List Bool)(out0:List Nat)(nw:Bool)(ms:List Bool)(out:List Nat)(k:Nat):Prop where
 len:ms.length=c.I.length
 leno:out.length=c.I.length
 lt:∀x∈out,x<64
 snd:∀i,cN ms i->cD c i
 sndm:∀i l,i<c.I.length->(bD out i).testBit l=true->fT c i l
 root:∀p,bE c p->cN ms (eN c p)
 yes:nw=true->rR ms0+out0.sum<rR ms+out.sum
 no:nw=false->ms=ms0/\out=out0/\∀i,i<k->cN ms0 i->MC c ms0 i/\((bO c i).op=4->oD (bD out0 i) (bD out0 (eN c (bS c i)))/\(cN ms0 (zN c (bS c i))->∀j∈cQ c i,oD (bD out0 (zN c (bS c i))) (bD out0 j)))/\(¬(bO c i).op=4->∀j∈cQ c i,oD (aft c [] i (bD out0 i)) (bD out0 j))
def LP.lt0{ms0 ms:List Bool}{out0 out:List Nat}(h:LP c ms0 out0 nw ms out k)(i:Nat):bD out i<64:=yL h.lt i
def HV(ms:List Bool)(out:List Nat)(nw:Bool)(i m:Nat):Bool:=nw || !(ms.getD i false&&decide (bD out i ||| m=bD out i))
def O2{ms:List Bool}(h:cN ms i)(h2:bD out i ||| m=bD out i):HV ms out nw i m=nw:=by
 unfold cN at h;unfold HV;rw[h,decide_eq_true h2];simp
def Hn{ms:List Bool}(h:¬(cN ms i/\bD out i ||| m=bD out i)):HV ms out nw i m=true:=by
 unfold cN at h;unfold HV;cases e:ms.getD i false
 ·simp
 have:¬(bD out i ||| m=bD out i):=λh2=>h ⟨e,h2⟩;rw[decide_eq_false this];simp
def Hl(h:i<out.length):out.set i (bD out i)=out:=by rw[<-pQ h];exact n9 h
def zq{ms:List Bool}:rR ms<=rR (ms.set i true):=by
 by_cases h:i<ms.length
 ·by_cases hk:cN ms i
  ·rw[YM hk];exact iD _
  rw[VN h hk];omega
 rw[Xy oo];exact iD _
theorem LP.put{g2 ms:List Bool}{out0 out:List Nat}(h:LP c g2 out0 nw ms out k)(hi:i<c.I.length)(hm:m<64)(g0:cD c i)(g1:∀ l,l<6->m.testBit l=true->fT c i l) :
   LP c g2 out0 (HV ms out nw i m) (ms.set i true) (out.set i (bD out i ||| m)) k:=by
 by_cases hk:cN ms i/\bD out i ||| m=bD out i
 ·rw[O2 hk.1 hk.2,YM hk.1,hk.2,Hl (by rw[h.leno];exact hi)];exact h
 rw[Hn hk];have g3:=h.lt0 i;have:=QU (l:=out) (i:=i) (v:=bD out i ||| m) (by rw[h.leno];exact hi);have:bD out i<=bD out i ||| m:=Nat.left_le_or;have:=zq (ms:=ms) (i:=i);refine⟨by simp[h.len],by simp[h.leno],λx hx=>?_,λj hj=>?_,λj l hj hb=>?_,λp hp=>KQ (h.root p hp),λ_=>?_,λe=>by cases e⟩
 ·rcases OS hx with rfl|hx
  ·exact ZQ hm g3
  exact h.lt x hx
 ·rcases(wI (by rw[h.len];exact hi)).1 hj with h4|h4
  ·exact h.snd j h4
  rw[h4];exact g0
 ·rw[uF (by rw[h.leno];exact hi)]at hb;split at hb
  ·rename_i e;subst e;rw[vA,vB]at hb;rcases hb with hb|hb
   ·exact h.sndm i l hj hb
   exact g1 l (ID hm hb) hb
  exact h.sndm j l hj hb
 have g4:rR ms+out.sum<rR (ms.set i true)+(out.set i (bD out i ||| m)).sum:=by
   by_cases hk1:cN ms i
   ·have:=ZA λe=>hk ⟨hk1,e⟩;omega
   have:=VN (by rw[h.len];exact hi) hk1;omega
 cases nw with
 |true=>have:=h.yes rfl;omega
 |false=>rw[<-(h.no rfl).1,<-(h.no rfl).2.1];exact g4
def Q3{ms:List Bool}(e:HV ms out nw i m=false):nw=false:=by
 unfold HV at e;cases nw<;>simp_all
def D3{i j m x:Nat}(hi:i<out.length)(hx:oD x (bD out j)):oD x (bD (out.set i (bD out i ||| m)) j):=by
 rw[uF hi];split
 ·rename_i e;subst e;exact Ry hx
 exact hx
def Po(hi:i<out.length):oD m (bD (out.set i (bD out i ||| m)) i):=by
 rw[uF hi,aP rfl];exact Tg
def LP.fin(hc:aM c){g2 ms:List Bool}{out0 out:List Nat}(h:LP c g2 out0 false ms out c.I.length):ms=nH c/\out=xL c:=by
 obtain⟨h1,h2,h3⟩:=h.no rfl;rw[<-h1,<-h2]at h3;have hT:TP c ms false ms c.I.length:=⟨h.len,h.snd,h.root,λe=>(by cases e),λ_=>⟨rfl,λi hi hm=>(h3 i hi hm).1⟩⟩;have g0:=hT.fin hc;have g1:∀i,cD c i->cN ms i:=λi hi=>by rw[g0];exact lY.2 ⟨hi.lt hc,hi⟩
 exact⟨g0,Qd hc h.leno h.lt h.sndm λi hm=>by
   have:=(h3 i (hm.lt hc) (g1 i hm)).2;exact⟨λh4=>⟨(this.1 h4).1,λhz=>(this.1 h4).2 (g1 _ hz)⟩,this.2⟩⟩
def LP.again{ms0 ms:List Bool}{out0 out:List Nat}(h:LP c ms0 out0 nw ms out k):LP c ms out false ms out 0:=
 ⟨h.len,h.leno,h.lt,h.snd,h.sndm,h.root,λe=>(by cases e),λ_=>⟨rfl,rfl,λi hi=>oo⟩⟩
def LP.skip{ms0 ms:List Bool}{out0 out:List Nat}(h:LP c ms0 out0 nw ms out k)(hk:¬cN ms k):LP c ms0 out0 nw ms out (k+1):=
 ⟨h.len,h.leno,h.lt,h.snd,h.sndm,h.root,h.yes,λe=>⟨(h.no e).1,(h.no e).2.1,λi hi hm=>by
   by_cases e2:i=k
   ·subst e2;rw[(h.no e).1]at hk;exact absurd hm hk
   exact(h.no e).2.2 i oo hm⟩⟩
def LP.close{ms0 ms:List Bool}{out0 out:List Nat}(h:LP c ms0 out0 nw ms out k)(hC:CR c out0 k h0 m nw)(h1:(bO c k).op=4->cN ms (eN c (bS c k))/\oD h0 (bD out (eN c (bS c k))))
   (h2:((bO c k).op=4->cN ms (zN c (bS c k)))->∀j∈cQ c k,cN ms j/\oD m (bD out j)):LP c ms0 out0 nw ms out (k+1):=
 ⟨h.len,h.leno,h.lt,h.snd,h.sndm,h.root,h.yes,λe=>by
   obtain⟨o1,o2,o3⟩:=h.no e;refine⟨o1,o2,λi hi hm=>?_⟩;by_cases e2:i=k
   ·subst e2;obtain⟨c1,c2,c3⟩:=hC e;rw[o1,o2]at h1;rw[o1,o2]at h2;refine⟨⟨λh4=>⟨(h1 h4).1,λhz j hj=>(h2 (λ_=>hz) j hj).1⟩,λh4 j hj=>(h2 (λh=>absurd h h4) j hj).1⟩,λh4=>⟨c1▸(h1 h4).2,λhz j hj=>c2 h4▸(h2 (λ_=>hz) j hj).2⟩,λh4 j hj=>c3 h4▸(h2 (λh=>absurd h h4) j hj).2⟩
   exact o3 i oo hm⟩
structure LW(w1 w:wD)(gw g h n:Nat)(kc:List vL)(ms:List Bool)(out:List Nat)(nw:Bool):Prop where
 ext:aB w1 w
 blk:cA gw 215 w (kc++[.slice (some ⟨g,0,none⟩) n n,.slice (some ⟨h,0,none⟩) n n,.bool nw])
 mks:aZ [g] w (.slice (some ⟨g,0,none⟩) n n) ms
 mine:aZ [h] w (.slice (some ⟨h,0,none⟩) n n) (bN out)
 k5:kc.length=5
 n1:gw≠g
 n2:gw≠h
 n3:g≠h
 g0:w1.heap.size<=gw
 g1:w1.heap.size<=g
 g2:w1.heap.size<=h
section
variable {w1 w w':wD}{gw g h n:Nat}{kc:List vL}{ms:List Bool}{out:List Nat}{nw:Bool}
def LW.step(H:LW w1 w gw g h n kc ms out nw)(hx:aB w w'):LW w1 w' gw g h n kc ms out nw:=⟨H.ext.trans hx,H.blk.ext hx,H.mks.ext hx,H.mine.ext hx,H.k5,H.n1,H.n2,H.n3,H.g0,H.g1,H.g2⟩
def LW.c5(H:LW w1 w gw g h n kc ms out nw):(kc++[Value.slice (some ⟨g,0,none⟩) n n,.slice (some ⟨h,0,none⟩) n n,.bool nw])[5]?=some (.slice (some ⟨g,0,none⟩) n n):=by rw[List.getElem?_append_right (by rw[H.k5];omega),H.k5];rfl
def LW.c6(H:LW w1 w gw g h n kc ms out nw):(kc++[Value.slice (some ⟨g,0,none⟩) n n,.slice (some ⟨h,0,none⟩) n n,.bool nw])[6]?=some (.slice (some ⟨h,0,none⟩) n n):=by rw[List.getElem?_append_right (by rw[H.k5];omega),H.k5];rfl
def LW.c7(H:LW w1 w gw g h n kc ms out nw):(kc++[Value.slice (some ⟨g,0,none⟩) n n,.slice (some ⟨h,0,none⟩) n n,.bool nw])[7]?=some (.bool nw):=by rw[List.getElem?_append_right (by rw[H.k5];omega),H.k5];rfl
def LW.mark{ms':List Bool}(H:LW w1 w gw g h n kc ms out nw)(hc:cH [g] w w')(hm:aZ [g] w' (.slice (some ⟨g,0,none⟩) n n) ms'):LW w1 w' gw g h n kc ms' out nw:=
 ⟨H.ext.chgF hc (by simp[H.g1]),H.blk.chgF hc (by simp[H.n1]),hm,H.mine.keep λb hb=>by
   simp only[bF,dL,dI]at hb;subst hb;exact hc.block b (H.mine.lt b ss) (by simp[Ne.symm H.n3]),H.k5,H.n1,H.n2,H.n3,H.g0,H.g1,H.g2⟩
def LW.set{i v:Nat}(H:LW w1 w gw g h n kc ms out nw)(hc:cH [h] w w')(hm:aZ [h] w' (.slice (some ⟨h,0,none⟩) n n) ((bN out).set i (v:Int))):LW w1 w' gw g h n kc ms (out.set i v) nw:=
 ⟨H.ext.chgF hc (by simp[H.g2]),H.blk.chgF hc (by simp[H.n2]),H.mks.keep λb hb=>by
   simp only[bF,dL,dI]at hb;subst hb;exact hc.block b (H.mks.lt b ss) (by simp[H.n3]),by rw[NC];exact hm,H.k5,H.n1,H.n2,H.n3,H.g0,H.g1,H.g2⟩
def LW.news{g3:Bool}(H:LW w1 w gw g h n kc ms out nw)(hc:cH [gw] w w')(hB:cA gw 215 w' ((kc++[Value.slice (some ⟨g,0,none⟩) n n,.slice (some ⟨h,0,none⟩) n n,.bool nw]).set 7 (.bool g3))):LW w1 w' gw g h n kc ms out g3:=by
 have e:(kc++[Value.slice (some ⟨g,0,none⟩) n n,.slice (some ⟨h,0,none⟩) n n,.bool nw]).set 7 (.bool g3)=kc++[Value.slice (some ⟨g,0,none⟩) n n,.slice (some ⟨h,0,none⟩) n n,.bool g3]:=by
   rw[MQ _ _ (by rw[H.k5];omega),H.k5];rfl
 rw[e]at hB
 exact⟨H.ext.chgF hc (by simp[H.g0]),hB,H.mks.keep λb hb=>by
   simp only[bF,dL,dI]at hb;subst hb;exact hc.block b (H.mks.lt b ss) (by simp[Ne.symm H.n1]),H.mine.keep λb hb=>by
   simp only[bF,dL,dI]at hb;subst hb;exact hc.block b (H.mine.lt b ss) (by simp[Ne.symm H.n2]),H.k5,H.n1,H.n2,H.n3,H.g0,H.g1,H.g2⟩
def LW.l8(H:LW w1 w gw g h n kc ms out nw):7<(kc++[Value.slice (some ⟨g,0,none⟩) n n,.slice (some ⟨h,0,none⟩) n n,.bool nw]).length:=by simp[H.k5]
def If{i m:Nat}(H:LW w1 w gw g h n kc ms out nw)(hi:i<n)(hl:ms.length=n)(O:out.length=n)(gh:∀ x∈out,x<64)(hm:m<64) :
   aJ tp 237 [pT gw 0,iV i,iV m] w λr w'=>r=.tuple #[]/\LW w1 w' gw g h n kc (ms.set i true) (out.set i (bD out i ||| m)) (HV ms out nw i m)/\cH [gw,g,h] w w':=by
 refine co (g:=kf [] [] [(0,[0,1,2,3,4,5,6,7,8,9,10,11,12,13,14,15,16,17,18,19,20,21,22,23,24,25,26],0),(2,[0,1,2,3,4,5,6,7,8,9,10,11,12,13,14,15],0)]) Tryz.func237 ?_;have g3:=yL gh i;have:=ZQ hm g3;have M:=cO w;have H1:=H.step M;have g4:cH [gw,g,h] w (World.drew1 w):=⟨M.os,M.tape,M.output,M.size,λb hb _=>M.block b hb⟩;generalize World.drew1 w=wd at *;have gd:=kS (ms:=ms) (i:=i) (by rw[hl];exact hi);refine bZ.mk rfl<|aE OJ<|cX lT H1.blk H1.c5<|bC eY cE H1.mks.is (by rw[hl];exact hi) λb1 o1 g2=>iY cE g2 xx<|dG ?_
 have gf:∀{w':wD}{K:vL->Prop}(H:LW w1 w' gw g h n kc ms out nw)(k:K (iV (bD out i:Int))),RD tp (Instr.indexAt 31 (.slice (some ⟨h,0,none⟩) n n) (iV i)) w' λgi=>RD tp (Instr.loadAt 3 gi) w' K:=λH k=>by
   refine bC bG aG (i:=i) H.mine.is (by rw[cB,O];exact hi) λb1 o1 g2=>?_;rw[oQ]at g2;exact aS aG g2 xx λ_=>k
 refine bW (λhf=>?_) λhf=>?_
 ·have D:¬(cN ms i/\bD out i ||| m=bD out i):=λhh=>by rw[gd.1 hh.1]at hf;cases hf
  rw[Hn D];refine bZ.mk rfl<|aE OJ<|cX lT H1.blk H1.c5<|oA (α:=Bool) rfl eY cE hi<|oC (α:=Bool) rfl cE H1.mks hl hi zD λw2 V g5=>?_;have H2:=H1.mark V g5;have C:=cO w2;have H3:=H2.step C;have g9:cH [gw,g,h] w2 (World.drew1 w2):=⟨C.os,C.tape,C.output,C.size,λb hb _=>C.block b hb⟩;generalize World.drew1 w2=w3 at *;refine bZ.mk rfl<|aE IA<|cX dT H3.blk H3.c6<|bZ.mk rfl<|aE IA<|cX dT H3.blk H3.c6<|bC bG aG (i:=i) H3.mine.is (by rw[cB,O];exact hi) λb4 o4 Z=>?_;rw[oQ]at Z;refine aS aG Z xx λ_=>xB (m:=bD out i) (n:=m) oo oo<|oA (α:=Int) rfl bG aG hi<|oC (α:=Int) rfl aG H3.mine (by rw[cB,O]) hi (tN (v:=bD out i ||| m) oo) λw4 g0 gb=>?_;have H4:=H3.set (v:=bD out i ||| m) g0 gb;refine bZ.mk rfl<|aE Bz<|qL (α:=dM) (lo:=0) (hi:=0) cE rfl rfl H4.blk H4.l8 (yG rfl) λw5 g1 gc=>⟨rfl,H4.news g1.one gc,(((g4.trans (V.mono ss)).trans g9).trans (g0.mono ss)).trans (g1.one.mono ss)⟩
 have gg:cN ms i:=by rw[gd];simpa using hf
 refine bZ.mk rfl<|aE IA<|cX dT H1.blk H1.c6<|gf H1<|xB (m:=bD out i) (n:=m) oo oo<|bZ.mk rfl<|aE IA<|cX dT H1.blk H1.c6<|gf H1<|fP<|br (λgj=>?_) λgl=>?_
 ·have D:¬(cN ms i/\bD out i ||| m=bD out i):=λhh=>gj (by rw[hh.2]);rw[Hn D];refine bZ.mk rfl<|aE OJ<|cX lT H1.blk H1.c5<|oA (α:=Bool) rfl eY cE hi<|oC (α:=Bool) rfl cE H1.mks hl hi zD λw2 V g5=>?_;have H2:=H1.mark V g5;have C:=cO w2;have H3:=H2.step C;have g9:cH [gw,g,h] w2 (World.drew1 w2):=⟨C.os,C.tape,C.output,C.size,λb hb _=>C.block b hb⟩;generalize World.drew1 w2=w3 at *;refine bZ.mk rfl<|aE IA<|cX dT H3.blk H3.c6<|bZ.mk rfl<|aE IA<|cX dT H3.blk H3.c6<|bC bG aG (i:=i) H3.mine.is (by rw[cB,O];exact hi) λb4 o4 Z=>?_;rw[oQ]at Z;refine aS aG Z xx λ_=>xB (m:=bD out i) (n:=m) oo oo<|oA (α:=Int) rfl bG aG hi<|oC (α:=Int) rfl aG H3.mine (by rw[cB,O]) hi (tN (v:=bD out i ||| m) oo) λw4 g0 gb=>?_;have H4:=H3.set (v:=bD out i ||| m) g0 gb;refine bZ.mk rfl<|aE Bz<|qL (α:=dM) (lo:=0) (hi:=0) cE rfl rfl H4.blk H4.l8 (yG rfl) λw5 g1 gc=>⟨rfl,H4.news g1.one gc,(((g4.trans (V.mono ss)).trans g9).trans (g0.mono ss)).trans (g1.one.mono ss)⟩
 have he:bD out i ||| m=bD out i:=xC.1 (eK.1 gl);rw[O2 gg he,YM gg,he,Hl (by rw[O];exact hi)];exact⟨rfl,H1,g4⟩
end
def fc(c:aF)(g1 n:Nat)(w0:wD):iE:=λi u T w=>match i with
 |0=>Is w0 (u 12) c
 |1=>u 13=pT g1 (0+4)
 |2=>Is w0 (u 14) c.I
 |3=>u 15=iV n
 |4=>∃g,u 16=.slice (some ⟨g,0,none⟩) n n/\(T 4).1<=g/\g<(T 4).2/\aZ [g] w (.slice (some ⟨g,0,none⟩) n n) (List.replicate n false)
 |5=>u 17=pT g1 (0+4)
 |6=>Is w0 (u 18) c.I
 |7=>u 19=iV n
 |8=>∃g,u 20=.slice (some ⟨g,0,none⟩) n n/\(T 8).1<=g/\g<(T 8).2/\aZ [g] w (.slice (some ⟨g,0,none⟩) n n) (bN (List.replicate n 0))
 |_=>True
def W9(h0:Is W0 v0 c)(e0:aB W0 w)(hc:aM c) :
   aJ tp 174 [v0] w λr w'=>aB w w'/\∃gw,r=pT gw 0/\At w' gw (0+5) (nH c)/\At w' gw (0+6) (bN (xL c)):=by
 refine co (g:=⟨extL,[(25,5316911983139587933751502326797959936,[8])],[(4,4397979402272,[5]),(7,348449143727040986586495598005732602023872,[]),(10,348449143727040986586495597447180695113664,[6]),(27,348406608431175869278562676184201677506560,[11])],[(6,[0,1,2,3,4,5,6,7,8,9],0)],[(1,8384520,9)],[],[]⟩) Tryz.func174 ?_;have h8:=hc.1.p8;have je:=hc.f.I;have hz0:=(yF hc h8.2).2.2;have gs:=HP.start (c:=c);refine iR h0 e0 λw1 jf hA=>?_;have hn:c.I.length=c.I.length:=rfl;generalize hnn:c.I.length=n at hn;rw[hnn]at je gs;have Z:=cO w1;refine VF.mk (fc c w.heap.size n (World.drew1 w1)) ?_ ?_ ?_
 ·intro i u u' T _ _ _ _ hQ hd hq
  match i,hd,hq with
  |0,hd,hq=>have:=(hd (0,12) dD).1;show Is _ (u' 12) _;simp only[this];exact hq
  |1,hd,hq=>exact(hd (1,13) dD).1.trans hq
  |2,hd,hq=>have:=(hd (2,14) dD).1;show Is _ (u' 14) _;simp only[this];exact hq
  |3,hd,hq=>exact(hd (3,15) dD).1.trans hq
  | 4,hd,⟨g,q1,q2,q3,q4⟩=>
    obtain⟨e1,e2⟩:=hd (4,16) dD;simp only at e1 e2;exact⟨g,e1.trans q1,by rw[e2];exact q2,by rw[e2];exact q3,q4.ext hQ⟩
  |5,hd,hq=>exact(hd (5,17) dD).1.trans hq
  |6,hd,hq=>have:=(hd (6,18) dD).1;show Is _ (u' 18) _;simp only[this];exact hq
  |7,hd,hq=>exact(hd (7,19) dD).1.trans hq
  | 8,hd,⟨g,q1,q2,q3,q4⟩=>
    obtain⟨e1,e2⟩:=hd (8,20) dD;simp only at e1 e2;exact⟨g,e1.trans q1,by rw[e2];exact q2,by rw[e2];exact q3,q4.ext hQ⟩
  |n+9,_,_=>trivial
 ·refine⟨λu T w' hx _ _=>?_,λu T w' hx _ _=>?_,λu T w' hx _ hp=>?_,λu T w' hx _ hp=>?_,λu T w' hx _ hp=>?_,λu T w' hx _ _=>?_,λu T w' hx _ hp=>?_,λu T w' hx _ hp=>?_,λu T w' hx _ hp=>?_,trivial⟩
  ·exact aL cP hA xx λv6 h6=>⟨xx,h6.ext Z⟩
  ·exact aE eW ⟨xx,rfl⟩
  ·have q0:u 13=_:=hp.1;rw[q0];exact aL eJ (fV hA) xx λv6 h6=>⟨xx,h6.ext Z⟩
  ·have q1:Is _ (u 14) c.I:=hp.1;exact aX eQ q1 (by rw[hnn];exact⟨xx,rfl⟩)
  ·have q2:u 15=_:=hp.1;rw[q2];exact JC oo oo λw4 gt r=>⟨gt,_,rfl,lr _,r.lt _ (oY.2 rfl),r⟩
  ·exact aE eW ⟨xx,rfl⟩
  ·have q0:u 17=_:=hp.1;rw[q0];exact aL eJ (fV hA) xx λv6 h6=>⟨xx,h6.ext Z⟩
  ·have q1:Is _ (u 18) c.I:=hp.1;exact aX eQ q1 (by rw[hnn];exact⟨xx,rfl⟩)
  have q2:u 19=_:=hp.1;rw[q2];exact FK oo oo λw4 gt r=>⟨gt,_,rfl,lr _,r.lt _ (oY.2 rfl),r⟩
 rintro u T w2 jg gV ⟨gW,-,-,-,⟨g,jh,_,_,ji⟩,-,-,-,⟨h,jj,_,_,jk⟩,-⟩;have gW:Is (World.drew1 w1) (u 12) c:=gW;have t4:=gV.1 4 dD;have t8:=gV.1 8 dD;have d48:=gV.2 4 dD 8 dD dD;have gx:=Z.t jg;have hsd:(World.drew1 w1).heap.size=w1.heap.size:=rfl;rw[jh,jj];obtain⟨a0,a1,a2,a3,a4,n0,n1,n2,n3,n4,k0,k1,k2,k3,k4,jl⟩:=X3 gW;rw[jl];refine fI (cells:=#[.slice a0 n0 k0,.slice a1 n1 k1,.slice a2 n2 k2,.slice a3 n3 k3,.slice a4 n4 k4,.slice (some ⟨g,0,none⟩) n n,.slice (some ⟨h,0,none⟩) n n,.bool true]) kK<|VO λw3 gX jm=>?_;have H3:LW w1 w3 w2.heap.size g h n [.slice a0 n0 k0,.slice a1 n1 k1,.slice a2 n2 k2,.slice a3 n3 k3,.slice a4 n4 k4] (List.replicate n false) (List.replicate n 0) true:=⟨xx,jm,ji.ext gX,jk.ext gX,rfl,oo,oo,oo,gx.size,oo,oo⟩;generalize [Value.slice a0 n0 k0,.slice a1 n1 k1,.slice a2 n2 k2,.slice a3 n3 k3,.slice a4 n4 k4]=kc at *;generalize w2.heap.size=gw at *;refine aL cP hA H3.ext λ_ jn=>(Em jn H3.ext hc).mono ?_;rintro _ w4 ⟨gt,jo⟩;refine(Bo jo.is xx (by rw[dZ];omega)).mono ?_;rintro jp w5 ⟨jq,hR⟩;rw[dZ,YL]at hR;have H4:=H3.step gt;have H5:=H4.step jq;have hL:∀p,p∈cC c.P.length (bE c)↔bE c p:=λp=>by rw[mG];exact⟨λh=>h.2,λh=>⟨h.lt hc,h⟩⟩
 have hLl:(cC c.P.length (bE c)).length<=8:=eH pC h8.1;generalize cC c.P.length (bE c)=L at *;have jr:=H4.blk.lt;have hg4:=H4.mks.lt g ss;have hh4:=H4.mine.lt h ss;have gY:(List.replicate n 0).length=n:=by simp
 have gy:∀x∈List.replicate n 0,x<64:=λx hx=>by rw[(Ja.1 hx).2];omega
 have gb:∀i,i<n->(List.replicate n 0).set i (bD (List.replicate n 0) i ||| 0)=List.replicate n 0:=λi hi=>by rw[Nat.or_zero,Hl (by rw[gY];exact hi)]
 have js:∀i l,i<c.I.length->(bD (List.replicate n 0) i).testBit l=true->fT c i l:=λi l hi hb=>(gs.snd i l hi hb).1;generalize List.replicate n 0=out at *;refine bV L.length (λk us w'=>∃ms,us=[iV k]/\k<=L.length/\LW w1 w' gw g h n kc ms out true/\aK w4.heap.size w5.heap.size w' jp (bN L)/\ms.length=n/\(∀i,cN ms i->cD c i)/\∀p∈L.take k,cN ms (eN c p)) 0 (z0 _) ⟨_,rfl,z0 _,H5,hR.toI,ss,λi h=>absurd h GY,ss⟩ ?_;rintro k mk _ w6 hS ⟨ms,hu,jt,H6,gZ,gz,gA,gB⟩;try replace hu:=cJ hu
 rw[hu];refine aX bG gZ.is ?_;rw[cB];refine bM<|br (λhU=>?_) λhV=>?_
 ·have hk:k<L.length:=oo;have hW:=cO w6;have H7:=H6.step hW;have hX:=gZ.ext hW;generalize World.drew1 w6=w7 at *;refine aE kJ<|aL dT (lJ hA) H7.ext λ_ ju=>bC bG aG (i:=k) hX.is (by rw[cB];exact hk) λ_ _ hY=>?_;rw[nI]at hY;refine aS aG hY xx λ_=>?_;have jv:=λx=>BJ hk (x:=x);have hZ:=(hL L[k]).1 (cY hk);generalize L[k]=p at *;have gg:p<c.E.length:=by rw[hc.2.1.1];exact hZ.lt hc
  obtain⟨h5,j0,_⟩:=vM hc gg;refine bC bG aG ju gg λb5 o5 gc=>?_;rw[mP gg,h5]at gc;refine aS aG gc H7.ext λ_=>(If (i:=eN c p) (m:=0) H7 oo gz gY gy oo).mono ?_;rintro _ _ ⟨rfl,H8,jw⟩;rw[gb _ oo]at H8;refine aU<|⟨mk-1,oo,k+1,oo,_,rfl,oo,H8,hX.chgF jw so,by simp[gz],λi hi=>?_,λq hq=>?_⟩
  ·rcases(wI (by rw[gz];omega)).1 hi with h|h
   ·exact gA i h
   rw[h];exact .root hZ
  rcases(jv q).1 hq with h|h
  ·exact KQ (gB q h)
  rw[h];exact(wI (by rw[gz];omega)).2 (.inr rfl)
 have jx:∀p,bE c p->cN ms (eN c p):=λp hp=>gB p (by rw[iO oo];exact(hL p).2 hp);have hT:LP c ms out false ms out 0:=⟨by rw[gz,hnn],by rw[gY,hnn],gy,gA,js,jx,λe=>(by cases e),λ_=>⟨rfl,rfl,λi hi=>oo⟩⟩;clear hu hS gZ gb;refine iB.mk (λm us w'=>∃(ms:List Bool)(out:List Nat)(nw:Bool),us=[]/\m=(n*64-(rR ms+out.sum))+(if nw then 1 else 0)/\LW w1 w' gw g h n kc ms out nw/\LP c ms out false ms out 0/\(nw=false->ms=nH c/\out=xL c)) (n*64-(rR ms+out.sum)+1) ⟨ms,out,true,rfl,rfl,H6,hT,λe=>by cases e⟩ ?_;rintro m _ _ ⟨ms,out,nw,hu,hm,H9,j1,h9⟩
 have gC:∀{j2 ms:List Bool}{out0 out:List Nat}{nw:Bool}{k:Nat},LP c j2 out0 nw ms out k->rR ms+out.sum<=n*64:=λ{j2 ms out0 out nw k} hP=>by
   have h1:=LL ms;rw[hP.len,hnn]at h1;have h2:=sum_le (l:=out) (b:=63) λx hx=>by have:=hP.lt x hx;omega
   rw[hP.leno,hnn]at h2;omega
 refine bZ.mk rfl<|aE Bz<|cX cE H9.blk H9.c7<|bW (λhe=>?_) λhe=>?_
 case refine_2=>
   obtain⟨jy,jz⟩:=h9 he;refine⟨jf.t H9.ext,gw,rfl,TO H9.blk H9.c5 ?_,TO H9.blk H9.c6 ?_⟩
   ·rw[<-jy];exact H9.mks.is
   rw[<-jz];exact H9.mine.is
 rw[he,aP rfl]at hm;have hb9:=gC j1;refine bZ.mk rfl<|aE Bz<|qL (α:=dM) (lo:=0) (hi:=0) cE rfl rfl H9.blk H9.l8 (yG rfl) λ_ hg hh=>?_;refine bV n (λk us w'=>∃(ms':List Bool)(out':List Nat)(nw':Bool),us=[iV k]/\k<=n/\LW w1 w' gw g h n kc ms' out' nw'/\LP c ms out nw' ms' out' k) 0 (z0 _) ⟨ms,out,false,rfl,z0 _,(H9.news hg.one hh),j1⟩ ?_;rintro k mk _ j3 hS ⟨M,C,O,hu,jt,H11,D⟩;try replace hu:=cJ hu
 rw[hu];refine aE eW<|aL eJ (fV hA) H11.ext λ_ jB=>aX eQ jB ?_;rw[hnn];refine bM<|br (λhU=>?_) λhV=>?_
 case refine_2=>
   have jC:k=n:=oo;rw[jC]at D;have jD:=gC D;refine⟨(n*64-(rR M+C.sum))+(if O then 1 else 0),?_,M,C,O,rfl,rfl,H11,D.again,λe=>?_⟩
   ·cases O with
    |true=>have:=D.yes rfl;simp;omega
    |false=>rw[(D.no rfl).1,(D.no rfl).2.1];simp;omega
   rw[e,<-hnn]at D;exact D.fin hc
 have hk:k<n:=oo;have gh:k<c.I.length:=oo;have g5:M.length=n:=by rw[D.len,hnn]
 have g1:C.length=n:=by rw[D.leno,hnn]
 refine bZ.mk rfl<|aE OJ<|cX lT H11.blk H11.c5<|bC eY cE (i:=k) H11.mks.is (by rw[g5];exact hk) λ_ _ jE=>iY cE jE xx<|dG ?_;have gd:=kS (ms:=M) (i:=k) (by rw[g5];exact hk);refine bW (λhf=>?_) λhf=>?_
 ·have hr:¬cN M k:=by rw[gd];simpa using hf
  refine aU<|⟨mk-1,oo,k+1,oo,M,C,O,rfl,oo,H11,D.skip hr⟩
 have jF:cN M k:=by rw[gd];simpa using hf
 have gr:=D.snd k jF;refine aE eW<|aL eJ (fV hA) H11.ext λ_ jG=>bC eQ fE jG gh λ_ _ j4=>?_;rw[oM]at j4;refine aL fE j4 H11.ext λ_ j5=>mB zL rfl fE rfl j5 H11.ext λj6 gD gS gE=>?_;have H12:=H11.step gD;have gF:=uT j5 gE rfl;refine bZ.mk rfl<|aE IA<|cX dT H12.blk H12.c6<|bC bG aG (i:=k) H12.mine.is (by rw[cB,g1];exact hk) λb5 o5 gc=>?_;rw[oQ]at gc;refine aS aG gc xx λ_=>?_;have g0:=D.lt0 k;have gT:O=false->bD C k=bD out k:=λe=>by rw[(D.no e).2.1]
 have gG:∀l,l<6->(bD C k).testBit l=true->fT c k l:=λl hl hb=>D.sndm k l gh hb;generalize hh0:bD C k=h0 at *;refine dJ.mk (λus w'=>∃(m:Nat)(ms':List Bool)(out':List Nat)(nw':Bool),us=[iV m]/\LW w1 w' gw g h n kc ms' out' nw'/\LP c ms out nw' ms' out' k/\m<64/\CR c out k h0 m nw'/\((bO c k).op=4->cN ms' (eN c (bS c k))/\oD h0 (bD out' (eN c (bS c k))))/\(∀l,l<6->m.testBit l=true->∀j∈cQ c k,fT c j l)/\∀j∈cQ c k,cD c j) ?_ ?_
 ·have g2:aft c [] k h0=if (bO c k).op=6 then h0 ||| 2^bS c k else if (bO c k).op=7 then sH h0 (2^bS c k)else if (bO c k).op=4 then(h0 &&& (tbl [] (bS c k)).1) ||| (tbl [] (bS c k)).2 else h0:=rfl
  have hs:¬(bO c k).op=4->∀w',LW w1 w' gw g h n kc M C O->aft c [] k h0<64->∃(m:Nat)(ms':List Bool)(out':List Nat)(nw':Bool),[Value.int .i64 (aft c [] k h0:Nat)]=[iV m]/\LW w1 w' gw g h n kc ms' out' nw'/\LP c ms out nw' ms' out' k/\m<64/\CR c out k h0 m nw'/\((bO c k).op=4->cN ms' (eN c (bS c k))/\oD h0 (bD out' (eN c (bS c k))))/\(∀l,l<6->m.testBit l=true->∀j∈cQ c k,fT c j l)/\∀j∈cQ c k,cD c j:=λh4 w' jH ht=>
    ⟨_,M,C,O,rfl,jH,D,ht,λe=>⟨gT e,λh=>absurd h h4,λ_=>by rw[gT e]⟩,λh=>absurd h h4,λl hl hb j hj=>Us h4 gr hj (gG l hl) hb,λj hj=>.next gr h4 hj⟩
  refine aE lV<|aS aG (lW gS) xx λ_=>bI<|br (λc6=>?_) λc6=>?_
  ·obtain⟨ha,_,hq⟩:=yD hc gh (.inl c6);have hp:=HE hq;rw[aP c6]at g2;refine aE mE<|aS aG (mF gS) xx λ_=>?_;rw[ha];refine(PQ oo).mM λhv gi=>xB (m:=h0) (n:=2^bS c k) oo oo ?_;have:=hs oo hv (H12.step gi) (by rw[g2];exact Nl g0 hq);rw[g2]at this;exact this
  rw[aH c6]at g2;refine bI<|br (λc7=>?_) λc7=>?_
  ·obtain⟨ha,_,hq⟩:=yD hc gh (.inr c7);have hp:=HE hq;rw[aP c7]at g2;refine aE mE<|aS aG (mF gS) xx λ_=>?_;rw[ha];refine(PQ oo).mM λhv gi=>(Jk g0 hp).mM λgU gj=>?_;rw[No g0 hp];have:=hs oo gU ((H12.step gi).step gj) (by rw[g2];exact uU (PP _ _) g0);rw[g2]at this;exact this
  rw[aH c7]at g2;refine bI<|br (λc4=>?_) λc4=>?_
  ·obtain⟨j7,j8⟩:=sW hc gh (.inl c4);have gg:bS c k<c.E.length:=by rw[hc.2.1.1];exact j8
   obtain⟨h5,j0,_⟩:=vM hc gg;obtain⟨_,jI,_⟩:=yF hc j8;refine aE kJ<|aL dT (lJ hA) H12.ext λ_ jJ=>aE mE<|aS aG (mF gS) xx λ_=>?_;rw[j7];refine bC bG aG jJ gg λb5 o5 gc=>?_;rw[mP gg,h5]at gc;refine aS aG gc H12.ext λ_=>(If (i:=eN c (bS c k)) (m:=h0) H12 oo g5 g1 D.lt g0).mono ?_;rintro _ hv ⟨rfl,H13,hw⟩;have jK:cD c (eN c (bS c k)):=.call gr c4;have V:=D.put j0 g0 jK λl hl hb=>.call gr c4 (gG l hl hb);have j9:=Po (out:=C) (m:=h0) (i:=eN c (bS c k)) (by rw[g1];omega);have ja:cN (M.set (eN c (bS c k)) true) (eN c (bS c k)):=(wI (by rw[g5];omega)).2 (.inr rfl);have gH:HV M C O (eN c (bS c k)) h0=false->O=false:=Q3;generalize HV M C O (eN c (bS c k)) h0=nw13 at *;generalize C.set (eN c (bS c k)) (bD C (eN c (bS c k)) ||| h0)=out13 at *;generalize M.set (eN c (bS c k)) true=ms13 at *;have jL:j3.heap.size<j6.heap.size:=gE.lt;have jM:j3.heap.size∉[gw,g,h]:=by have h1:=H11.mks.lt g ss;have h2:=H11.mine.lt h ss;have h3:=H11.blk.lt;simp;omega
   refine aL cP hA H13.ext λ_ jN=>aE mE<|aS aG (mF ((gF.keep (hw.block _ jL jM)).at H13.ext)) xx λ_=>?_;rw[j7];refine(NU jN H13.ext (p:=(bS c k:Int)) oo oo hc.2.1.nonneg).mM λgU gj=>?_;have H14:=H13.step gj;rw[jI];have gJ:ms13.length=n:=by rw[V.len,hnn]
   have gK:out13.length=n:=by rw[V.leno,hnn]
   refine bZ.mk rfl<|aE OJ<|cX lT H14.blk H14.c5<|bC eY cE (i:=zN c (bS c k)) H14.mks.is (by rw[gJ];omega) λ_ _ jO=>iY cE jO xx<|dG ?_;have gf:=kS (ms:=ms13) (i:=zN c (bS c k)) (by rw[gJ];omega);refine bW (λgl=>?_) λgl=>?_
   ·have hr:¬cN ms13 (zN c (bS c k)):=by rw[gf];simpa using gl
    refine aU<|⟨mk-1,oo,k+1,oo,ms13,out13,nw13,rfl,oo,H14,LP.close (h0:=h0) (m:=bD out (zN c (bS c k))) V (λe=>⟨gT (gH e),λ_=>rfl,λh=>absurd c4 h⟩) (λ_=>⟨ja,j9⟩) λh=>absurd (h c4) hr⟩
   have jP:cN ms13 (zN c (bS c k)):=by rw[gf];simpa using gl
   have jb:=V.snd _ jP;refine bZ.mk rfl<|aE IA<|cX dT H14.blk H14.c6<|bC bG aG (i:=zN c (bS c k)) H14.mine.is (by rw[cB,gK];omega) λb7 o7 gL=>?_;rw[oQ]at gL;refine aS aG gL xx λ_=>⟨bD out13 (zN c (bS c k)),ms13,out13,nw13,rfl,H14,V,V.lt0 _,λe=>⟨gT (gH e),λ_=>by rw[(V.no e).2.1],λh=>absurd c4 h⟩,λ_=>⟨ja,j9⟩,λl hl hb j hj=>.back gr c4 jb (V.sndm _ l oo hb) hj,λj hj=>.back gr c4 jb hj⟩
  rw[aH c4]at g2;have:=hs c4 j6 H12 (by rw[g2];exact g0);rw[g2]at this;exact this
 rintro us gU ⟨m,hy,gM,hz,hB,H14,hC,gN,hD,hF,hG,jQ⟩;try replace hB:=cJ hB
 rw[hB];refine aL cP hA H14.ext λ_ hH=>(Iy hH H14.ext hc gh).mono ?_;rintro jR jS ⟨hI,hJ⟩;have jT:=H14.step hI;have hl2:=OE c k;have jU:=λ{j:Nat}(hj:j∈cQ c k)=>(zZ hc gh hj).1;have gn:=λ{ms o:List Bool}{out0 out1:List Nat}{ag:Bool}(hP:LP c ms out0 ag o out1 k)=>LP.close (h0:=h0) (m:=m) hP;generalize hNx:cQ c k=N at *;refine bV N.length (λq us w'=>∃(ms':List Bool)(out':List Nat)(nw':Bool),us=[iV q]/\q<=N.length/\LW w1 w' gw g h n kc ms' out' nw'/\LP c ms out nw' ms' out' k/\CR c out k h0 m nw'/\((bO c k).op=4->cN ms' (eN c (bS c k))/\oD h0 (bD out' (eN c (bS c k))))/\(∀j∈N.take q,cN ms' j/\oD m (bD out' j))/\aK gU.heap.size jS.heap.size w' jR (bN N)) 0 (z0 _) ⟨hy,gM,hz,rfl,z0 _,jT,hC,hD,hF,ss,hJ.toI⟩ ?_;rintro q mq u _ _ ⟨gO,g3,hK,hu,_,jc,g4,gP,gp,g9,gq⟩;try replace hu:=cJ hu
 rw[hu];refine aX bG gq.is ?_;rw[cB];refine bM<|br (λhU=>?_) λhV=>?_
 case refine_2=>refine aU ?_;rw[iO oo]at g9;exact⟨mk-1,oo,k+1,oo,gO,g3,hK,rfl,oo,jc,gn g4 gP gp λ_=>hNx▸g9⟩
 have hq:q<N.length:=oo;refine bC bG aG (i:=q) gq.is (by rw[cB];exact hq) λb7 o7 gL=>?_;rw[nI]at gL;refine aS aG gL xx λ_=>?_;have jV:=λx=>BJ hq (x:=x);have hj:=cY hq;have jW:=jU hj;have jX:=λl hl hb=>hG l hl hb _ hj;have hM:=jQ _ hj;generalize N[q]=j at *;have gQ:gO.length=n:=by rw[g4.len,hnn]
 have gR:g3.length=n:=by rw[g4.leno,hnn]
 refine(If (i:=j) (m:=m) jc oo gQ gR g4.lt gN).mono ?_;rintro _ _ ⟨rfl,jY,hN⟩;refine aU ?_;have jZ:=H14.mks.lt g ss;have d0:=H14.mine.lt h ss;have jd:=H14.blk.lt;have hO:j<g3.length:=oo;refine⟨mq-1,oo,q+1,oo,_,_,_,rfl,oo,jY,g4.put jW gN hM jX,λe=>gP (Q3 e),λh4=>⟨KQ (gp h4).1,D3 hO (gp h4).2⟩,λi hi=>?_,gq.chgF hN so⟩;rcases(jV i).1 hi with h|h
 ·exact⟨KQ (g9 i h).1,D3 hO (g9 i h).2⟩
 subst h;exact⟨(wI (by rw[gQ];omega)).2 (.inr rfl),Po hO⟩
end Go.Proofs.YtcaakhmhlfgogaaGreatDoor
namespace Go.Sh
open Rep (rep)
variable {cs ds:List vL}{e g:Nat}{w:wD}
def cA.uniq{cs g0:List vL}(h:cA g e w cs)(h':cA g e w g0):g0=cs:=by
 unfold cA at h h';rw[h]at h';simp only[iU,Obj.cells.injEq]at h';have:=h'.1;simpa using this.symm
def Q5(h:cA g e w (cs++ds)):w.rangeAt g 0 cs:=(wU h.range).1
end Go.Sh
namespace Go.Proofs.YtcaakhmhlfgogaaGreatDoor
open Go Go.Sh Go.Proofs
open Rep (rep)
variable {C M out:List Nat}{W W0 w:wD}{b e g g6 g7 g8 i j m n o p q r:Nat}{c:aF}{cs hd kc:List vL}{op:Int}{v0 x10 x6 x7 x8 x9:vL}
structure WB(W0 w:wD)(b e:Nat)(c:aF)(kc:List vL)(m:Nat)(x6 x7 x8 x9 x10:vL):Prop where
 ext:aB W0 w
 blk:cA b e w (kc++[.slice (some ⟨m,0,none⟩) c.I.length c.I.length,x6,x7,x8,x9,x10])
 code:∃F,rep F W0 kc c
 live:aZ [m] w (.slice (some ⟨m,0,none⟩) c.I.length c.I.length) (cZ c.I.length (HJ c))
 b0:W0.heap.size<=b
 m0:W0.heap.size<=m
 ne:b≠m
section
variable {W0 w w':wD}{b e m:Nat}{c:aF}{kc:List vL}{x6 x7 x8 x9 x10:vL}
def WB.k5(h:WB W0 w b e c kc m x6 x7 x8 x9 x10):kc.length=5:=by obtain⟨_,hr⟩:=h.code;exact Rep.len hr
def WB.cell(h:WB W0 w b e c kc m x6 x7 x8 x9 x10)(i:Nat):(kc++[Value.slice (some ⟨m,0,none⟩) c.I.length c.I.length,x6,x7,x8,x9,x10])[5+i]?=[Value.slice (some ⟨m,0,none⟩) c.I.length c.I.length,x6,x7,x8,x9,x10][i]?:=by
 rw[List.getElem?_append_right (by rw[h.k5];omega),h.k5,Kb]
def WB.code_at(h:WB W0 w b e c kc m x6 x7 x8 x9 x10):At w b 0 c:=by
 obtain⟨F,hr⟩:=h.code;exact⟨F,kc,rH hr h.ext,Q5 h.blk⟩
def WB.wl(h:WB W0 w b e c kc m x6 x7 x8 x9 x10):WL w b c:=⟨h.code_at,TO h.blk (h.cell 0) h.live.is⟩
def WB.step(h:WB W0 w b e c kc m x6 x7 x8 x9 x10)(hx:aB w w'):WB W0 w' b e c kc m x6 x7 x8 x9 x10:=⟨h.ext.trans hx,h.blk.ext hx,h.code,h.live.ext hx,h.b0,h.m0,h.ne⟩
def WB.chg{F:List Nat}(h:WB W0 w b e c kc m x6 x7 x8 x9 x10)(hc:cH F w w')(hF:∀ x∈F,W0.heap.size<=x/\x≠b/\x≠m):WB W0 w' b e c kc m x6 x7 x8 x9 x10:=
 ⟨h.ext.chgF hc λx hx=>(hF x hx).1,h.blk.chgF hc λhb=>(hF b hb).2.1 rfl,h.code,h.live.keep λx hx=>by
   simp only[bF,dL,dI]at hx;subst hx;exact hc.block x (h.live.lt x ss) λhm=>(hF x hm).2.2 rfl,h.b0,h.m0,h.ne⟩
def WB.cells{y6 y7 y8 y9 y10:vL}(h:WB W0 w b e c kc m x6 x7 x8 x9 x10)(hc:aN b (b+1) w w')(hB:cA b e w' (kc++[.slice (some ⟨m,0,none⟩) c.I.length c.I.length,y6,y7,y8,y9,y10])):WB W0 w' b e c kc m y6 y7 y8 y9 y10:=
 ⟨h.ext.xI hc h.b0,hB,h.code,h.live.keep λx hx=>by
   simp only[bF,dL,dI]at hx;subst hx;exact hc.block x (h.live.lt x ss) (by have:=h.ne;omega),h.b0,h.m0,h.ne⟩
def WB.set(h:WB W0 w b e c kc m x6 x7 x8 x9 x10)(i:Nat)(v:vL):(kc++[Value.slice (some ⟨m,0,none⟩) c.I.length c.I.length,x6,x7,x8,x9,x10]).set (5+i) v=kc++[Value.slice (some ⟨m,0,none⟩) c.I.length c.I.length,x6,x7,x8,x9,x10].set i v:=by
 rw[MQ _ _ (by rw[h.k5];omega),h.k5,Kb]
end
def CS(c:aF)(out:List Nat)(D:Nat->Nat->Prop):Prop:=out.length=c.P.length/\∀q,q<c.P.length->bD out q=eM (D q) c.P.length
def CS.mono{D D':Nat->Nat->Prop}(h:CS c out D)(hD:∀ q r,q<c.P.length->r<c.P.length->(D q r↔D' q r)):CS c out D':=⟨h.1,λq hq=>by rw[h.2 q hq];exact wN λr hr=>hD q r hq hr⟩
def CS.set{D D':Nat->Nat->Prop}(h:CS c out D){p a:Nat}(hp:p<c.P.length)(ha:a<c.P.length)(hD:∀ q r,D' q r↔D q r\/(q=p/\r=a)):CS c (out.set p (bD out p ||| 2^a)) D':=by
 refine⟨by simp[h.1],λq hq=>?_⟩;rw[uF (by rw[h.1];exact hp)];split
 ·rename_i e;subst e;rw[h.2 p hp];refine BO λr=>?_;rw[vA,AQ,vB,nW,lZ,hD];constructor
  ·rintro(⟨h1,h2⟩|rfl)
   ·exact⟨h1,.inl h2⟩
   exact⟨ha,.inr ⟨rfl,rfl⟩⟩
  rintro⟨h1,h2|⟨_,h2⟩⟩
  ·exact .inl ⟨h1,h2⟩
  exact .inr h2.symm
 rename_i e;rw[h.2 q hq];exact wN λr _=>⟨λh=>(hD q r).2 (.inl h),λh=>((hD q r).1 h).resolve_right λh=>e h.1.symm⟩
def CS.lt0{D:Nat->Nat->Prop}(h:CS c out D)(h8:c.P.length<=8){q:Nat}(hq:q<c.P.length):bD out q<256:=by rw[h.2 q hq];exact uW h8
def CS.zero{D:Nat->Nat->Prop}(hD:∀ q r,¬D q r):CS c (List.replicate c.P.length 0) D:=⟨ss,λq hq=>by
 rw[<-pQ (by simp;exact hq),Im];exact BO λr=>by simp[hD]⟩
def CS.eq_cls(h:CS c out λq r=>rY c q op r):out=cls c op:=by
 refine wE (by rw[h.1,KY]) λi h1 h2=>?_;have hi:i<c.P.length:=by rw[<-h.1];exact h1
 rw[pQ h1,pQ h2,G8 hi,h.2 i hi]
def RY(j:Nat):Nat:=if j=11 then 6 else if j=14 then 7 else 8
def SA(j:Nat):Prop:=j=11\/j=14\/j=17
def PO(W:wD)(b e:Nat)(hd:List vL)(t9 t10:vL)(w:wD):Prop:=aN b (b+1) W w/\∃x6 x7 x8,cA b e w (hd++[x6,x7,x8,t9,t10])
def AI(b e:Nat)(j:Nat)(w w':wD):Prop:=(SA j/\aN b (b+1) w w'/\∀cs,cA b e w cs->∃v,cA b e w' (cs.set (RY j) v))\/(¬SA j/\aB w w')
def po(b e n:Nat):iE:=λi u T w=>match i with
 |0=>u 17=pT b 0
 |1=>u 18=pT b 0
 |2=>u 19=pT b 0
 |3=>u 20=iV n
 |4=>∃g,u 21=.slice (some ⟨g,0,none⟩) n n/\(T 4).1<=g/\g<(T 4).2/\g≠b/\aZ [g] w (.slice (some ⟨g,0,none⟩) n n) (bN (List.replicate n 0))
 |5=>u 22=iV n
 |6=>∃g,u 23=.slice (some ⟨g,0,none⟩) n n/\(T 6).1<=g/\g<(T 6).2/\g≠b/\aZ [g] w (.slice (some ⟨g,0,none⟩) n n) (bN (List.replicate n 0))
 |7=>u 24=iV n
 |8=>∃g,u 25=.slice (some ⟨g,0,none⟩) n n/\(T 8).1<=g/\g<(T 8).2/\g≠b/\aZ [g] w (.slice (some ⟨g,0,none⟩) n n) (bN (List.replicate n 0))
 |9=>u 26=pT b 0
 |10=>u 27=pT b (0+6)
 |11=>∃cs,cA b e w cs/\cs[6]?=some (u 21)
 |12=>u 28=pT b 0
 |13=>u 29=pT b (0+7)
 |14=>∃cs,cA b e w cs/\cs[7]?=some (u 23)
 |15=>u 30=pT b 0
 |16=>u 31=pT b (0+8)
 |17=>∃cs,cA b e w cs/\cs[8]?=some (u 25)
 |_=>True
section
variable {b e n:Nat}{w w':wD}
def AI.sz{j:Nat}(h:AI b e j w w'):w.heap.size<=w'.heap.size:=by
 rcases h with⟨_,h,_⟩|⟨_,h⟩
 ·exact h.size
 exact h.size
def AI.chg{j:Nat}(h:AI b e j w w'):aN b (b+1) w w':=by
 rcases h with⟨_,h,_⟩|⟨_,h⟩
 ·exact h
 exact h.toI
def AI.mine{j g:Nat}{l:List Int}{v:vL}(h:AI b e j w w')(hg:g≠b)(hm:aZ [g] w v l):aZ [g] w' v l:=hm.keep λx hx=>by
 simp only[bF,dL,dI]at hx;subst hx;exact h.chg.block x (hm.lt x ss) oo
def AI.cell{j:Nat}{u:vL}{k:Nat}(h:AI b e j w w')(g0:SA j->RY j≠k)(hc:∃ cs,cA b e w cs/\cs[k]?=some u):∃cs,cA b e w' cs/\cs[k]?=some u:=by
 obtain⟨cs,hB,hk⟩:=hc;rcases h with⟨hs,_,h⟩|⟨_,h⟩
 ·obtain⟨_,hv⟩:=h cs hB;exact⟨_,hv,by rw[List.getElem?_set_ne (g0 hs)];exact hk⟩
 exact⟨cs,hB.ext h,hk⟩
def PO.step{W:wD}{hd:List vL}{t9 g0:vL}{j:Nat}(h6:hd.length=6)(h:PO W b e hd t9 g0 w)(hR:AI b e j w w'):PO W b e hd t9 g0 w':=by
 obtain⟨hc,x6,x7,x8,hB⟩:=h;refine⟨hc.trans hR.chg,?_⟩;rcases hR with⟨hs,_,hR⟩|⟨_,hR⟩
 ·obtain⟨v,hv⟩:=hR _ hB;rcases hs with rfl|rfl|rfl
  ·refine⟨v,x7,x8,?_⟩;rw[MQ _ _ (by rw[h6];decide),h6]at hv;exact hv
  ·refine⟨x6,v,x8,?_⟩;rw[MQ _ _ (by rw[h6];decide),h6]at hv;exact hv
  refine⟨x6,x7,v,?_⟩;rw[MQ _ _ (by rw[h6];decide),h6]at hv;exact hv
 exact⟨x6,x7,x8,hB.ext hR⟩
def AI.ext{j:Nat}(hj:¬SA j)(hx:aB w w'):AI b e j w w':=.inr ⟨hj,hx⟩
end
def Gg{t9 g1:vL}{K:wD->Prop}(hs:SA j)(h6:hd.length=6)(hB:PO W b e hd t9 g1 w)(k:∀ w',AI b e j w w'->(∃ cs,cA b e w' cs/\cs[RY j]?=some (.slice (some ⟨g,0,none⟩) n n))->K w') :
   fA tp (Instr.storeAt 31 (pT b (0+RY j)) (.slice (some ⟨g,0,none⟩) n n)) w K:=by
 obtain⟨_,x6,x7,x8,hB⟩:=hB
 have g0:RY j<(hd++[x6,x7,x8,t9,g1]).length:=by
   rw[bX,h6];show RY j<11;rcases hs with rfl|rfl|rfl<;>decide
 rw[vO];refine qL (α:=dM) (lo:=0) (hi:=0) dT rfl rfl hB g0 (yG rfl) λw2 g3 g2=>?_
 have hR:AI b e j w w2:=.inl ⟨hs,g3,λcs g4=>by
   have:=hB.uniq g4;subst this;exact⟨_,g2⟩⟩
 exact k w2 hR ⟨_,g2,by rw[List.getElem?_set_self g0]⟩
def lf(l:List Int):(pN C l).testBit r=true↔∃x∈l,(bD C x.toNat).testBit r=true:=by
 have g0:∀(l:List Int)(a:Nat),(l.foldl (λa i=>a ||| C.getD i.toNat 0) a).testBit r=true↔a.testBit r=true\/∃x∈l,(bD C x.toNat).testBit r=true:=λl=>by
   induction l with
   |nil=>simp
   | cons i l ih=>
     intro a;rw[HR,ih,vA,vB,or_assoc];refine or_congr Iff.rfl ?_;simp only[bF,exists_eq_or_imp];exact Iff.rfl
 have:=g0 l 0;simpa[pN]using this
def WQ{g0:List Nat}(hm:m<2^n)(hn:n<=62):(pN g0 (iK m)).testBit r=true↔∃i,i<n/\m.testBit i=true/\(bD g0 i).testBit r=true:=by
 rw[lf,Gl hm oo];constructor
 ·rintro⟨_,hx,h⟩;obtain⟨i,h1,rfl,h3⟩:=KM.1 hx;exact⟨i,h1,h3,by simpa using h⟩
 rintro⟨i,h1,h2,h3⟩;exact⟨(i:Int),KM.2 ⟨i,h1,rfl,h2⟩,by simpa using h3⟩
def Nu(h:∀ r,m.testBit r=true->r<n):m<2^n:=Ss _ λi hi=>by
 cases e:m.testBit i
 ·rfl
 have:=h i e;omega
abbrev sl(g n:Nat):vL:=.slice (some ⟨g,0,none⟩) n n
structure FC(W0 w:wD)(b e:Nat)(c:aF)(kc:List vL)(m g6 g7 g8:Nat)(c6 c7 c8:List Nat)(x9 x10:vL):Prop where
 wb:WB W0 w b e c kc m (sl g6 c.P.length) (sl g7 c.P.length) (sl g8 c.P.length) x9 x10
 m6:aZ [g6] w (sl g6 c.P.length) (bN c6)
 m7:aZ [g7] w (sl g7 c.P.length) (bN c7)
 m8:aZ [g8] w (sl g8 c.P.length) (bN c8)
 n6:W0.heap.size<=g6/\g6≠b/\g6≠m
 n7:W0.heap.size<=g7/\g7≠b/\g7≠m
 n8:W0.heap.size<=g8/\g8≠b/\g8≠m
 d67:g6≠g7
 d68:g6≠g8
 d78:g7≠g8
section
variable {W0 w w':wD}{b e m g6 g7 g8:Nat}{c:aF}{kc:List vL}{c6 c7 c8:List Nat}{x9 x10:vL}
def JA{F:List Nat}{g:Nat}{v:vL}{l:List Int}(hm:aZ [g] w v l)(hc:cH F w w')(hg:g∉F):aZ [g] w' v l:=hm.keep λx hx=>by
 simp only[bF,dL,dI]at hx;subst hx;exact hc.block x (hm.lt x ss) hg
def FC.step(h:FC W0 w b e c kc m g6 g7 g8 c6 c7 c8 x9 x10)(hx:aB w w'):FC W0 w' b e c kc m g6 g7 g8 c6 c7 c8 x9 x10:=⟨h.wb.step hx,h.m6.ext hx,h.m7.ext hx,h.m8.ext hx,h.n6,h.n7,h.n8,h.d67,h.d68,h.d78⟩
def FC.set6{i v:Nat}(h:FC W0 w b e c kc m g6 g7 g8 c6 c7 c8 x9 x10)(hc:cH [g6] w w')(hm:aZ [g6] w' (sl g6 c.P.length) ((bN c6).set i (v:Int))):FC W0 w' b e c kc m g6 g7 g8 (c6.set i v) c7 c8 x9 x10:=
 ⟨h.wb.chg hc (by simp[h.n6]),by rw[NC];exact hm,JA h.m7 hc (by simp[Ne.symm h.d67]),JA h.m8 hc (by simp[Ne.symm h.d68]),h.n6,h.n7,h.n8,h.d67,h.d68,h.d78⟩
def FC.set7{i v:Nat}(h:FC W0 w b e c kc m g6 g7 g8 c6 c7 c8 x9 x10)(hc:cH [g7] w w')(hm:aZ [g7] w' (sl g7 c.P.length) ((bN c7).set i (v:Int))):FC W0 w' b e c kc m g6 g7 g8 c6 (c7.set i v) c8 x9 x10:=
 ⟨h.wb.chg hc (by simp[h.n7]),JA h.m6 hc (by simp[h.d67]),by rw[NC];exact hm,JA h.m8 hc (by simp[Ne.symm h.d78]),h.n6,h.n7,h.n8,h.d67,h.d68,h.d78⟩
def FC.set8{i v:Nat}(h:FC W0 w b e c kc m g6 g7 g8 c6 c7 c8 x9 x10)(hc:cH [g8] w w')(hm:aZ [g8] w' (sl g8 c.P.length) ((bN c8).set i (v:Int))):FC W0 w' b e c kc m g6 g7 g8 c6 c7 (c8.set i v) x9 x10:=
 ⟨h.wb.chg hc (by simp[h.n8]),JA h.m6 hc (by simp[h.d68]),JA h.m7 hc (by simp[h.d78]),by rw[NC];exact hm,h.n6,h.n7,h.n8,h.d67,h.d68,h.d78⟩
end
def WB.I(h:WB W0 w b e c kc m x6 x7 x8 x9 x10):∃v,(kc++[Value.slice (some ⟨m,0,none⟩) c.I.length c.I.length,x6,x7,x8,x9,x10])[0+0+4]?=some v/\Is W0 v c.I:=by
 obtain⟨_,hr⟩:=h.code;obtain⟨_,_,_,_,_,_,_,_,_,_,rfl,rfl,⟨_,_,_,_,rfl,_⟩,⟨_,_,_,_,rfl,_⟩,⟨_,_,_,_,rfl,_⟩,⟨_,_,_,_,rfl,_⟩,g1⟩:=L8 hr;have g0:=g1;obtain⟨_,_,_,_,rfl,_⟩:=g1;exact⟨_,rfl,_,_,g0,rfl⟩
def tV(c:aF)(op:Int)(p:Nat)(M:List Nat)(j:Nat):Nat->Nat->Prop:=λq r=>(q<p/\rY c q op r)\/(q=p/\∃i∈M.take j,(bO c i).op=op/\bS c i=r)
def A5(g0:∀ x,x∈M.take (j+1)↔x∈M.take j\/x=i)(hn:¬(bO c i).op=op)(q r:Nat):tV c op p M j q r↔tV c op p M (j+1) q r:=by
 unfold tV;refine or_congr Iff.rfl (and_congr Iff.rfl ?_);constructor
 ·rintro⟨x,hx,h⟩;exact⟨x,(g0 x).2 (.inl hx),h⟩
 rintro⟨x,hx,h⟩;rcases(g0 x).1 hx with hx|rfl
 ·exact⟨x,hx,h⟩
 exact absurd h.1 hn
def G7(g0:∀ x,x∈M.take (j+1)↔x∈M.take j\/x=i)(hy:(bO c i).op=op)(q r:Nat):tV c op p M (j+1) q r↔tV c op p M j q r\/(q=p/\r=bS c i):=by
 unfold tV;constructor
 ·rintro(h|⟨h1,x,hx,h⟩)
  ·exact .inl (.inl h)
  rcases(g0 x).1 hx with hx|rfl
  ·exact .inl (.inr ⟨h1,x,hx,h⟩)
  exact .inr ⟨h1,h.2.symm⟩
 rintro((h|⟨h1,x,hx,h⟩)|⟨h1,h2⟩)
 ·exact .inl h
 ·exact .inr ⟨h1,x,(g0 x).2 (.inl hx),h⟩
 exact .inr ⟨h1,i,(g0 i).2 (.inr rfl),hy,h2.symm⟩
def Vn(hc:aM c){op:Int}(hop:op=4\/op=5){p:Nat}{M:List Nat}(hp:p<c.P.length)(hM:∀ i,i∈M↔dE c p i)(q r:Nat):tV c op p M M.length q r↔tV c op (p+1) [] 0 q r:=by
 have g1:(∃i∈M.take M.length,(bO c i).op=op/\bS c i=r)↔rY c p op r:=by
   rw[sF];constructor
   ·rintro⟨i,hi,h1,h2⟩;have hl:=(hM i).1 hi;have g0:=(rB hc (by rw[hc.2.1.1];exact hp) hl).1;exact⟨i,g0,hl,h1,by rw[(sW hc g0 oo).1,h2]⟩
   rintro⟨i,g0,hl,h1,h2⟩;have:=(sW hc g0 oo).1;exact⟨i,(hM i).2 hl,h1,oo⟩
 unfold tV;constructor
 ·rintro(h|⟨rfl,h⟩)
  ·exact .inl ⟨oo,h.2⟩
  exact .inl ⟨oo,g1.1 h⟩
 rintro(⟨h1,h2⟩|⟨_,_,hx,_⟩)
 ·by_cases e:q=p
  ·subst e;exact .inr ⟨rfl,g1.2 h2⟩
  exact .inl ⟨oo,h2⟩
 simp at hx
def Z9(q r:Nat):tV c op p [] 0 q r↔tV c op p M 0 q r:=by
 unfold tV;simp
def CS.done(h:CS c out (tV c op c.P.length [] 0)):out=cls c op:=
 CS.eq_cls (op:=op) (h.mono λq r hq hr=>by unfold tV;simp[hq])
structure UM(c:aF)(p m:Nat):Prop where
 lt:m<2^c.P.length
 self:m.testBit p=true
 snd:∀r,m.testBit r=true->bL c p r
def UM.start(hp:p<c.P.length):UM c p (2^p):=⟨CX oo hp,by simp[AQ],λr hr=>by simp[AQ]at hr;exact .inl hr.symm⟩
def RA(hq:q<c.P.length):(bD (cls c op) q).testBit r=true↔r<c.P.length/\rY c q op r:=by rw[G8 hq,nW]
def UM.more(h8:c.P.length<=8){p m:Nat}(h:UM c p m):UM c p (m ||| pN (cls c 4) (iK m)):=by
 have hb:∀r,(pN (cls c 4) (iK m)).testBit r=true->∃i,i<c.P.length/\m.testBit i=true/\r<c.P.length/\rY c i 4 r:=λr hr=>by
   obtain⟨i,h1,h2,h3⟩:=(WQ h.lt oo).1 hr;exact⟨i,h1,h2,(RA h1).1 h3⟩
 refine⟨zO h.lt (Nu λr hr=>by obtain⟨i,_,_,h3,_⟩:=hb r hr;exact h3),by rw[vA,h.self];rfl,λr hr=>?_⟩;rw[vA,vB]at hr;rcases hr with hr|hr
 ·exact h.snd r hr
 obtain⟨i,h1,h2,h3,h4⟩:=hb r hr;exact(h.snd i h2).call h3 h4
def UM.fin(h8:c.P.length<=8){p m:Nat}(h:UM c p m)(he:m ||| pN (cls c 4) (iK m)=m):m=eM (bL c p) c.P.length:=by
 have g0:∀r,m.testBit r=true->r<c.P.length:=λr hr=>NS λ_=>by
   have:=PE (kP h.lt (tX oo (by omega:c.P.length<=r)));rw[this]at hr;cases hr
 refine BO λr=>⟨λhr=>⟨g0 r hr,h.snd r hr⟩,λ⟨_,hf⟩=>?_⟩
 have step:∀i j,m.testBit i=true->j∈EK c i->m.testBit j=true:=λi j hi hj=>by
   obtain⟨g1,g2⟩:=mG.1 hj;rw[<-he,vA,(WQ h.lt oo).2 ⟨i,g0 i hi,hi,(RA (g0 i hi)).2 ⟨g1,g2⟩⟩];simp
 rcases hf with rfl|hf
 ·exact h.self
 exact hf.keeps (p:=λi=>m.testBit i=true) h.self step
def Az(h8:c.P.length<=8)(op:Int):∀x∈cls c op,x<256:=λx hx=>by
 obtain⟨q,_,rfl⟩:=sT.1 hx;exact uW h8
def zHI(h8:c.P.length<=8):∀x∈frs c,x<256:=λx hx=>by
 obtain⟨q,_,rfl⟩:=sT.1 hx;exact uW h8
def zr4(H:WB W0 w b e c kc m x6 x7 x8 x9 x10)(hc:aM c) :
   aJ tp 76 [pT b 0] w λr w'=>r=.tuple #[]/\∃g6 g7 g8,FC W0 w' b e c kc m g6 g7 g8 (cls c 4) (cls c 5) (frs c) x9 x10:=by
 refine co (g:=⟨extL,[(11,295143401579725455360,[])],[(3,77371252455336258591260776,[33]),(6,38685626227667034078969952,[40]),(16,20769187279396805603449450954491776,[87]),(20,81119734894292398653589812152064,[8,9])],[(10,[0,1,2,3,4,5,6,7,8,9,10,11,12,13],0),(12,[0,1,2,3,4,5,6,7,8,9,10,11,12,13],0)],[],[],[(1,4294836224)]⟩) Tryz.func76 ?_;have h8:=hc.1.p8;have hA:=hc.f.I;refine bZ.mk rfl<|aE mT<|aE lQ<|aL dC (nF H.code_at) xx λ_ hC=>aX cL hC ?_;have Z:=cO w;have H1:=H.step Z;have h6:(kc++[sl m c.I.length]).length=6:=by rw[bX,H.k5];rfl
 have gV:PO (World.drew1 w) b e (kc++[sl m c.I.length]) x9 x10 (World.drew1 w):=⟨aN.refl _,x6,x7,x8,by rw[fR];exact H1.blk⟩;have hbl:=H1.blk.lt;have hsd:(World.drew1 w).heap.size=w.heap.size:=rfl;refine FZ.mk (PO (World.drew1 w) b e (kc++[sl m c.I.length]) x9 x10) (AI b e) (po b e c.P.length) gV (λj w1 w2 h1 h2=>h1.step h6 h2) (λj w1 w2 h=>h.sz) ?_ ?_ ?_
 ·intro i j u u' T _ _ wb g2 _ hR hd hq
  match i,g2,hd,hq with
  |0,_,hd,hq=>exact(hd (0,17) dD).1.trans hq
  |1,_,hd,hq=>exact(hd (1,18) dD).1.trans hq
  |2,_,hd,hq=>exact(hd (2,19) dD).1.trans hq
  |3,_,hd,hq=>exact(hd (3,20) dD).1.trans hq
  | 4,_,hd,⟨g,q1,q2,q3,q4,q5⟩=>
    obtain⟨e1,e2⟩:=hd (4,21) dD;simp only at e1 e2;exact⟨g,e1.trans q1,by rw[e2];exact q2,by rw[e2];exact q3,q4,hR.mine q4 q5⟩
  |5,_,hd,hq=>exact(hd (5,22) dD).1.trans hq
  | 6,_,hd,⟨g,q1,q2,q3,q4,q5⟩=>
    obtain⟨e1,e2⟩:=hd (6,23) dD;simp only at e1 e2;exact⟨g,e1.trans q1,by rw[e2];exact q2,by rw[e2];exact q3,q4,hR.mine q4 q5⟩
  |7,_,hd,hq=>exact(hd (7,24) dD).1.trans hq
  | 8,_,hd,⟨g,q1,q2,q3,q4,q5⟩=>
    obtain⟨e1,e2⟩:=hd (8,25) dD;simp only at e1 e2;exact⟨g,e1.trans q1,by rw[e2];exact q2,by rw[e2];exact q3,q4,hR.mine q4 q5⟩
  |9,_,hd,hq=>exact(hd (9,26) dD).1.trans hq
  |10,_,hd,hq=>exact(hd (10,27) dD).1.trans hq
  | 11,g2,hd,hq=>
    have e1:=(hd (4,21) dD).1;simp only at e1;show ∃cs,cA b e wb cs/\cs[6]?=some (u' 21);rw[e1];exact hR.cell (λhs=>by rcases hs with rfl|rfl|rfl<;>first|exact absurd rfl g2|decide) hq
  |12,_,hd,hq=>exact(hd (12,28) dD).1.trans hq
  |13,_,hd,hq=>exact(hd (13,29) dD).1.trans hq
  | 14,g2,hd,hq=>
    have e1:=(hd (6,23) dD).1;simp only at e1;show ∃cs,cA b e wb cs/\cs[7]?=some (u' 23);rw[e1];exact hR.cell (λhs=>by rcases hs with rfl|rfl|rfl<;>first|exact absurd rfl g2|decide) hq
  |15,_,hd,hq=>exact(hd (15,30) dD).1.trans hq
  |16,_,hd,hq=>exact(hd (16,31) dD).1.trans hq
  | 17,g2,hd,hq=>
    have e1:=(hd (8,25) dD).1;simp only at e1;show ∃cs,cA b e wb cs/\cs[8]?=some (u' 25);rw[e1];exact hR.cell (λhs=>by rcases hs with rfl|rfl|rfl<;>first|exact absurd rfl g2|decide) hq
  |n+18,_,_,_=>trivial
 ·have nf:∀j,j≠11->j≠14->j≠17->¬SA j:=λj _ b _ h=>by rcases h with h|h|h<;>contradiction
  refine⟨?_,?_,?_,?_,?_,?_,?_,?_,?_,?_,?_,?_,?_,?_,?_,?_,?_,?_,trivial⟩
  ·exactλu T w' hB hs _ _=>⟨.ext (nf _ dD dD dD) xx,rfl⟩
  ·exactλu T w' hB hs _ _=>⟨.ext (nf _ dD dD dD) xx,rfl⟩
  ·exactλu T w' hB hs _ _=>⟨.ext (nf _ dD dD dD) xx,rfl⟩
  ·exactλu T w' hB hs _ _=>⟨.ext (nf _ dD dD dD) xx,rfl⟩
  ·intro u T w' hB hs _ hp;have q2:u 20=_:=hp.1;rw[q2];exact FK h8.2 oo λw4 g3 r=>⟨.ext (nf _ dD dD dD) g3,_,rfl,lr _,r.lt _ (oY.2 rfl),by obtain⟨_,_,_,_,hb⟩:=hB;have:=hb.lt;omega,r⟩
  ·exactλu T w' hB hs _ _=>⟨.ext (nf _ dD dD dD) xx,rfl⟩
  ·intro u T w' hB hs _ hp;have q2:u 22=_:=hp.1;rw[q2];exact FK h8.2 oo λw4 g3 r=>⟨.ext (nf _ dD dD dD) g3,_,rfl,lr _,r.lt _ (oY.2 rfl),by obtain⟨_,_,_,_,hb⟩:=hB;have:=hb.lt;omega,r⟩
  ·exactλu T w' hB hs _ _=>⟨.ext (nf _ dD dD dD) xx,rfl⟩
  ·intro u T w' hB hs _ hp;have q2:u 24=_:=hp.1;rw[q2];exact FK h8.2 oo λw4 g3 r=>⟨.ext (nf _ dD dD dD) g3,_,rfl,lr _,r.lt _ (oY.2 rfl),by obtain⟨_,_,_,_,hb⟩:=hB;have:=hb.lt;omega,r⟩
  ·intro u T w' hB hs _ hp;have q:u 17=_:=hp.1;rw[q];exact bZ.mk rfl ⟨.ext (nf _ dD dD dD) xx,rfl⟩
  ·intro u T w' hB hs _ hp;have q:u 26=_:=hp.1;rw[q];exact aE Cd ⟨.ext (nf _ dD dD dD) xx,rfl⟩
  ·intro u T w' hB hs _ hp;have q:u 27=_:=hp.1;obtain⟨g,q1,_⟩:=hp.2.1;rw[q,q1];refine Gg (j:=11) (.inl rfl) h6 hB λw2 hR hQ=>⟨hR,?_⟩;show ∃cs,cA b e w2 cs/\cs[6]?=some (u 21);rw[q1];exact hQ
  ·intro u T w' hB hs _ hp;have q:u 18=_:=hp.1;rw[q];exact bZ.mk rfl ⟨.ext (nf _ dD dD dD) xx,rfl⟩
  ·intro u T w' hB hs _ hp;have q:u 28=_:=hp.1;rw[q];exact aE Pj ⟨.ext (nf _ dD dD dD) xx,rfl⟩
  ·intro u T w' hB hs _ hp;have q:u 29=_:=hp.1;obtain⟨g,q1,_⟩:=hp.2.1;rw[q,q1];refine Gg (j:=14) (.inr (.inl rfl)) h6 hB λw2 hR hQ=>⟨hR,?_⟩;show ∃cs,cA b e w2 cs/\cs[7]?=some (u 23);rw[q1];exact hQ
  ·intro u T w' hB hs _ hp;have q:u 19=_:=hp.1;rw[q];exact bZ.mk rfl ⟨.ext (nf _ dD dD dD) xx,rfl⟩
  ·intro u T w' hB hs _ hp;have q:u 30=_:=hp.1;rw[q];exact aE VV ⟨.ext (nf _ dD dD dD) xx,rfl⟩
  intro u T w' hB hs _ hp;have q:u 31=_:=hp.1;obtain⟨g,q1,_⟩:=hp.2.1;rw[q,q1];refine Gg (j:=17) (.inr (.inr rfl)) h6 hB λw2 hR hQ=>⟨hR,?_⟩;show ∃cs,cA b e w2 cs/\cs[8]?=some (u 25);rw[q1];exact hQ
 rintro u T w2 hB hs g4 ⟨-,-,-,-,⟨g6,hD,_,_,hF,hG⟩,-,⟨g7,hH,_,_,hI,hJ⟩,-,⟨g8,hK,_,_,hL,hN⟩,-,-,⟨_,gW,gg⟩,-,-,⟨_,gX,gC⟩,-,-,⟨_,gY,g5⟩,-⟩;have t4:=g4.1 4 dD;have t6:=g4.1 6 dD;have t8:=g4.1 8 dD;have hO:=g4.2 4 dD 6 dD dD;have hP:=g4.2 4 dD 8 dD dD;have hS:=g4.2 6 dD 8 dD dD;obtain⟨gZ,y6,y7,y8,gd⟩:=hB;have u6:=gd.uniq gW;have u7:=gd.uniq gX;have u8:=gd.uniq gY;subst u6 u7 u8;rw[List.getElem?_append_right (by rw[h6];decide),h6,hD]at gg;rw[List.getElem?_append_right (by rw[h6];decide),h6,hH]at gC;rw[List.getElem?_append_right (by rw[h6];decide),h6,hK]at g5;have e6:y6=sl g6 c.P.length:=by simpa using gg
 have e7:y7=sl g7 c.P.length:=by simpa using gC
 have e8:y8=sl g8 c.P.length:=by simpa using g5
 subst e6 e7 e8;rw[fR]at gd;have h4:=H1.cells gZ gd;have hml:=H1.live.lt m ss;have hb0:=H.b0;have h5:FC W0 w2 b e c kc m g6 g7 g8 (List.replicate c.P.length 0) (List.replicate c.P.length 0) (List.replicate c.P.length 0) x9 x10:=⟨h4,hG,hJ,hN,⟨oo,hF,oo⟩,⟨oo,hI,oo⟩,⟨oo,hL,oo⟩,oo,oo,oo⟩;clear gg gC g5 gW gX gY gd h4 gZ H1 gV g4 hO hP hS t4 t6 t8;have hz:∀op,CS c (List.replicate c.P.length 0) (tV c op 0 [] 0):=λop=>CS.zero λq r h=>by unfold tV at h;simp at h
 have hW:(List.replicate c.P.length 0).length=c.P.length:=by simp
 refine bV c.P.length (λk us w'=>∃c6 c7,us=[iV k]/\k<=c.P.length/\FC W0 w' b e c kc m g6 g7 g8 c6 c7 (List.replicate c.P.length 0) x9 x10/\CS c c6 (tV c 4 k [] 0)/\CS c c7 (tV c 5 k [] 0)) 0 (z0 _) ⟨_,_,rfl,z0 _,h5,(hz 4),(hz 5)⟩ ?_;rintro p mk _ w3 h9 ⟨c6,c7,hu,hX,gf,gx,gy⟩;try replace hu:=cJ hu
 rw[hu];refine bM<|br (λ_=>?_) λ_=>?_
 ·have hp:p<c.P.length:=oo;have ha:p<c.E.length:=by rw[hc.2.1.1];exact hp
  refine(VB gf.wb.wl xx hc hp).mono ?_;rintro he w4 ⟨g3,hf⟩;have gh:=gf.step g3;have hM:∀i,i∈cC c.I.length (dE c p)↔dE c p i:=λi=>by rw[mG];exact⟨λh=>h.2,λh=>⟨(rB hc ha h).1,h⟩⟩
  have hMl:(cC c.I.length (dE c p)).length<=1500:=eH pC hA;generalize cC c.I.length (dE c p)=M at *;have hg6:=gf.m6.lt g6 ss;have hg7:=gf.m7.lt g7 ss;refine aX bG hf.is ?_;rw[cB];refine bV M.length (λj us w'=>∃c6 c7,us=[iV j]/\j<=M.length/\FC W0 w' b e c kc m g6 g7 g8 c6 c7 (List.replicate c.P.length 0) x9 x10/\CS c c6 (tV c 4 p M j)/\CS c c7 (tV c 5 p M j)/\aK w3.heap.size w4.heap.size w' he (bN M)) 0 (z0 _) ⟨c6,c7,rfl,z0 _,gh,gx.mono λq r _ _=>Z9 q r,gy.mono λq r _ _=>Z9 q r,hf.toI⟩ ?_;rintro j mj u5 w5 _ ⟨g9,g1,hu,_,D,O,V,hg⟩;try replace hu:=cJ hu
  rw[hu];refine bM<|br (λ_=>?_) λ_=>?_
  case refine_2=>
    have hY:j=M.length:=oo;rw[hY]at O V;refine aU<|⟨mk-1,oo,p+1,oo,g9,g1,rfl,oo,D,O.mono λq r _ _=>Vn hc (.inl rfl) hp hM q r,V.mono λq r _ _=>Vn hc (.inr rfl) hp hM q r⟩
  have hj:j<M.length:=oo;refine bC bG aG (i:=j) hg.is (by rw[cB];exact hj) λ_ _ hh=>?_;rw[nI]at hh;refine aS aG hh xx λ_=>?_;have gz:=λx=>BJ hj (x:=x);have hZ:=(hM M[j]).1 (cY hj);generalize M[j]=i at *;have gD:=(rB hc ha hZ).1;obtain⟨_,j0,j1⟩:=D.wb.I;refine bZ.mk rfl<|aE mT<|aE eW<|cX eJ D.wb.blk j0<|bC eQ fE j1 gD λ_ _ hl=>?_;rw[oM]at hl;refine aL fE hl D.wb.ext λ_ hn=>mB zL rfl fE rfl hn D.wb.ext λw6 gA hr ht=>?_;have gb:=D.step gA;have hv:=hg.ext gA;have gi:=uT hn ht rfl;have j2:=ht.lt;have gE:w5.heap.size≠g6:=by have:=D.m6.lt g6 ss;omega
  generalize w5.heap.size=gI at *;refine dJ.mk (λus w'=>∃c6',FC W0 w' b e c kc m g6 g7 g8 c6' g1 (List.replicate c.P.length 0) x9 x10/\CS c c6' (tV c 4 p M (j+1))/\aK w3.heap.size w4.heap.size w' he (bN M)/\iS W0 w' gI 0 (bO c i)) ?_ ?_
  ·refine aE lV ?_;refine aS aG (lW hr) xx λ_=>bI<|br (λc4=>?_) λc4=>?_
   ·obtain⟨gF,gj⟩:=sW hc gD (.inl c4);have Z:=cO w6;have gl:=gb.step Z;have j3:=hv.ext Z;have gG:=gi.ext Z;have gH:gI<(World.drew1 w6).heap.size:=kP j2 Z.size;generalize World.drew1 w6=w7 at *;have gn:p<g9.length:=by rw[O.1];exact hp
    refine bZ.mk rfl<|aE Cd<|cX dT gl.wb.blk (gl.wb.cell 1)<|bC bG aG (i:=p) gl.m6.is (by rw[cB];exact gn) λb4 o4 gp=>?_;rw[oQ]at gp;refine aS aG gp xx λ_=>?_;have gc:=O.lt0 h8.1 hp;refine aE mE<|aS aG (mF hr) Z λ_=>?_;rw[gF];have gJ:2^bS c i<256:=kP (CX oo gj) (tX (n:=2) oo h8.1);refine sN kK sR oo<|DM oo<|xB (m:=bD g9 p) (n:=2^bS c i) oo oo ?_;have gK:bD g9 p ||| 2^bS c i<256:=zO (n:=8) gc gJ;refine oA (α:=Int) rfl bG aG hp<|oC (α:=Int) rfl aG gl.m6 (by rw[cB,O.1]) hp (tN (v:=bD g9 p ||| 2^bS c i) oo) λ_ g5 j4=>?_;have j5:=gl.set6 (v:=bD g9 p ||| 2^bS c i) g5 j4;exact⟨_,j5,O.set hp gj λq r=>G7 gz c4 q r,j3.chgF g5 so,gG.keep (g5.block gI gH (by simp;exact gE))⟩
   exact⟨g9,gb,O.mono λq r _ _=>A5 gz c4 q r,hv,gi⟩
  rintro _ w9 ⟨hw,gL,gq,hx,gM⟩;have gr:=gM.at gL.wb.ext;refine aE lV<|aS aG (lW gr) xx λ_=>bI<|br (λc5=>?_) λc5=>?_
  ·obtain⟨gF,gj⟩:=sW hc gD (.inr c5);have Z:=cO w9;have g0:=gL.step Z;have gN:=hx.ext Z;generalize World.drew1 w9=w10 at *;have gn:p<g1.length:=by rw[V.1];exact hp
   refine bZ.mk rfl<|aE Pj<|cX dT g0.wb.blk (g0.wb.cell 2)<|bC bG aG (i:=p) g0.m7.is (by rw[cB];exact gn) λb4 o4 gp=>?_;rw[oQ]at gp;refine aS aG gp xx λ_=>?_;have gc:=V.lt0 h8.1 hp;refine aE mE<|aS aG (mF gr) Z λ_=>?_;rw[gF];have gJ:2^bS c i<256:=kP (CX oo gj) (tX (n:=2) oo h8.1);refine sN kK sR oo<|DM oo<|xB (m:=bD g1 p) (n:=2^bS c i) oo oo ?_;have gK:bD g1 p ||| 2^bS c i<256:=zO (n:=8) gc gJ;refine oA (α:=Int) rfl bG aG hp<|oC (α:=Int) rfl aG g0.m7 (by rw[cB,V.1]) hp (tN (v:=bD g1 p ||| 2^bS c i) oo) λ_ gs gO=>?_;have gP:=g0.set7 (v:=bD g1 p ||| 2^bS c i) gs gO;refine aU<|⟨mj-1,oo,j+1,oo,hw,_,rfl,oo,gP,gq,V.set hp gj λq r=>G7 gz c5 q r,gN.chgF gs so⟩
  refine aU<|⟨mj-1,oo,j+1,oo,hw,g1,rfl,oo,gL,gq,V.mono λq r _ _=>A5 gz c5 q r,hx⟩
 have gQ:p=c.P.length:=oo;rw[gQ]at gx gy;rw[gx.done,gy.done]at gf;clear gx gy h5 h9 hu;have j6:CS c (List.replicate c.P.length 0) (λq r=>q<0/\bL c q r):=CS.zero λq r h=>oo;generalize List.replicate c.P.length 0=c8 at *;refine bV c.P.length (λk us w'=>∃c8,us=[iV k]/\k<=c.P.length/\FC W0 w' b e c kc m g6 g7 g8 (cls c 4) (cls c 5) c8 x9 x10/\CS c c8 (λq r=>q<k/\bL c q r)) 0 (z0 _) ⟨_,rfl,z0 _,gf,j6⟩ ?_;rintro k mk _ w4 h9 ⟨gR,hu,hX,gh,C⟩;try replace hu:=cJ hu
 rw[hu];refine bM<|br (λ_=>?_) λ_=>?_
 case refine_2=>
   have gQ:k=c.P.length:=oo;rw[gQ]at C
   have:gR=frs c:=by
     refine wE (by rw[C.1,TM]) λi h1 h2=>?_;have hi:i<c.P.length:=by rw[<-C.1];exact h1
     rw[pQ h1,pQ h2,Bc hi,C.2 i hi];exact wN λr _=>⟨λh=>h.2,λh=>⟨hi,h⟩⟩
   rw[this]at gh;exact⟨rfl,g6,g7,g8,gh⟩
 have hk:k<c.P.length:=oo;refine sN kK sR oo<|DM oo ?_;have hU:=UM.start (c:=c) hk;have j7:2^c.P.length<=256:=tX (n:=2) oo h8.1;refine iB.mk (λmm us w'=>∃(s:Nat)(ag:Bool),us=[iV s,.bool ag]/\mm=(256-s)+(if ag then 1 else 0)/\FC W0 w' b e c kc m g6 g7 g8 (cls c 4) (cls c 5) gR x9 x10/\UM c k s/\(ag=false->s=eM (bL c k) c.P.length)) (256-2^k+1) ⟨2^k,true,rfl,rfl,gh,hU,λe=>by cases e⟩ ?_;rintro mm u5 w5 ⟨s,ag,hu,hm,D,gB,gS⟩;obtain⟨j8,j9⟩:=dQ hu;rw[j8,j9];have gt:s<256:=kP gB.lt j7;refine bW (λgT=>?_) λgT=>?_
 ·rw[gT,aP rfl]at hm;refine bZ.mk rfl<|aE Cd<|cX dT D.wb.blk (D.wb.cell 1)<|(Ce D.m6.is xx (Az h8.1 4) (by rw[KY];exact h8.1) (m:=s) (by rw[KY];exact gB.lt)).mono ?_;rintro _ w6 ⟨gA,rfl⟩;have gb:=D.step gA;have gK:=Cu (Az h8.1 4) (iK s);have hy:=gB.more h8.1;have gU:=gB.fin h8.1;have ja:=λh=>ZA (m:=pN (cls c 4) (iK s)) (n:=s) h;refine xB (m:=s) (n:=pN (cls c 4) (iK s)) oo oo ?_;have jb:s ||| pN (cls c 4) (iK s)<256:=zO (n:=8) gt gK;generalize s ||| pN (cls c 4) (iK s)=t at *;refine fP ?_;by_cases hts:t=s
  ·refine⟨256-t,oo,t,_,rfl,?_,gb,hy,λ_=>by rw[hts];exact gU hts⟩;rw[hts];simp
  have hd:decide ((t:Int)≠(s:Int))=true:=decide_eq_true λh=>hts (xC.1 h);have:=ja hts;rw[hd];exact⟨256-t+1,oo,t,true,rfl,rfl,gb,hy,λe=>by cases e⟩
 have jc:=gS gT;have gn:k<gR.length:=by rw[C.1];exact hk
 refine bZ.mk rfl<|aE VV<|cX dT D.wb.blk (D.wb.cell 3)<|oA (α:=Int) rfl bG aG hk<|oC (α:=Int) rfl aG D.m8 (by rw[cB,C.1]) hk (tN (v:=s) oo) λw6 gg jd=>?_;have gb:=D.set8 (v:=s) gg jd;refine aU<|⟨mk-1,oo,k+1,oo,_,rfl,oo,gb,by simp[C.1],λq hq=>?_⟩;rw[uF gn];split
 ·rename_i e;subst e;rw[jc];exact wN λr _=>⟨λh=>⟨oo,h⟩,λh=>h.2⟩
 rename_i e;rw[C.2 q hq];exact wN λr _=>⟨λh=>⟨oo,h.2⟩,λh=>⟨oo,h.2⟩⟩
def Tc{x:Int}(hB:cA g e w cs)(ho:cs[o]?=some (iV x))(hx:bR x):At w g o x:=by
 refine⟨[],[iV x],⟨rfl,rfl,hx⟩,λi _ hi=>?_⟩
 have:i=0:=by
   cases i with
   |zero=>rfl
   |succ i=>simp at hi
 subst this;simp only[List.getElem?_cons_zero,iU]at hi;subst hi;have:=hB.range o _ ho;rw[vO]at this;exact this
section
variable {W0 w w':wD}{b e m g6 g7 g8:Nat}{c:aF}{kc:List vL}{c6 c7 c8:List Nat}{x9 x10 y9 y10:vL}
def FC.cells(h:FC W0 w b e c kc m g6 g7 g8 c6 c7 c8 x9 x10)(hc:aN b (b+1) w w')(hB:cA b e w' (kc++[.slice (some ⟨m,0,none⟩) c.I.length c.I.length,sl g6 c.P.length,sl g7 c.P.length,sl g8 c.P.length,y9,y10])):FC W0 w' b e c kc m g6 g7 g8 c6 c7 c8 y9 y10:=
 ⟨h.wb.cells hc hB,JA h.m6 hc.one (by simp[h.n6]),JA h.m7 hc.one (by simp[h.n7]),JA h.m8 hc.one (by simp[h.n8]),h.n6,h.n7,h.n8,h.d67,h.d68,h.d78⟩
def FC.store9{x:Nat}{K:wD->Prop}(h:FC W0 w b e c kc m g6 g7 g8 c6 c7 c8 x9 x10)(k:∀ w',FC W0 w' b e c kc m g6 g7 g8 c6 c7 c8 (iV x) x10->K w'):fA tp (Instr.storeAt 3 (pT b (0+9)) (iV x)) w K:=by
 have hl:9<(kc++[Value.slice (some ⟨m,0,none⟩) c.I.length c.I.length,sl g6 c.P.length,sl g7 c.P.length,sl g8 c.P.length,x9,x10]).length:=by rw[bX,h.wb.k5];simp
 refine qL (α:=dM) (lo:=0) (hi:=0) aG rfl rfl h.wb.blk hl (yG rfl) λw2 g1 g0=>?_;have:=h.wb.set 4 (iV x);rw[show 5+4=0+9 by omega]at this;rw[this]at g0;exact k w2 (h.cells g1 g0)
def FC.store10{x:Nat}{K:wD->Prop}(h:FC W0 w b e c kc m g6 g7 g8 c6 c7 c8 x9 x10)(k:∀ w',FC W0 w' b e c kc m g6 g7 g8 c6 c7 c8 x9 (iV x)->K w'):fA tp (Instr.storeAt 3 (pT b (0+10)) (iV x)) w K:=by
 have hl:10<(kc++[Value.slice (some ⟨m,0,none⟩) c.I.length c.I.length,sl g6 c.P.length,sl g7 c.P.length,sl g8 c.P.length,x9,x10]).length:=by rw[bX,h.wb.k5];simp
 refine qL (α:=dM) (lo:=0) (hi:=0) aG rfl rfl h.wb.blk hl (yG rfl) λw2 g1 g0=>?_;have:=h.wb.set 5 (iV x);rw[show 5+5=0+10 by omega]at this;rw[this]at g0;exact k w2 (h.cells g1 g0)
end
def Mo(hA:At w b 0 c)(hc:aM c) :
   aJ tp 145 [pT b 0] w λr w'=>aB w w'/\r=iV (mH c:Nat):=by
 refine co (g:=kf [] [] []) Tryz.func145 ?_;refine bZ.mk rfl<|aE mT<|aE lQ<|aL dC (nF hA) xx λ_ g0=>(Mk g0 xx).mM λ_ g1=>?_;have:=(IJ hc).1;unfold uR at this;rw[this];exact⟨g1,rfl⟩
structure RM(c:aF)(r:Nat):Prop where
 lt:r<2^c.P.length
 self:r.testBit (mH c)=true
 snd:∀q,r.testBit q=true->bE c q
noncomputable def yJ(c:aF)(r:Nat):Nat:=pN (frs c) (iK r)
def Lt(hq:q<c.P.length):(bD (frs c) q).testBit r=true↔r<c.P.length/\bL c q r:=by rw[Bc hq,nW]
def Am(h8:c.P.length<=8){r p:Nat}(h:RM c r):(yJ c r).testBit p=true↔∃q,q<c.P.length/\r.testBit q=true/\p<c.P.length/\bL c q p:=by
 unfold yJ;rw[WQ h.lt oo];exact⟨λ⟨i,h1,h2,h3⟩=>⟨i,h1,h2,(Lt h1).1 h3⟩,λ⟨i,h1,h2,h3⟩=>⟨i,h1,h2,(Lt h1).2 h3⟩⟩
def Sc(h8:c.P.length<=8){r:Nat}(h:RM c r):yJ c r<2^c.P.length:=Nu λp hp=>by
 obtain⟨_,_,_,h3,_⟩:=(Am h8 h).1 hp;exact h3
def RM.start(hc:aM c):RM c (2^mH c):=⟨CX oo (IJ hc).2,by simp[AQ],λq hq=>by simp[AQ]at hq;exact hq▸.main⟩
def RM.more_bit(h8:c.P.length<=8){r q:Nat}(h:RM c r):(pN (cls c 5) (iK (yJ c r))).testBit q=true↔∃p,p<c.P.length/\(yJ c r).testBit p=true/\q<c.P.length/\rY c p 5 q:=by
 rw[WQ (Sc h8 h) oo];exact⟨λ⟨i,h1,h2,h3⟩=>⟨i,h1,h2,(RA h1).1 h3⟩,λ⟨i,h1,h2,h3⟩=>⟨i,h1,h2,(RA h1).2 h3⟩⟩
def RM.more(h8:c.P.length<=8){r:Nat}(h:RM c r):RM c (r ||| pN (cls c 5) (iK (yJ c r))):=by
 refine⟨zO h.lt (Nu λq hq=>by obtain⟨_,_,_,h3,_⟩:=(h.more_bit h8).1 hq;exact h3),by rw[vA,h.self];rfl,λq hq=>?_⟩;rw[vA,vB]at hq;rcases hq with hq|hq
 ·exact h.snd q hq
 obtain⟨_,_,h2,h3,h4⟩:=(h.more_bit h8).1 hq;obtain⟨s,_,h6,_,h7⟩:=(Am h8 h).1 h2;exact .spawn (h.snd s h6) h7 h4 h3
def RM.fin(hc:aM c)(h8:c.P.length<=8){r:Nat}(h:RM c r)(he:r ||| pN (cls c 5) (iK (yJ c r))=r):r=sD c/\yJ c r=rL c:=by
 have g0:∀q,bE c q->r.testBit q=true:=λq hq=>by
   induction hq with
   |main=>exact h.self
   | @spawn s p q h0 h1 h2 hq ih=>
     have hs:=h0.lt hc;rw[<-he,vA,(h.more_bit h8).2 ⟨p,h1.lt hs,(Am h8 h).2 ⟨s,hs,ih,h1.lt hs,h1⟩,hq,h2⟩];simp
 refine⟨BO λq=>⟨λhq=>⟨(h.snd q hq).lt hc,h.snd q hq⟩,λhq=>g0 q hq.2⟩,BO λp=>?_⟩;rw[Am h8 h];constructor
 ·rintro⟨q,h1,h2,h3,h4⟩;exact⟨h3,q,h.snd q h2,h4⟩
 rintro⟨h3,q,h1,h2⟩;exact⟨q,h1.lt hc,g0 q h1,h3,h2⟩
def dv(H:FC W0 w b e c kc m g6 g7 g8 (cls c 4) (cls c 5) (frs c) x9 x10)(hc:aM c) :
   aJ tp 77 [pT b 0] w λr w'=>r=.tuple #[]/\FC W0 w' b e c kc m g6 g7 g8 (cls c 4) (cls c 5) (frs c) (iV (sD c:Nat)) (iV (rL c:Nat)):=by
 refine co (g:=kf [] [(2,17179868700,[2,3])] [(4,[0,1,2,3,4,5,6,7,8,9,10,11],512)]) Tryz.func77 ?_;have h8:=hc.1.p8;have:=(IJ hc).2;refine(Mo H.wb.code_at hc).mM λ_ g9=>?_;refine sN kK sR oo<|DM oo ?_;have gb:2^c.P.length<=256:=tX (n:=2) oo h8.1;refine iB.mk (λmm us w'=>∃(s:Nat)(ag:Bool)(y:vL),us=[iV s,.bool ag]/\mm=(256-s)+(if ag then 1 else 0)/\FC W0 w' b e c kc m g6 g7 g8 (cls c 4) (cls c 5) (frs c) x9 y/\RM c s/\(ag=false->s=sD c/\y=iV (rL c:Nat))) (256-2^mH c+1) ⟨2^mH c,true,x10,rfl,rfl,(H.step g9),(RM.start hc),λe=>by cases e⟩ ?_;rintro mm _ _ ⟨s,ag,y,hu,hm,H2,C,g2⟩;obtain⟨gc,gd⟩:=dQ hu;rw[gc,gd];have g0:s<256:=kP C.lt gb;refine bW (λg3=>?_) λg3=>?_
 ·rw[g3,aP rfl]at hm;refine bZ.mk rfl<|aE VV<|cX dT H2.wb.blk (H2.wb.cell 3)<|(Ce H2.m8.is xx (zHI h8.1) (by rw[TM];exact h8.1) (m:=s) (by rw[TM];exact C.lt)).mono ?_;rintro _ w3 ⟨gf,rfl⟩;have H3:=H2.step gf;have gg:=Sc h8.1 C;have gh:pN (frs c) (iK s)=yJ c s:=rfl;rw[gh];refine bZ.mk rfl<|aE ON<|H3.store10 λw4 H4=>?_;have gi:=cO w4;have H5:=H4.step gi;generalize World.drew1 w4=w5 at *;refine bZ.mk rfl<|aE Pj<|cX dT H5.wb.blk (H5.wb.cell 2)<|bZ.mk rfl<|aE ON<|cX aG H5.wb.blk (H5.wb.cell 5)<|(Ce H5.m7.is xx (Az h8.1 5) (by rw[KY];exact h8.1) (m:=yJ c s) (by rw[KY];exact gg)).mono ?_;rintro _ _ ⟨g4,rfl⟩;have H6:=H5.step g4;have gj:=Cu (Az h8.1 5) (iK (yJ c s));have g5:=C.more h8.1;have g1:=C.fin hc h8.1;have gl:=λh=>ZA (m:=pN (cls c 5) (iK (yJ c s))) (n:=s) h;refine⟨g4,?_⟩;refine xB (m:=s) (n:=pN (cls c 5) (iK (yJ c s))) oo oo ?_;have:s ||| pN (cls c 5) (iK (yJ c s))<256:=zO (n:=8) g0 gj;generalize s ||| pN (cls c 5) (iK (yJ c s))=t at *;refine fP ?_;by_cases hts:t=s
  ·refine⟨256-t,oo,t,_,_,rfl,?_,H6,g5,λ_=>?_⟩
   ·rw[hts];simp
   rw[(g1 hts).2];exact⟨by rw[hts];exact(g1 hts).1,rfl⟩
  have hd:decide ((t:Int)≠(s:Int))=true:=decide_eq_true λh=>hts (xC.1 h);have:=gl hts;rw[hd];exact⟨256-t+1,oo,t,true,_,rfl,rfl,H6,g5,λe=>by cases e⟩
 obtain⟨gn,gp⟩:=g2 g3;rw[gp]at H2;refine bZ.mk rfl<|aE OQ<|H2.store9 λw3 H3=>?_;rw[gn]at H3;exact⟨rfl,H3⟩
def FC.wat(H:FC W0 w b e c kc m g6 g7 g8 (cls c 4) (cls c 5) (frs c) (iV (sD c:Nat)) (iV (rL c:Nat)))(h8:c.P.length<=8):tI w b c:=by
 have:sD c<256:=uW h8;have:rL c<256:=uW h8;exact⟨H.wb.wl,TO H.wb.blk (H.wb.cell 1) H.m6.is,TO H.wb.blk (H.wb.cell 2) H.m7.is,TO H.wb.blk (H.wb.cell 3) H.m8.is,Tc H.wb.blk (H.wb.cell 4) io,Tc H.wb.blk (H.wb.cell 5) io⟩
def pk(h0:Is W0 v0 c)(e0:aB W0 w) :
   aJ tp 29 [v0] w λr w'=>aB w w'/\((¬aM c/\r=.tuple #[.pointer none,.bool false])\/(aM c/\∃b,r=.tuple #[pT b 0,.bool true]/\tI w' b c)):=by
 refine co (g:=kf [] [(5,274876858432,[20])] [(3,[0,1,2,3,4,5,6,7],16)]) Tryz.func29 ?_;refine iR h0 e0 λ_ gj hA=>aL cP hA (aC _) λ_ h7=>?_;refine(Ij h7 (aC _)).mono ?_;rintro _ w2 ⟨gl,rfl⟩;refine mL<|br (λhn=>?_) (λhy=>?_)
 ·exact⟨gj.t gl,.inl ⟨hn,rfl⟩⟩
 have hc:aM c:=eK.1 hy;have h8:=hc.1.p8;have gn:=hc.f.I;have hz0:=(yF hc h8.2).2.2;have gE:=cO w2;have M:=gl.t gE;generalize World.drew1 w2=w3 at *;refine aL cP hA M λ_ gF=>aE eW<|aL eJ (fV hA) M λ_ gG=>aX eQ gG<|JC oo oo λw4 gp gq=>?_;have hm4:=gq.lt _ (oY.2 rfl);generalize hm:w3.heap.size=m at *;have g1:=gF.ext M;have g0:=X3 g1;obtain⟨F,kc,hr,gr⟩:=g1;obtain⟨a0,a1,a2,a3,a4,n0,n1,n2,n3,n4,k0,k1,k2,k3,k4,g4⟩:=g0
 have gc:kc=[.slice a0 n0 k0,.slice a1 n1 k1,.slice a2 n2 k2,.slice a3 n3 k3,.slice a4 n4 k4]:=by
   rw[gr]at g4;have:(Value.agg kc.toArray)=.agg #[.slice a0 n0 k0,.slice a1 n1 k1,.slice a2 n2 k2,.slice a3 n3 k3,.slice a4 n4 k4]:=g4;simpa using this
 rw[g4];refine⟨gp,?_⟩;refine fI (cells:=#[.slice a0 n0 k0,.slice a1 n1 k1,.slice a2 n2 k2,.slice a3 n3 k3,.slice a4 n4 k4,sl m c.I.length,.slice none 0 0,.slice none 0 0,.slice none 0 0,iV 0,iV 0]) kK<|VO λw5 gs gt=>?_;have gd:cA w4.heap.size 127 w5 (kc++[sl m c.I.length,.slice none 0 0,.slice none 0 0,.slice none 0 0,iV 0,iV 0]):=by rw[gc];exact gt
 have gx:kc.length=5:=Rep.len hr;clear gt g4 gr;have gy:=gq.ext gs;have g2:aB w3 w5:=gp.t gs;generalize hb:w4.heap.size=b at *;refine aE kJ<|aL dT (lJ hA) (M.t g2) λ_ g5=>?_;have g5:=g5.ext M;refine aX bG g5 ?_;have gH:c.E.length=c.P.length:=hc.2.1.1;rw[gH];have g3:List.replicate c.I.length false=cZ c.I.length (λi=>∃p,p<0/\dE c p i):=XL _ λi ⟨p,h,_⟩=>oo;rw[g3]at gy;have C:∀{x1 x2 x3 x4 x5:vL},(kc++[sl m c.I.length,x1,x2,x3,x4,x5])[0+5]?=some (sl m c.I.length):=by intros;rw[List.getElem?_append_right (by rw[gx];omega),gx];rfl
 refine bV c.P.length (λk us w'=>us=[iV k]/\k<=c.P.length/\aB w3 w'/\cA b 127 w' (kc++[sl m c.I.length,.slice none 0 0,.slice none 0 0,.slice none 0 0,iV 0,iV 0])/\aZ [m] w' (sl m c.I.length) (cZ c.I.length λi=>∃p,p<k/\dE c p i)) 0 (z0 _) ⟨rfl,z0 _,g2,gd,gy⟩ ?_;rintro k mk _ w6 _ ⟨hu,_,gf,gg,gh⟩;try replace hu:=cJ hu
 rw[hu];refine bM<|br (λ_=>?_) (λ_=>?_)
 ·have hk:k<c.P.length:=oo;have O:k<c.E.length:=oo;obtain⟨gI,g9,_⟩:=vM hc O;refine bC bG aG (i:=k) g5 O λ_ _ gz=>?_;rw[mP O,gI]at gz;refine aS aG gz gf λ_=>bZ.mk rfl<|aE Br<|cX lT gg C<|oA (α:=Bool) rfl eY cE g9<|oC (α:=Bool) rfl cE gh dZ g9 zD λw7 gA gJ=>?_;have gb:=gg.chgF gA so;have gB:aB w3 w7:=gf.chgF gA (by simp[hm])
  have D:∀i,cN ((cZ c.I.length λi=>∃p,p<k/\dE c p i).set (eN c k) true) i↔(i<c.I.length/\∃p,p<k/\dE c p i)\/i=eN c k:=λi=>by
    rw[wI (by rw[dZ];exact g9),lY]
  have gK:((cZ c.I.length λi=>∃p,p<k/\dE c p i).set (eN c k) true).length=c.I.length:=by rw[HN,dZ]
  generalize (cZ c.I.length λi=>∃p,p<k/\dE c p i).set (eN c k) true=ms7 at *;refine bZ.mk rfl<|aE Br<|cX lT gb C ?_;have gL:GO w3 w7 b c:=⟨F,kc,hr,Q5 gb,gb.lt⟩;refine(Zv gL gB hc rfl g9 gJ gK oo oo ?_).mono ?_
  ·intro i hi gM j hj;rcases(D i).1 hi with⟨h1,p,h2,h3⟩|h
   ·have gn:=zZ hc h1 hj;exact(D j).2 (.inl ⟨gn.1,p,h2,iw h3 hj⟩)
   exact absurd h gM
  rintro _ w8 ⟨rfl,gC,gD⟩
  have gi:(cZ c.I.length λi=>cN ms7 i\/RP (cQ c) (eN c k) i)=cZ c.I.length λi=>∃p,p<k+1/\dE c p i:=rA λi hi=>by
    rw[D];constructor
    ·rintro((⟨_,p,h2,h3⟩|h)|h)
     ·exact⟨p,oo,h3⟩
     ·exact⟨k,oo,.inl h⟩
     exact⟨k,oo,.inr h⟩
    rintro⟨p,h2,h3⟩;by_cases e:p=k
    ·subst e;rcases h3 with h3|h3
     ·exact .inl (.inr h3)
     exact .inr h3
    exact .inl (.inl ⟨hi,p,oo,h3⟩)
  rw[gi]at gD;refine aU<|⟨mk-1,oo,k+1,oo,rfl,oo,gB.xI gC oo,gb.xI gC oo,gD⟩
 have O:k=c.P.length:=oo;have gN:(cZ c.I.length λi=>∃p,p<k/\dE c p i)=cZ c.I.length (HJ c):=by rw[O];rfl
 rw[gN]at gh;have HW:WB w3 w6 b 127 c kc m (.slice none 0 0) (.slice none 0 0) (.slice none 0 0) (iV 0) (iV 0):=⟨gf,gg,⟨F,hr⟩,gh,oo,oo,oo⟩;refine(zr4 HW hc).mono ?_;rintro _ w7 ⟨rfl,_,_,_,H7⟩;refine(dv H7 hc).mono ?_;rintro _ w8 ⟨rfl,H8⟩;exact⟨gj.t (M.t H8.wb.ext),.inr ⟨hc,b,rfl,H8.wat h8.1⟩⟩
open Go.Shelf
def Tryz.sortRace_ren:Go.Shelf.Ren:=⟨fun|6=>154|15=>168|14=>215|28=>228|29=>229|20=>267|21=>268|22=>269|23=>270|24=>271|25=>272|26=>273|27=>274|46=>303|47=>285|48=>286|49=>304|50=>305|57=>315|n=>n,fun|22=>38|24=>46|25=>195|3=>3|39=>187|0=>0|53=>258|55=>207|4=>4|46=>252|45=>251|50=>226|5=>5|9=>9|66=>291|70=>177|76=>308|77=>309|n=>n,fun|n=>n⟩
def Tryz.sortRace:SlLaysF0.n6 tp Tryz.sortRace_ren:={
 mixed:=by kernel_rfl,
 f6:=⟨Tryz.f154.name,kK,Tryz.func154.trans (cS some kK)⟩,
 f14:=⟨Tryz.f215.name,kK,Tryz.func215.trans (cS some kK)⟩,
 f15:=Tryz.func168.trans (cS some kK),
 f20:=⟨Tryz.f267.name,kK,Tryz.func267.trans (cS some kK)⟩,
 f21:=⟨Tryz.f268.name,kK,Tryz.func268.trans (cS some kK)⟩,
 f22:=⟨Tryz.f269.name,kK,Tryz.func269.trans (cS some kK)⟩,
 f23:=⟨Tryz.f270.name,kK,Tryz.func270.trans (cS some kK)⟩,
 f24:=⟨Tryz.f271.name,kK,Tryz.func271.trans (cS some kK)⟩,
 f25:=⟨Tryz.f272.name,kK,Tryz.func272.trans (cS some kK)⟩,
 f26:=⟨Tryz.f273.name,kK,Tryz.func273.trans (cS some kK)⟩,
 f27:=⟨Tryz.f274.name,kK,Tryz.func274.trans (cS some kK)⟩,
 f28:=Tryz.func228.trans (cS some kK),
 f29:=Tryz.func229.trans (cS some kK),
 f46:=⟨Tryz.f303.name,kK,Tryz.func303.trans (cS some kK)⟩,
 f47:=Tryz.func285.trans (cS some kK),
 f48:=Tryz.func286.trans (cS some kK),
 f49:=⟨Tryz.f304.name,kK,Tryz.func304.trans (cS some kK)⟩,
 f50:=⟨Tryz.f305.name,kK,Tryz.func305.trans (cS some kK)⟩,
 f57:=⟨Tryz.f315.name,kK,Tryz.func315.trans (cS some kK)⟩,
 t0:=Tryz.underlying0,
 a0:=Tryz.isAgg0,
 z0:=Tryz.sizeOf0,
 v0:=Tryz.zeroValue0,
 t3:=Tryz.underlying3,
 a3:=Tryz.isAgg3,
 z3:=Tryz.sizeOf3,
 v3:=Tryz.zeroValue3,
 t4:=Tryz.underlying4,
 a4:=Tryz.isAgg4,
 z4:=Tryz.sizeOf4,
 v4:=Tryz.zeroValue4,
 t5:=Tryz.underlying5,
 a5:=Tryz.isAgg5,
 z5:=Tryz.sizeOf5,
 v5:=Tryz.zeroValue5,
 t9:=Tryz.underlying9,
 a9:=Tryz.isAgg9,
 z9:=Tryz.sizeOf9,
 v9:=Tryz.zeroValue9,
 t22:=Tryz.underlying38,
 a22:=Tryz.isAgg38,
 z22:=Tryz.sizeOf38,
 v22:=Tryz.zeroValue38,
 t25:=Tryz.underlying195,
 a25:=Tryz.isAgg195,
 z25:=Tryz.sizeOf195,
 v25:=Tryz.zeroValue195,
 t39:=Tryz.underlying187,
 a39:=Tryz.isAgg187,
 z39:=Tryz.sizeOf187,
 v39:=Tryz.zeroValue187,
 t45:=Tryz.underlying251,
 a45:=Tryz.isAgg251,
 z45:=Tryz.sizeOf251,
 v45:=Tryz.zeroValue251,
 t46:=Tryz.underlying252,
 a46:=Tryz.isAgg252,
 z46:=Tryz.sizeOf252,
 v46:=Tryz.zeroValue252,
 t50:=Tryz.underlying226,
 a50:=Tryz.isAgg226,
 z50:=Tryz.sizeOf226,
 v50:=Tryz.zeroValue226,
 t53:=Tryz.underlying258,
 a53:=Tryz.isAgg258,
 z53:=Tryz.sizeOf258,
 v53:=Tryz.zeroValue258,
 t55:=Tryz.underlying207,
 a55:=Tryz.isAgg207,
 z55:=Tryz.sizeOf207,
 v55:=Tryz.zeroValue207,
 t66:=Tryz.underlying291,
 a66:=Tryz.isAgg291,
 z66:=Tryz.sizeOf291,
 v66:=Tryz.zeroValue291,
 t70:=Tryz.underlying177,
 a70:=Tryz.isAgg177,
 z70:=Tryz.sizeOf177,
 v70:=Tryz.zeroValue177,
 t76:=Tryz.underlying308,
 a76:=Tryz.isAgg308,
 z76:=Tryz.sizeOf308,
 v76:=Tryz.zeroValue308,
 t77:=Tryz.underlying309,
 a77:=Tryz.isAgg309,
 z77:=Tryz.sizeOf309,
 v77:=Tryz.zeroValue309 }
def Tryz.sortOrder_ren:Go.Shelf.Ren:=⟨fun|6=>162|15=>168|14=>218|28=>228|29=>229|20=>275|21=>276|22=>277|23=>278|24=>279|25=>280|26=>281|27=>282|46=>306|47=>285|48=>286|49=>307|50=>308|57=>316|n=>n,fun|22=>141|24=>199|25=>204|3=>3|39=>187|0=>0|53=>258|55=>207|4=>4|46=>252|45=>251|50=>226|5=>5|9=>9|66=>291|70=>177|76=>308|77=>309|n=>n,fun|n=>n⟩
def Tryz.sortOrder:SlLaysF0.n6 tp Tryz.sortOrder_ren:={
 mixed:=by kernel_rfl,
 f6:=⟨Tryz.f162.name,kK,Tryz.func162.trans (cS some kK)⟩,
 f14:=⟨Tryz.f218.name,kK,Tryz.func218.trans (cS some kK)⟩,
 f15:=Tryz.func168.trans (cS some kK),
 f20:=⟨Tryz.f275.name,kK,Tryz.func275.trans (cS some kK)⟩,
 f21:=⟨Tryz.f276.name,kK,Tryz.func276.trans (cS some kK)⟩,
 f22:=⟨Tryz.f277.name,kK,Tryz.func277.trans (cS some kK)⟩,
 f23:=⟨Tryz.f278.name,kK,Tryz.func278.trans (cS some kK)⟩,
 f24:=⟨Tryz.f279.name,kK,Tryz.func279.trans (cS some kK)⟩,
 f25:=⟨Tryz.f280.name,kK,Tryz.func280.trans (cS some kK)⟩,
 f26:=⟨Tryz.f281.name,kK,Tryz.func281.trans (cS some kK)⟩,
 f27:=⟨Tryz.f282.name,kK,Tryz.func282.trans (cS some kK)⟩,
 f28:=Tryz.func228.trans (cS some kK),
 f29:=Tryz.func229.trans (cS some kK),
 f46:=⟨Tryz.f306.name,kK,Tryz.func306.trans (cS some kK)⟩,
 f47:=Tryz.func285.trans (cS some kK),
 f48:=Tryz.func286.trans (cS some kK),
 f49:=⟨Tryz.f307.name,kK,Tryz.func307.trans (cS some kK)⟩,
 f50:=⟨Tryz.f308.name,kK,Tryz.func308.trans (cS some kK)⟩,
 f57:=⟨Tryz.f316.name,kK,Tryz.func316.trans (cS some kK)⟩,
 t0:=Tryz.underlying0,
 a0:=Tryz.isAgg0,
 z0:=Tryz.sizeOf0,
 v0:=Tryz.zeroValue0,
 t3:=Tryz.underlying3,
 a3:=Tryz.isAgg3,
 z3:=Tryz.sizeOf3,
 v3:=Tryz.zeroValue3,
 t4:=Tryz.underlying4,
 a4:=Tryz.isAgg4,
 z4:=Tryz.sizeOf4,
 v4:=Tryz.zeroValue4,
 t5:=Tryz.underlying5,
 a5:=Tryz.isAgg5,
 z5:=Tryz.sizeOf5,
 v5:=Tryz.zeroValue5,
 t9:=Tryz.underlying9,
 a9:=Tryz.isAgg9,
 z9:=Tryz.sizeOf9,
 v9:=Tryz.zeroValue9,
 t22:=Tryz.underlying141,
 a22:=Tryz.isAgg141,
 z22:=Tryz.sizeOf141,
 v22:=Tryz.zeroValue141,
 t25:=Tryz.underlying204,
 a25:=Tryz.isAgg204,
 z25:=Tryz.sizeOf204,
 v25:=Tryz.zeroValue204,
 t39:=Tryz.underlying187,
 a39:=Tryz.isAgg187,
 z39:=Tryz.sizeOf187,
 v39:=Tryz.zeroValue187,
 t45:=Tryz.underlying251,
 a45:=Tryz.isAgg251,
 z45:=Tryz.sizeOf251,
 v45:=Tryz.zeroValue251,
 t46:=Tryz.underlying252,
 a46:=Tryz.isAgg252,
 z46:=Tryz.sizeOf252,
 v46:=Tryz.zeroValue252,
 t50:=Tryz.underlying226,
 a50:=Tryz.isAgg226,
 z50:=Tryz.sizeOf226,
 v50:=Tryz.zeroValue226,
 t53:=Tryz.underlying258,
 a53:=Tryz.isAgg258,
 z53:=Tryz.sizeOf258,
 v53:=Tryz.zeroValue258,
 t55:=Tryz.underlying207,
 a55:=Tryz.isAgg207,
 z55:=Tryz.sizeOf207,
 v55:=Tryz.zeroValue207,
 t66:=Tryz.underlying291,
 a66:=Tryz.isAgg291,
 z66:=Tryz.sizeOf291,
 v66:=Tryz.zeroValue291,
 t70:=Tryz.underlying177,
 a70:=Tryz.isAgg177,
 z70:=Tryz.sizeOf177,
 v70:=Tryz.zeroValue177,
 t76:=Tryz.underlying308,
 a76:=Tryz.isAgg308,
 z76:=Tryz.sizeOf308,
 v76:=Tryz.zeroValue308,
 t77:=Tryz.underlying309,
 a77:=Tryz.isAgg309,
 z77:=Tryz.sizeOf309,
 v77:=Tryz.zeroValue309 }
def Tryz.sortInts_ren:Go.Shelf.Ren:=⟨fun|6=>89|15=>168|14=>167|28=>228|29=>229|20=>220|21=>221|22=>222|23=>223|24=>224|25=>225|26=>226|27=>227|46=>284|47=>285|48=>286|49=>287|50=>288|57=>309|n=>n,fun|22=>40|24=>31|25=>146|3=>3|39=>187|0=>0|53=>258|55=>207|4=>4|46=>252|45=>251|50=>226|5=>5|9=>9|66=>291|70=>177|76=>308|77=>309|n=>n,fun|n=>n⟩
def Tryz.sortInts:SlLaysF.n6 tp Tryz.sortInts_ren:={
 mixed:=by kernel_rfl,
 f6:=⟨Tryz.f89.name,kK,Tryz.func89.trans (cS some kK)⟩,
 f14:=⟨Tryz.f167.name,kK,Tryz.func167.trans (cS some kK)⟩,
 f15:=Tryz.func168.trans (cS some kK),
 f20:=⟨Tryz.f220.name,kK,Tryz.func220.trans (cS some kK)⟩,
 f21:=⟨Tryz.f221.name,kK,Tryz.func221.trans (cS some kK)⟩,
 f22:=⟨Tryz.f222.name,kK,Tryz.func222.trans (cS some kK)⟩,
 f23:=⟨Tryz.f223.name,kK,Tryz.func223.trans (cS some kK)⟩,
 f24:=⟨Tryz.f224.name,kK,Tryz.func224.trans (cS some kK)⟩,
 f25:=⟨Tryz.f225.name,kK,Tryz.func225.trans (cS some kK)⟩,
 f26:=⟨Tryz.f226.name,kK,Tryz.func226.trans (cS some kK)⟩,
 f27:=⟨Tryz.f227.name,kK,Tryz.func227.trans (cS some kK)⟩,
 f28:=Tryz.func228.trans (cS some kK),
 f29:=Tryz.func229.trans (cS some kK),
 f46:=⟨Tryz.f284.name,kK,Tryz.func284.trans (cS some kK)⟩,
 f47:=Tryz.func285.trans (cS some kK),
 f48:=Tryz.func286.trans (cS some kK),
 f49:=⟨Tryz.f287.name,kK,Tryz.func287.trans (cS some kK)⟩,
 f50:=⟨Tryz.f288.name,kK,Tryz.func288.trans (cS some kK)⟩,
 f57:=⟨Tryz.f309.name,kK,Tryz.func309.trans (cS some kK)⟩,
 t0:=Tryz.underlying0,
 a0:=Tryz.isAgg0,
 z0:=Tryz.sizeOf0,
 v0:=Tryz.zeroValue0,
 t3:=Tryz.underlying3,
 a3:=Tryz.isAgg3,
 z3:=Tryz.sizeOf3,
 v3:=Tryz.zeroValue3,
 t4:=Tryz.underlying4,
 a4:=Tryz.isAgg4,
 z4:=Tryz.sizeOf4,
 v4:=Tryz.zeroValue4,
 t5:=Tryz.underlying5,
 a5:=Tryz.isAgg5,
 z5:=Tryz.sizeOf5,
 v5:=Tryz.zeroValue5,
 t9:=Tryz.underlying9,
 a9:=Tryz.isAgg9,
 z9:=Tryz.sizeOf9,
 v9:=Tryz.zeroValue9,
 t22:=Tryz.underlying40,
 a22:=Tryz.isAgg40,
 z22:=Tryz.sizeOf40,
 v22:=Tryz.zeroValue40,
 a24:=Tryz.isAgg31,
 z24:=Tryz.sizeOf31,
 t25:=Tryz.underlying146,
 a25:=Tryz.isAgg146,
 z25:=Tryz.sizeOf146,
 v25:=Tryz.zeroValue146,
 t39:=Tryz.underlying187,
 a39:=Tryz.isAgg187,
 z39:=Tryz.sizeOf187,
 v39:=Tryz.zeroValue187,
 t45:=Tryz.underlying251,
 a45:=Tryz.isAgg251,
 z45:=Tryz.sizeOf251,
 v45:=Tryz.zeroValue251,
 t46:=Tryz.underlying252,
 a46:=Tryz.isAgg252,
 z46:=Tryz.sizeOf252,
 v46:=Tryz.zeroValue252,
 t50:=Tryz.underlying226,
 a50:=Tryz.isAgg226,
 z50:=Tryz.sizeOf226,
 v50:=Tryz.zeroValue226,
 t53:=Tryz.underlying258,
 a53:=Tryz.isAgg258,
 z53:=Tryz.sizeOf258,
 v53:=Tryz.zeroValue258,
 t55:=Tryz.underlying207,
 a55:=Tryz.isAgg207,
 z55:=Tryz.sizeOf207,
 v55:=Tryz.zeroValue207,
 t66:=Tryz.underlying291,
 a66:=Tryz.isAgg291,
 z66:=Tryz.sizeOf291,
 v66:=Tryz.zeroValue291,
 t70:=Tryz.underlying177,
 a70:=Tryz.isAgg177,
 z70:=Tryz.sizeOf177,
 v70:=Tryz.zeroValue177,
 t76:=Tryz.underlying308,
 a76:=Tryz.isAgg308,
 z76:=Tryz.sizeOf308,
 v76:=Tryz.zeroValue308,
 t77:=Tryz.underlying309,
 a77:=Tryz.isAgg309,
 z77:=Tryz.sizeOf309,
 v77:=Tryz.zeroValue309 }
end Go.Proofs.YtcaakhmhlfgogaaGreatDoor
namespace Go.Sh
open Rep (rep)
section
variable {P:pG}{w:wD}{α:Type}[Rep α][dN α]{b o n cap k:Nat}{l:List α}
def TU{F:List Nat}{v:vL}(hm:aZ F w v l)(hl:l≠[]):∃b o cap xs,v=.slice (some ⟨b,o,none⟩) l.length cap/\F=[b]/\l.length<=cap/\cap<=maxLen/\aO [] w xs l/\w.rangeAt b o xs/\(∃c e,w.heap[b]?=some (.cells c e (0,0))):=by
 obtain⟨⟨_,⟨_,cap,_,xs,rfl,h1,h2,hc,h4⟩,rfl⟩,_,hw⟩:=hm;rcases h4 with⟨h4,_⟩|⟨b,o,rfl,rfl,hr,_⟩
 ·exact absurd h4 hl
 have g0:=aO.flat (xs:=xs) hc;subst g0;exact⟨b,o,cap,xs,rfl,rfl,h1,h2,hc,hr,hw b ss⟩
def Pb{xs:List vL}(h1:l.length<=cap)(h2:cap<=maxLen)(hc:aO [] w xs l)(hr:w.rangeAt b o xs)(hw:∃ c e,w.heap[b]?=some (.cells c e (0,0))):aZ [b] w (.slice (some ⟨b,o,none⟩) l.length cap) l:=
 ⟨⟨_,⟨some ⟨b,o,none⟩,cap,[],xs,rfl,h1,h2,hc,.inr ⟨b,o,rfl,rfl,hr,by obtain⟨c,e,h⟩:=hw;exact(Array.getElem?_eq_some_iff.1 h).1⟩⟩,rfl⟩,ss,λi hi=>by simp at hi;subst hi;exact hw⟩
def zF0{t e:TypeId}{by_:Nat}{K:vL->Prop}(ht:P.underlying t=some (.slice e))(he:cT P e=some (Rep.size α,by_,Rep.agg α))(hk:k<=n)(hn:n<=cap)(kk:K (.slice (some ⟨b,o,none⟩) k cap)) :
   RD P (Instr.sliceAt t (.slice (some ⟨b,o,none⟩) n cap) none (some (iV k)) none) w K:=by
 refine dY (λw' _=>?_) kk
 have g0:(Instr.sliceBounds true n cap none (some (iV k)) none).run P w'=.ok (0,k,cap) w':=by
   have h5:(k:Int)<=(cap:Int):=oo;simp[Instr.sliceBounds,Instr.sliceBound,asIntOf,h5];intro _;omega
 simp only[Instr.sliceAt,Instr.slice,Sem.run_bind,run_underlying ht,Result.andThen_ok,g0,qX he];simp[Addr.add_mid]
def bu{t e:TypeId}{by_:Nat}{K:vL->Prop}(ht:P.underlying t=some (.slice e))(he:cT P e=some (Rep.size α,by_,Rep.agg α))(hk:k<=n)(hn:n<=cap)(kk:K (.slice (if cap=k then some ⟨b,o,none⟩else some ⟨b,o+k*Rep.size α,none⟩) (n-k) (cap-k))) :
   RD P (Instr.sliceAt t (.slice (some ⟨b,o,none⟩) n cap) (some (iV k)) none none) w K:=by
 refine dY (λw' _=>?_) kk
 have hb:(Instr.sliceBounds true n cap (some (iV k)) none none).run P w'=.ok (k,n,cap) w':=by
   have:(k:Int)<=(n:Int):=oo;simp[Instr.sliceBounds,Instr.sliceBound,asIntOf,this];try (intro _;omega)
 simp[Instr.sliceAt,Instr.slice,run_underlying ht,hb,qX he,Addr.add_mid]
def Y9{t e:TypeId}{by_ j:Nat}{K:vL->Prop}(ht:P.underlying t=some (.slice e))(he:cT P e=some (Rep.size α,by_,Rep.agg α))(hk:k<=j)(hn:j<=cap){a:Option Addr}(kk:∀ a',(k≠0->a'=a)->K (.slice a' k j)) :
   RD P (Instr.sliceAt t (.slice a n cap) none (some (iV k)) (some (iV j))) w K:=by
 have hb:∀w',(Instr.sliceBounds true n cap none (some (iV k)) (some (iV j))).run P w'=.ok (0,k,j) w':=λw'=>by
   have h1:(j:Int)<=(cap:Int):=oo;have h2:(k:Int)<=(j:Int):=oo;simp[Instr.sliceBounds,Instr.sliceBound,asIntOf,h1,h2];try (intro _;omega)
 have:∃a',(∀w',(Instr.sliceAt t (.slice a n cap) none (some (iV k)) (some (iV j))).run P w'=.ok (.slice a' k j) w')/\(k≠0->a'=a):=by
   cases a with
   |none=>exact⟨none,λw'=>by simp[Instr.sliceAt,Instr.slice,run_underlying ht,hb,qX he],λ_=>rfl⟩
   |some a=>exact⟨some a,λw'=>by simp[Instr.sliceAt,Instr.slice,run_underlying ht,hb,qX he,Addr.add],λ_=>rfl⟩
 obtain⟨a',h1,h2⟩:=this;exact dY (λw' _=>h1 w') (kk a' h2)
theorem qf[aV α]{t e ty:TypeId}{K:vL->wD->Prop}(ht:P.underlying t=some (.slice e))(hz:kO P e=some (aV.zc α))(hm:aZ [b] w (.slice (some ⟨b,o,none⟩) n cap) l)(hl:l.length=n)(hk:k<=n)(hk0:0<k)(hn:n<=cap)
   (kk:∀w',cH [b] w w'->aZ [b] w' (.slice (some ⟨b,o,none⟩) k cap) (l.take k)->K (.tuple #[]) w') :
   OP P (Builtin.clear_ #[t] ty [Value.slice (if cap=k then some ⟨b,o,none⟩else some ⟨b,o+k*Rep.size α,none⟩) (n-k) (cap-k)].toArray) w K:=by
 have gf:l≠[]:=λe=>by rw[e]at hl;simp at hl;omega
 obtain⟨_,_,_,xs,hv,_,_,h2,hc,hr,hw⟩:=TU hm gf;simp only[Value.slice.injEq,iU,Addr.mk.injEq]at hv;obtain⟨⟨rfl,rfl,_⟩,_,rfl⟩:=hv;have g2:(l.take k).length=k:=by simp;omega
 have e0:l=l.take k++l.drop k:=by simp
 have gb:=hc;rw[e0]at gb;obtain⟨_,_,x1,x2,gg,rfl,c1,_⟩:=aO.split gb;obtain⟨rfl,rfl⟩:=Jl.1 gg.symm;have gh:x1.length=k*Rep.size α:=by rw[aO.len c1,g2]
 have gc:=(wU hr).1;by_cases hnk:n=k
 ·subst hnk;refine⟨.tuple #[],w,?_,kk w (cH.refl _ _) ?_⟩
  ·rw[Hh];by_cases g1:cap=n
   ·rw[aP g1];simp[Builtin.clear_,run_underlying ht]
   rw[aH g1];simp[Builtin.clear_,run_underlying ht]
  have:=Pb (l:=l.take n) (cap:=cap) oo h2 c1 gc hw;rwa[g2]at this
 have g1:¬cap=k:=oo;rw[aH g1];obtain⟨c,e',he⟩:=hw;unfold kO at hz;cases hi:P.info? e with
 |none=>simp[hi]at hz
 | some i=>
   simp only[hi]at hz;obtain⟨z,gi,gd⟩:=CB.1 hz
   have gj:z.cells.size=Rep.size α:=by
     rw[<-sM,gd];exact Rep.len (aV.zr (α:=α) w)
   have g0:=Rep.pos (α:=α);obtain⟨m,gl⟩:∃m,n-k=m+1:=⟨n-k-1,oo⟩;have gn:(Builtin.zeroCells z.cells (n-k)).toList.length=(n-k)*Rep.size α:=by simp[Builtin.zeroCells,gj]
   have g3:o+(k*Rep.size α)+0+(Builtin.zeroCells z.cells (n-k)).toList.length<=c.size:=by
     rw[gn];have hx:(x1++x2).length=n*Rep.size α:=by rw[aO.len hc,hl]
     have C:=hr (n*Rep.size α-1) ((x1++x2)[n*Rep.size α-1]'(by rw[hx];have:=Be (show 0<n by omega) g0;omega)) (List.getElem?_eq_getElem _);simp only[World.cell?,he]at C;have:=(Array.getElem?_eq_some_iff.1 (by simpa using C)).1;have h3:(n-k)*Rep.size α+k*Rep.size α=n*Rep.size α:=by rw[<-xM];congr 1;omega
     have h4:=Be (show 0<n by omega) g0;omega
   have g4:∀v∈(Builtin.zeroCells z.cells (n-k)).toList,v.oneCell'=true:=λv hv=>by
     simp only[Builtin.zeroCells,Array.toList_map,Array.toList_range,sT,rC]at hv;obtain⟨i,_,rfl⟩:=hv;have g5:i%z.cells.size<z.cells.size:=Nat.mod_lt _ oo;have e3:z.cells[i%z.cells.size]! = z.cells[i%z.cells.size]'g5:=by simp[g5]
     rw[e3];refine Rep.one (aV.zr (α:=α) w) _ ?_;rw[<-gd];exact Array.getElem_mem_toList g5
   have g9:=run_storeCells_at (P:=P) b (o+k*Rep.size α) e' (Builtin.zeroCells z.cells (n-k)).toList 0 c w he g3 g4;simp only[JY]at g9;refine⟨.tuple #[],_,?_,kk _ (IM w b (c.toList.take (o+k*Rep.size α)++(Builtin.zeroCells z.cells (n-k)).toList++c.toList.drop (o+k*Rep.size α+(Builtin.zeroCells z.cells (n-k)).toList.length)).toArray) ?_⟩
   ·rw[gl]at g9 ⊢;simp[Builtin.clear_,run_underlying ht,zeroValue,typeInfo,hi,gi,g9]
   have hB:=setRow_heap w b c (c.toList.take (o+k*Rep.size α)++(Builtin.zeroCells z.cells (n-k)).toList++c.toList.drop (o+k*Rep.size α+(Builtin.zeroCells z.cells (n-k)).toList.length)).toArray e' _ he;have:=Pb (w:=w.setRow b (c.toList.take (o+k*Rep.size α)++(Builtin.zeroCells z.cells (n-k)).toList++c.toList.drop (o+k*Rep.size α+(Builtin.zeroCells z.cells (n-k)).toList.length)).toArray) (b:=b) (o:=o) (l:=l.take k) (cap:=cap) (xs:=x1) oo h2 (c1.keep ss) (λj v hv=>?_) ⟨_,_,hB⟩
   ·rwa[g2]at this
   have hj:=(List.getElem?_eq_some_iff.1 hv).1;rw[gh]at hj;have h5:=gc j v hv;simp only[World.cell?,he]at h5;have h6:c[o+j]?=some v:=by simpa using h5
   simp only[World.cell?,hB];simp only[Eo,DH,if_false,List.getElem?_toArray];rw[fR,List.getElem?_append_left (by simp;have:=(Array.getElem?_eq_some_iff.1 h6).1;omega),List.getElem?_take,aP oo];simpa using h6
end
end Go.Sh
namespace Go.Proofs.YtcaakhmhlfgogaaGreatDoor
open Go Go.Sh Go.Proofs
open Rep (rep)
theorem K9{w w0 w1:wD}{K:vL->Prop}{x y:Operand}{v1 v2:vL}{a b:aR}(h1:Is w0 v1 a)(h2:Is w1 v2 b)(k:K (.bool (decide (a=b)))):RD tp (bin .eql 46 x y v1 v2) w K:=by
  obtain⟨rfl,_⟩:=OW.1 h1;obtain⟨rfl,_⟩:=OW.1 h2;refine dY (λw' _=>?_) k;have hg:tp.eqGuardType tp.depth 46=false:=by kernel_rfl
  have e0:∀xs ys w,(eqGuard .eql 46 x y (.agg xs) (.agg ys)).run tp w=.ok () w:=λxs ys w=>run_eqGuard_agg (P:=tp) w .eql 46 x y xs ys hg;have e1:∀xs ys w,(Op.equalIn 10000 46 (.agg xs) (.agg ys)).run tp w=(Op.eqFields 9999 xs ys (tp.fieldsOf 46).toList).run tp w:=λxs ys w=>run_equalIn_struct w 9999 46 xs ys kK kK;have e2:(tp.fieldsOf 46).toList.map (λf=>(f.name,f.type,f.offset))=[("Global", 3,0),("A", 3,1),("B", 3,2)]:=by kernel_rfl
  have e3:∀(c d:Int)(w:wD),(Op.equalIn 9999 3 (iV c) (iV d)).run tp w=.ok (c == d) w:=λc d w=>run_equalIn_int w 9998 3 .i64 .i64 c d u3;have hd:(a=b)↔(a.g=b.g/\a.a=b.a/\a.b=b.b):=⟨λe=>by rw[e];exact⟨rfl,rfl,rfl⟩,λ⟨x,y,z⟩=>by cases a;cases b;simp only at x y z;rw[x,y,z]⟩;generalize hF:(tp.fieldsOf 46).toList=fs at e1 e2
  match fs,e2 with
  | [f0,f1,f2],e2=>
    simp only[FI,QJ,zI,mV,and_true]at e2;obtain⟨⟨n0,t0,o0⟩,⟨n1,t1,o1⟩,⟨n2,t2,o2⟩⟩:=e2;have p0:∀(a b c:vL)(w:wD),(part 3 #[a,b,c] 0).run tp w=.ok a w:=λa b c w=>by simp[part,xY aG]
    have p1:∀(a b c:vL)(w:wD),(part 3 #[a,b,c] 1).run tp w=.ok b w:=λa b c w=>by simp[part,xY aG]
    have p2:∀(a b c:vL)(w:wD),(part 3 #[a,b,c] 2).run tp w=.ok c w:=λa b c w=>by simp[part,xY aG]
    simp only[bin,Sem.run_bind,e0,Result.andThen_ok,run_eql_struct,e1,Op.eqFields,n0,n1,n2,t0,t1,t2,o0,o1,o2];simp only[ne_eq,String.reduceEq,not_false_eq_true,if_true,Sem.run_bind,p0,p1,p2,Result.andThen_ok,e3,Sem.run_ite,Sem.run_pure,hd];by_cases x0:a.g=b.g<;>by_cases x1:a.a=b.a<;>by_cases x2:a.b=b.b<;>simp[x0,x1,x2]
theorem ztX{w w0 w1:wD}{K:vL->Prop}{x y:Operand}{v1 v2:vL}{a b:aR}(h1:Is w0 v1 a)(h2:Is w1 v2 b)(k:K (.bool (decide (a≠b)))):RD tp (bin .neq 46 x y v1 v2) w K:=by
  obtain⟨rfl,_⟩:=OW.1 h1;obtain⟨rfl,_⟩:=OW.1 h2;refine dY (λw' _=>?_) k;have hg:tp.eqGuardType tp.depth 46=false:=by kernel_rfl
  have e0:∀xs ys w,(eqGuard .neq 46 x y (.agg xs) (.agg ys)).run tp w=.ok () w:=λxs ys w=>run_eqGuard_agg (P:=tp) w .neq 46 x y xs ys hg;have e1:∀xs ys w,(Op.equalIn 10000 46 (.agg xs) (.agg ys)).run tp w=(Op.eqFields 9999 xs ys (tp.fieldsOf 46).toList).run tp w:=λxs ys w=>run_equalIn_struct w 9999 46 xs ys kK kK;have e2:(tp.fieldsOf 46).toList.map (λf=>(f.name,f.type,f.offset))=[("Global", 3,0),("A", 3,1),("B", 3,2)]:=by kernel_rfl
  have e3:∀(c d:Int)(w:wD),(Op.equalIn 9999 3 (iV c) (iV d)).run tp w=.ok (c == d) w:=λc d w=>run_equalIn_int w 9998 3 .i64 .i64 c d u3;have hd:(a=b)↔(a.g=b.g/\a.a=b.a/\a.b=b.b):=⟨λe=>by rw[e];exact⟨rfl,rfl,rfl⟩,λ⟨x,y,z⟩=>by cases a;cases b;simp only at x y z;rw[x,y,z]⟩;generalize hF:(tp.fieldsOf 46).toList=fs at e1 e2
  match fs,e2 with
  | [f0,f1,f2],e2=>
    simp only[FI,QJ,zI,mV,and_true]at e2;obtain⟨⟨n0,t0,o0⟩,⟨n1,t1,o1⟩,⟨n2,t2,o2⟩⟩:=e2;have p0:∀(a b c:vL)(w:wD),(part 3 #[a,b,c] 0).run tp w=.ok a w:=λa b c w=>by simp[part,xY aG]
    have p1:∀(a b c:vL)(w:wD),(part 3 #[a,b,c] 1).run tp w=.ok b w:=λa b c w=>by simp[part,xY aG]
    have p2:∀(a b c:vL)(w:wD),(part 3 #[a,b,c] 2).run tp w=.ok c w:=λa b c w=>by simp[part,xY aG]
    simp only[bin,Sem.run_bind,e0,Result.andThen_ok,run_neq_struct,e1,Op.eqFields,n0,n1,n2,t0,t1,t2,o0,o1,o2];simp only[ne_eq,String.reduceEq,not_false_eq_true,if_true,Sem.run_bind,p0,p1,p2,Result.andThen_ok,e3,Sem.run_ite,Sem.run_pure,hd];by_cases x0:a.g=b.g<;>by_cases x1:a.a=b.a<;>by_cases x2:a.b=b.b<;>simp[x0,x1,x2,hd]
end Go.Proofs.YtcaakhmhlfgogaaGreatDoor
