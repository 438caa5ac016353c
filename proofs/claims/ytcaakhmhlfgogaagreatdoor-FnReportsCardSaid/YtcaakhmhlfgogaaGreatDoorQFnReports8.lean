/-
  Parts of the proof, put together by program.
-/
import Derived.Test.YtcaakhmhlfgogaaGreatDoorQFnReports7
set_option linter.defProp false
set_option linter.unusedVariables false
set_option maxRecDepth 100000
set_option linter.unusedSimpArgs false
set_option linter.unusedSectionVars false
open Go renaming Value→vL,World→wD,Program→pG
namespace Go.Proofs.YtcaakhmhlfgogaaGreatDoor
open Go Go.Sh Go.Proofs
open Rep (rep)
variable {K:vL->Prop}{P:pG}{W W0 W1 w:wD}{a:Int}{ag:Bool}{c:aF}{hi lo:Nat}{u v v0 v1:vL}{x:aR}
def UL{t e:TypeId}{b a n cap sz by_ k:Nat}(ht:P.underlying t=some (.slice e))(he:cT P e=some (sz,by_,ag))(hu:u=.slice (some ⟨b,a,none⟩) n cap)(hk:k<n)(kk:K (pT b (a+k*sz))) :
   RD P (Instr.indexAt t u (iV k)) w K:=by
 subst hu;exact dY (λ_ _=>by rw[KS ht he oo oo];simp) kk
instance:dN aR:=⟨λh=>by obtain⟨F1,F2,c1,c2,rfl,rfl,⟨rfl,_⟩,⟨F3,F4,c3,c4,rfl,rfl,⟨rfl,_⟩,⟨rfl,_⟩⟩⟩:=h;rfl⟩
section
variable {α:Type}[DecidableEq α]
def ddg(x:α):List α->List α
 |[]=>[]
 |y :: l=>if y=x then ddg x l else y :: ddg y l
def ddp:List α->List α
 |[]=>[]
 |x :: l=>x :: ddg x l
theorem Lg(y:α):∀(l:List α)(x:α),ddg x (l++[y])=if y=l.getLastD x then ddg x l else ddg x l++[y]
 |[],x=>rfl
 | a :: l,x=>by
   rw[sZ,ddg,ddg,List.getLastD_cons];by_cases h:a=x
   ·rw[aP h,aP h,Lg y l x,h]
   rw[aH h,aH h,Lg y l a];split<;>rfl
theorem Fy{l:List α}{k:Nat}(h0:0<k)(hk:k<l.length):ddp (l.take (k+1))=if l[k]=l[k-1]then ddp (l.take k)else ddp (l.take k)++[l[k]]:=by
 rw[tk hk];cases l with
 |nil=>simp at hk
 | cons x l=>
   obtain⟨j,rfl⟩:∃j,k=j+1:=⟨k-1,oo⟩;have:j<l.length:=by simpa using hk
   have e:(l.take j).getLastD x=(x :: l)[j+1-1]:=by
     rw[List.getLastD_eq_getLast?,List.getLast?_eq_getElem?,fY,GJ oo];cases j with
     |zero=>simp
     |succ j=>simp[List.getElem?_take];rw[List.getElem?_eq_getElem oo];rfl
   rw[Oz,sZ,ddp,ddp,Lg,e];split<;>rfl
end
def fe{l:List aR}(h:aK lo hi w v l)(hn:l.length<=1073741824) :
   aJ tp 157 [v] w λr w'=>aN lo hi w w'/\aK lo hi w' r (ddp l):=by
 obtain⟨F,hM,hF⟩:=h;refine co (g:=kf [] [(4,1152921504606846012,[3]),(9,18014397972611112,[3,5])] [(6,[0,1,2,3,4,5,6,7,8,9],0),(11,[0,1,2,3,4,5,6,7,8,9],0)]) Tryz.func157 ?_;refine aX mC hM.is<|bM<|br (λgl=>?_) λgn=>?_
 ·refine⟨aN.refl w,F,?_,hF⟩
  have:ddp l=l:=by
    match l,gl with
    |[],_=>rfl
    |[x],_=>rfl
    |_ :: _ :: _,h=>simp only[dA]at h;omega
  rw[this];exact hM
 have gp:l≠[]:=λe=>by rw[e]at gn;simp at gn
 obtain⟨b,o,cap,_,rfl,rfl,h1,_,_,_,_⟩:=TU hM gp;have g3:=hM.is;refine bV l.length (λk us w'=>us=[iV k]/\aB w w'/\1<=k/\k<=l.length/\ddp (l.take k)=l.take k) 1 oo ⟨rfl,xx,lr _,oo,?_⟩ ?_
 ·cases l with
  |nil=>exact absurd rfl gp
  |cons x l=>rfl
 rintro k0 mk _ w1 _ ⟨hu,g4,_,_,kZ⟩;try replace hu:=cJ hu
 rw[hu];refine aX mC g3<|bM<|br (λgl=>?_) λ_=>?_
 case refine_2=>
   have:k0=l.length:=oo;subst this;rw[sF]at kZ;rw[kZ];exact⟨g4.toI,[b],hM.ext g4,hF⟩
 have hk:k0<l.length:=oo;have gE:=cO w1;have C:=g4.t gE;generalize World.drew1 w1=w2 at *;refine bC mC lG g3 hk λ_ _ gF=>aL lG gF C λ_ gG=>kQ io ?_;rw[show((k0:Int)-1)=((k0-1:Nat):Int) by omega];refine bC (i:=k0-1) mC lG g3 oo λ_ _ gH=>aL lG gH C λ_ gI=>K9 gG gI<|br (λgJ=>?_) λg5=>?_
 case refine_2=>refine aU<|⟨mk-1,oo,k0+1,oo,rfl,C,oo,oo,?_⟩;rw[Fy oo hk,aH g5,kZ,<-tk hk]
 refine bu (α:=aR) mC lG oo h1 ?_;rw[aH oo];have e3:Rep.size aR=3:=rfl;rw[e3]
 refine bV (l.length-k0) (λk2 us w'=>∃(k:Nat)(cur:List aR),us=[iV k,iV k2]/\cH [b] w w'/\aZ [b] w' (.slice (some ⟨b,o,none⟩) l.length cap) cur/\cur.length=l.length/\1<=k2/\k2<=l.length-k0/\k0<=k/\k+1<=k0+k2 /\
     cur.take k=ddp (l.take (k0+k2))/\∀j,k<=j->cur[j]?=l[j]?) 1 oo
   ⟨k0,l,rfl,C.chg _,hM.ext C,rfl,lr _,oo,lr _,oo,by rw[Fy oo hk,aP gJ,kZ],λ_ _=>rfl⟩ ?_
 rintro k2 gq _ w3 _ ⟨k,cur,gK,gr,gs,O,_,_,gL,_,g1,D⟩;obtain⟨g9,gb⟩:=dQ gK;rw[g9,gb];refine dY (v:=iV ((l.length-k0:Nat):Int)) (λw' _=>by simp[Builtin.len_,run_underlying mC];rfl)<|bM<|br (λ_=>?_) (λ_=>?_)
 ·have hp:k0+k2<l.length:=oo;have gt:=cO w3;have gc:=gs.ext gt;have gx:=gr.trans (gt.chg _);generalize World.drew1 w3=w4 at *;have gd:cur≠[]:=λe=>by rw[e]at O;simp at O;omega
  obtain⟨_,_,_,_,gy,_,_,_,gf,gg,_⟩:=TU gc gd;simp only[Value.slice.injEq,iU,Addr.mk.injEq]at gy;obtain⟨⟨rfl,rfl,_⟩,_,rfl⟩:=gy;have gz:∀i(hi:i<cur.length),At w4 b (o+i*3) cur[i]:=λi hi=>gf.at gg hi
  have g0:∀i(hi:i<l.length)(gA:k<=i),cur[i]'(by omega)=l[i]:=λi hi gA=>by
    have:=D i gA;rw[List.getElem?_eq_getElem oo,List.getElem?_eq_getElem hi]at this;exact Ez this
  have gh:=gz (k0+k2) oo;have gB:=gz (k0+k2-1) oo;rw[g0 _ hp oo]at gh;rw[g0 _ oo oo]at gB;refine UL (k:=k2) mC lG rfl oo ?_;rw[show o+k0*3+k2*3=o+(k0+k2)*3 by omega];refine aL lG gh xx λ_ gM=>kQ io ?_;rw[show((k2:Int)-1)=((k2-1:Nat):Int) by omega];refine UL (k:=k2-1) mC lG rfl oo ?_;rw[show o+k0*3+(k2-1)*3=o+(k0+k2-1)*3 by omega];refine aL lG gB xx λ_ gN=>ztX gM gN ?_;have gC:=Fy (l:=l) (k:=k0+k2) oo hp;refine br (λgi=>?_) λM=>?_
  ·refine UL (k:=k2) mC lG rfl oo ?_;rw[show o+k0*3+k2*3=o+(k0+k2)*3 by omega];refine aL lG gh xx λ_ gO=>?_;obtain⟨_,gP,gD,gQ⟩:=gO;have gR:=dN.flat gD;subst gR;refine sf (α:=aR) mC lG gc (k:=k) oo ⟨gP,gD,gQ⟩ λw5 gj g2=>aU<|aU<|⟨gq-1,oo,k2+1,oo,k+1,_,rfl,gx.trans gj,g2,by simp[O],oo,oo,oo,oo,?_,λj _=>?_⟩
   ·rw[show k0+(k2+1)=k0+k2+1 by omega,gC,aH gi,<-g1];rw[tk so,List.getElem_set_self,List.take_set_of_le (lr _)]
   rw[List.getElem?_set_ne oo];exact D j oo
  have M:=eK.1 M;refine aU<|⟨gq-1,oo,k2+1,oo,k,cur,rfl,gx,gc,O,oo,oo,gL,oo,?_,D⟩;rw[show k0+(k2+1)=k0+k2+1 by omega,gC,aP M,g1]
 have gS:k0+k2=l.length:=oo;rw[gS,sF]at g1;refine bu (α:=aR) mC lG oo h1<|qf (α:=aR) mC Ks gs O oo oo h1 λw5 gj g2=>zF0 (α:=aR) mC lG oo h1 ?_;rw[g1]at g2;exact⟨(gr.trans gj).toI hF,[b],g2,hF⟩
def zAt{l:List aR}(h:Is W v l)(e:aB W w)(hn:l.length<=1073741824) :
   aJ tp 153 [v] w λr w'=>aB w w'/\eG w.heap.size w' r l:=by
 refine co (g:=kf [] [] []) Tryz.func153 ?_;obtain⟨_,_,_,_,rfl,_,_,_,h4⟩:=xD h;refine Ri mC<|bW (λg0=>?_) λ_=>?_
 ·have:l=[]:=by
    rcases h4 with h4|⟨_,_,rfl,_⟩
    ·exact h4
    simp at g0
  subst this;exact⟨xx,XO rfl⟩
 refine pR (α:=aR) mC lG λ_ _ g1 r5=>?_;have hs1:=g1.size;refine OX (α:=aR) mC lG VA r5 (lr _) h (e.trans g1) (by rw[eB];simp;omega) so λ_ _ g2 r7=>?_;rw[sL]at r7;exact⟨aB.xI g1 g2 oo,r7.own.own.mono oo⟩
def et{l:List aR}(h:aK lo hi w v l) :
   aJ tp 156 [v] w λr w'=>aB w w'/\aK lo hi w' r l:=by
 obtain⟨_,hM,hF⟩:=h;refine co (g:=kf [] [] []) Tryz.func156 ?_;refine aX mC hM.is<|aX mC hM.is ?_;by_cases hne:l=[]
 ·subst hne;obtain⟨_,cap,_,xs,rfl,h1,h2,_,_⟩:=xD hM.is;refine Y9 (α:=aR) (k:=0) (j:=0) mC lG (lr _) h1 λa' _=>⟨xx,Ik a'⟩
 obtain⟨b,_,cap,xs,rfl,rfl,h1,h2,hc,hr,hw⟩:=TU hM hne;refine Y9 (α:=aR) (k:=l.length) (j:=l.length) mC lG (lr _) h1 λa' ha=>?_;rw[ha (λe=>hne (qC e))];exact⟨xx,[b],Pb (lr _) oo hc hr hw,hF⟩
def Bl{x:bP}(h1:bR x.at_)(h2:bR x.global)(h3:bR x.held):aK lo hi w (.agg #[iV x.at_,iV x.global,.bool x.write,iV x.held]) x:=
 ⟨[],zyy h1 h2 h3,ss⟩
def tQ(c:aF)(a:Int)(held:Int)(i:bH):Nat->List bP
 |0=>[]
 |k+1=>tQ c a held i k++(if c.B.getD k ByteArray.empty∈mN i.term then[⟨a,k,false,held⟩]else[])++(if i.op=1/\i.arg=k then[⟨a,k,true,held⟩]else[])
def CA(c:aF)(a:Int)(held:Int):List bP:=
 if (bO c a.toNat).op=1\/(bO c a.toNat).op=2 then tQ c a held (bO c a.toNat) c.B.length else[]
theorem El(c:aF)(a held:Int)(i:bH):∀k,(tQ c a held i k).length<=2*k
 |0=>by simp[tQ]
 | k+1=>by
   have:=El c a held i k;rw[tQ,bX,bX];split<;>split<;>simp<;>omega
def iy(c:aF)(a held:Int):(CA c a held).length<=2*c.B.length:=by
 unfold CA;split
 ·exact El _ _ _ _ _
 simp
def qc{held:Int} (h0:Is W0 v0 c)(e0:aB W0 w)(hc:aM c)(ha:0<=a)(ha2:a<c.I.length)(hh:bR held) :
   aJ tp 149 [v0,iV a,iV held] w λr w'=>aB w w'/\(eG w.heap.size w' r (CA c a held)):=by
 refine co (g:=kf [(4,33423424,[]),(11,70300024701440,[9])] [(7,9223372034707295744,[9,31])] []) Tryz.func149 ?_;have:=hc.f.I;have:c.B.length<=6:=by have h1:=hc.1.1;simp only[iA,lZ]at h1;omega
 refine lA cP rfl h0 e0 λg1 y1 g5 _=>?_;have σ1:=y1.size;refine aE eW<|aL eJ (fV g5) xx λ_ gf=>wR eQ fE gf oo oo λ_ _ g2=>?_;rw[oM]at g2;obtain⟨i,hi⟩:∃i,i=bO c a.toNat:=⟨_,rfl⟩;rw[<-hi]at g2;refine aL fE g2 xx λ_ gg=>mB zL rfl fE rfl gg xx λO y2 V gh=>?_;have:=gh.lt;refine dJ.mk (λus w'=>us=[]/\aB O w'/\(i.op=1\/i.op=2)) ?_ ?_
 ·refine aE lV ?_;refine aS aG (lW V) xx λ_=>fP<|br (λc1=>?_) λc1=>?_
  ·refine aE lV ?_;refine aS aG (lW V) xx λ_=>fP<|br (λc2=>?_) λc2=>?_
   ·refine⟨xx,?_⟩;unfold CA;rw[<-hi,aH oo];exact XO rfl
   refine⟨ss,xx,?_⟩;omega
  refine⟨ss,xx,?_⟩;omega
 rintro _ _ ⟨hu,y3,gi⟩;have σ3:=y3.size;try replace hu:=cJ hu
 clear hu;refine aE DA<|aL dK (DB V) y3 λ_ gj=>(Ht gj y3).mono ?_;rintro _ Z ⟨y4,gl⟩;have σ4:=y4.size;refine aE vU<|aL dC (wF g5) xx λ_ g9=>aX cL g9<|bV (c.B.length) (λk us w'=>∃v:vL,us=[v,iV k]/\aB Z w'/\(bQ Z.heap.size w'.heap.size 134 w' v (tQ c a held i k))) (0) oo ⟨_,rfl,xx,uC _ _ _ _⟩ ?_;rintro k m7 _ _ _ ⟨_,hu,y5,D⟩;have σ5:=y5.size;obtain⟨gb,gc⟩:=dQ hu;clear hu;try rw[gb]
 try rw[gc]
 try clear gb gc
 have:=El c a held i k;refine bM<|br (λc3=>?_) λc3=>?_
 ·refine bC cL cG g9 oo λ_ _ gn=>?_;refine eV cG gn xx λ_=>dJ.mk (λus w'=>∃v:vL,us=[v]/\aB Z w'/\(bQ Z.heap.size w'.heap.size 134 w' v (tQ c a held i k++(if c.B.getD k ByteArray.empty∈mN i.term then[⟨a,k,false,held⟩]else[])))) ?_ ?_
  ·have gd:c.B[k]'(by omega)=c.B.getD k ByteArray.empty:=by rw[List.getD_eq_getElem?_getD,List.getElem?_eq_getElem oo];rfl
   refine(LY gl y5).mM λg0 y7=>?_;have σ7:=y7.size;refine br (λc4=>?_) λc4=>?_
   ·refine fI (cells:=#[iV a,iV k,.bool false,iV held]) kK ?_;have gp:aK g0.heap.size g0.heap.size g0 (.agg #[iV a,iV k,.bool false,iV held]) (⟨a,k,false,held⟩:bP):=Bl (x:=⟨a,k,false,held⟩) (by show bR a;unfold bR;omega) (by show bR (k:Int);unfold bR;omega) hh;refine oS (α:=bP) wW qQ ZM SV dD (D.ext y7) oo (gp.ext xx) oo oo (by rw[eB];omega) oo λ_ _ g3 gq=>⟨_,rfl,(aB.xI xx g3 oo),?_⟩;rw[aP (by rw[<-gd];exact c4)];exact gq
   refine⟨_,rfl,xx,?_⟩;rw[aH (by rw[<-gd];exact c4),oJ];exact(D.ext y7).mono oo oo
  rintro _ M ⟨_,hu,y8,C⟩;have σ8:=y8.size;try replace hu:=cJ hu
  try rw[hu]
  try clear hu
  refine aE lV<|aS aG (lW V) xx λ_=>bI<|br (λc5=>?_) λc5=>?_
  ·refine aE mE ?_;refine aS aG (mF V) xx λ_=>bI<|br (λc6=>?_) λc6=>?_
   ·refine fI (cells:=#[iV a,iV k,.bool true,iV held]) kK ?_;have gr:aK M.heap.size M.heap.size M (.agg #[iV a,iV k,.bool true,iV held]) (⟨a,k,true,held⟩:bP):=Bl (x:=⟨a,k,true,held⟩) (by show bR a;unfold bR;omega) (by show bR (k:Int);unfold bR;omega) hh;refine oS (α:=bP) wW qQ ZM SV dD (C.ext xx) oo (gr.ext xx) oo oo (by rw[eB,bX];split<;>simp<;>omega) (by rw[bX];split<;>simp<;>omega) λ_ _ g4 gs=>aU<|⟨m7-1,oo,k+1,oo,_,rfl,(aB.xI y8 g4 oo),?_⟩;rw[tQ,aP (c:=i.op=1/\i.arg=k) ⟨oo,oo⟩];exact gs
   refine aU<|⟨m7-1,oo,k+1,oo,_,rfl,y8,?_⟩;rw[tQ,aH (c:=i.op=1/\i.arg=k) (λh=>c6 h.2),oJ];exact(C.ext xx).mono oo oo
  refine aU<|⟨m7-1,oo,k+1,oo,_,rfl,y8,?_⟩;rw[tQ,aH (c:=i.op=1/\i.arg=k) (λh=>c5 h.1),oJ];exact(C.ext xx).mono oo oo
 refine⟨xx,?_⟩;unfold CA;rw[<-hi,aP gi,<-show k=c.B.length by omega];exact D.own.own.mono oo
def pd{held:Int} (h0:Is W0 v0 c)(e0:aB W0 w)(hc:aM c)(ha:0<=a)(ha2:a<c.I.length)(hh:bR held) :
   aJ tp 175 [v0,iV a,iV held] w λr w'=>aB w w'/\(eG w.heap.size w' r (CA c a held)):=by
 refine co (g:=kf [(5,66977856,[]),(11,1125831187366016,[7])] [(7,73786976294301336704,[7,10])] []) Tryz.func175 ?_;have:=hc.f.I;have:c.B.length<=6:=by have h1:=hc.1.1;simp only[iA,lZ]at h1;omega
 refine lA cP rfl h0 e0 λ_ y1 g2 _=>?_;have σ1:=y1.size;refine pR (α:=bP) wW qQ λgc _ y2 gd=>?_;have σ2:=y2.size;refine aE eW<|aL eJ (fV g2) y2 λ_ gf=>wR eQ fE gf oo oo λ_ _ g3=>?_;rw[oM]at g3;obtain⟨i,hi⟩:∃i,i=bO c a.toNat:=⟨_,rfl⟩;rw[<-hi]at g3;refine aL fE g3 y2 λ_ gg=>mB zL rfl fE rfl gg y2 λO y3 V gh=>?_;have:=gh.lt;refine dJ.mk (λus w'=>us=[]/\aB O w'/\(i.op=1\/i.op=2)) ?_ ?_
 ·refine aE lV ?_;refine aS aG (lW V) xx λ_=>fP<|br (λc1=>?_) λc1=>?_
  ·refine aE lV ?_;refine aS aG (lW V) xx λ_=>fP<|br (λc2=>?_) λc2=>?_
   ·refine⟨xx,?_⟩;unfold CA;rw[<-hi,aH oo];exact(gd.ext y3).own.own.mono oo
   refine⟨ss,xx,?_⟩;omega
  refine⟨ss,xx,?_⟩;omega
 rintro _ _ ⟨hu,y4,gi⟩;have σ4:=y4.size;try replace hu:=cJ hu
 clear hu;refine aE DA<|aL dK (DB V) y4 λ_ gj=>(Ns gj y4).mono ?_;rintro _ Z ⟨y5,gl⟩;have σ5:=y5.size;refine bV (c.B.length) (λk us w'=>∃v:vL,us=[v,iV k]/\aB Z w'/\(bQ Z.heap.size w'.heap.size 134 w' v (tQ c a held i k))) (0) oo ⟨_,rfl,xx,AY _ _ _ _ _⟩ ?_;rintro k m7 _ _ _ ⟨_,hu,y6,D⟩;have σ6:=y6.size;obtain⟨g5,g9⟩:=dQ hu;clear hu;try rw[g5]
 try rw[g9]
 try clear g5 g9
 have:=El c a held i k;refine aE vU<|aL dC (wF g2) xx λ_ gn=>aX cL gn<|bM<|br (λc3=>?_) λc3=>?_
 ·refine dJ.mk (λus w'=>∃v:vL,us=[v]/\aB Z w'/\(bQ Z.heap.size w'.heap.size 134 w' v (tQ c a held i k++(if c.B.getD k ByteArray.empty∈mN i.term then[⟨a,k,false,held⟩]else[])))) ?_ ?_
  ·refine aE vU ?_;refine aL dC (wF g2) xx λ_ gp=>bC cL cG gp oo λ_ _ gq=>eV cG gq xx λ_=>?_;have gb:c.B[k]'(by omega)=c.B.getD k ByteArray.empty:=by rw[List.getD_eq_getElem?_getD,List.getElem?_eq_getElem oo];rfl
   refine(ZY gl y6).mM λg1 y8=>?_;have σ8:=y8.size;refine br (λc4=>?_) λc4=>?_
   ·refine fI (cells:=#[iV a,iV k,.bool false,iV held]) kK ?_;have gr:aK g1.heap.size g1.heap.size g1 (.agg #[iV a,iV k,.bool false,iV held]) (⟨a,k,false,held⟩:bP):=Bl (x:=⟨a,k,false,held⟩) (by show bR a;unfold bR;omega) (by show bR (k:Int);unfold bR;omega) hh;refine oS (α:=bP) wW qQ ZM SV dD (D.ext y8) oo (gr.ext xx) oo oo (by rw[eB];omega) oo λ_ _ g4 gs=>⟨_,rfl,(aB.xI xx g4 oo),?_⟩;rw[aP (by rw[<-gb];exact c4)];exact gs
   refine⟨_,rfl,xx,?_⟩;rw[aH (by rw[<-gb];exact c4),oJ];exact(D.ext y8).mono oo oo
  rintro _ M ⟨gc,hu,y9,C⟩;have σ9:=y9.size;try replace hu:=cJ hu
  try rw[hu]
  try clear hu
  refine aE lV<|aS aG (lW V) xx λ_=>bI<|br (λc5=>?_) λc5=>?_
  ·refine aE mE ?_;refine aS aG (mF V) xx λ_=>bI<|br (λc6=>?_) λc6=>?_
   ·refine fI (cells:=#[iV a,iV k,.bool true,iV held]) kK ?_;have gt:aK M.heap.size M.heap.size M (.agg #[iV a,iV k,.bool true,iV held]) (⟨a,k,true,held⟩:bP):=Bl (x:=⟨a,k,true,held⟩) (by show bR a;unfold bR;omega) (by show bR (k:Int);unfold bR;omega) hh;refine oS (α:=bP) wW qQ ZM SV dD (C.ext xx) oo (gt.ext xx) oo oo (by rw[eB,bX];split<;>simp<;>omega) (by rw[bX];split<;>simp<;>omega) λ_ _ g0 gx=>aU<|⟨m7-1,oo,k+1,oo,_,rfl,(aB.xI y9 g0 oo),?_⟩;rw[tQ,aP (c:=i.op=1/\i.arg=k) ⟨oo,oo⟩];exact gx
   refine aU<|⟨m7-1,oo,k+1,oo,_,rfl,y9,?_⟩;rw[tQ,aH (c:=i.op=1/\i.arg=k) (λh=>c6 h.2),oJ];exact(C.ext xx).mono oo oo
  refine aU<|⟨m7-1,oo,k+1,oo,_,rfl,y9,?_⟩;rw[tQ,aH (c:=i.op=1/\i.arg=k) (λh=>c5 h.1),oJ];exact(C.ext xx).mono oo oo
 refine⟨xx,?_⟩;unfold CA;rw[<-hi,aP gi,<-show k=c.B.length by omega];exact D.own.own.mono oo
def Uo{n:Int}    :
   aJ tp 152 [iV n] w λr w'=>aB w w'/\(r=.bool (decide (0<=n/\n<=63))):=by
 refine co (g:=kf [] [] []) Tryz.func152 ?_;refine pD<|br (λc1=>?_) λc1=>?_
 ·refine tR ?_;refine⟨xx,?_⟩;simp[c1]
 refine⟨xx,?_⟩;simp[c1]
def zB(a b:bP):Prop:=a.global=b.global/\(a.write=true\/b.write=true)/\(0<=a.held/\a.held<=63)/\(0<=b.held/\b.held<=63)/\a.held.toNat &&& b.held.toNat=0
instance(a b:bP):Decidable (zB a b):=by unfold zB;infer_instance
def si{a:bP}{b:bP} (h0:Is W0 v0 a)(e0:aB W0 w)(h1:Is W1 v1 b)(e1:aB W1 w)  :
   aJ tp 80 [v0,v1] w λr w'=>aB w w'/\(r=.bool (decide (zB a b))):=by
 refine co (g:=kf [(3,1048560,[])] [] []) Tryz.func80 ?_;refine lA qQ rfl h0 e0 λ_ y1 g0 _=>lA qQ rfl h1 (e1.trans y1) λC y2 g1 _=>dJ.mk (λus w'=>us=[]/\aB C w'/\(a.global=b.global/\(a.write=true\/b.write=true))) ?_ ?_
 ·refine aE TV ?_;refine aS aG (SG g0) y2 λ_=>aE TV<|aS aG (SG g1) xx λ_=>fP<|br (λc1=>?_) λc1=>?_
  ·refine⟨xx,?_⟩;have:¬zB a b:=λh=>c1 h.1;simp only[this,eT]
  refine aE Cw<|iY cE (ZI g0) y2<|dG<|XQ (λc2=>?_) λc2=>?_
  ·refine aE Cw ?_;refine iY cE (ZI g1) xx<|dG<|bW (λc3=>?_) λc3=>?_
   ·refine⟨xx,?_⟩;have:¬zB a b:=λh=>by rcases h.2.1 with h|h<;>simp_all
    simp only[this,eT]
   refine⟨ss,xx,?_⟩;exact⟨oo,.inr (by simpa using c3)⟩
  refine⟨ss,xx,?_⟩;exact⟨oo,.inl (by simpa using c2)⟩
 rintro _ _ ⟨hu,y3,g2,g3⟩;try replace hu:=cJ hu
 clear hu;refine aE PU<|aS aG (QA g0) xx λ_=>(Uo ).mM λ_ y4=>br (λc4=>?_) λc4=>?_
 ·refine aE PU ?_;refine aS aG (QA g1) xx λ_=>(Uo ).mM λ_ y5=>br (λc5=>?_) λc5=>?_
  ·refine aE PU ?_;refine aS aG (QA g0) xx λ_=>aE PU<|aS aG (QA g1) xx λ_=>?_;obtain⟨m,hm⟩:=Cs c4.1;obtain⟨n,hn⟩:=Cs c5.1;rw[hm,hn];refine xV oo oo<|bI<|⟨xx,?_⟩
   have:zB a b↔m &&& n=0:=by
     have e1:a.held.toNat=m:=oo;have e2:b.held.toNat=n:=oo;unfold zB;rw[e1,e2];exact⟨λh=>h.2.2.2.2,λh=>⟨g2,g3,c4,c5,h⟩⟩
   congr 1;rw[decide_eq_decide,this];omega
  refine⟨xx,?_⟩;have:¬zB a b:=λh=>c5 h.2.2.2.1;simp only[this,eT]
 refine⟨xx,?_⟩;have:¬zB a b:=λh=>c4 h.2.2.1;simp only[this,eT]
def DT(a b:bP):aR:=⟨a.global,min a.at_ b.at_,max a.at_ b.at_⟩
def ui{a b:bP}(h0:Is W0 v0 a)(e0:aB W0 w)(h1:Is W1 v1 b)(e1:aB W1 w) :
   aJ tp 82 [v0,v1] w λr w'=>aB w w'/\∀lo hi,aK lo hi w' r (DT a b):=by
 refine co (g:=kf [] [] []) Tryz.func82 ?_;refine iR h0 e0 λ_ g0 hA=>iR h1 (e1.trans g0) λ_ g2 hB=>sY (α:=aR) Ks λw3 g1 hv=>?_;have:=g0.size;have:=g2.size;have C:=g2.t g1;refine aE TV<|aS aG (SG hA) C λg3=>aE GH<|aS aG (GS hA) C λ_=>aE GH<|aS aG (GS hB) g1 λ_=>ky<|aE GH<|aS aG (GS hA) C λ_=>aE GH<|aS aG (GS hB) g1 λ_=>lc ?_;have hm:∀(w:wD) lo hi,aK lo hi w (.agg #[iV a.global,iV (min a.at_ b.at_),iV (max a.at_ b.at_)]) (DT a b):=λw lo hi=>⟨[],fi (x:=DT a b) g3 (by unfold bR DT at *;simp only;omega) (by unfold bR DT at *;simp only;omega),ss⟩;refine fI (cells:=#[iV a.global,iV (min a.at_ b.at_),iV (max a.at_ b.at_)]) kK ?_;have:=hv.lt;refine oU (lo:=w3.heap.size) (hi:=w3.heap.size) lG hv (hm w3 _ _) oo λ_ g4 g5=>uX lG g5 xx λr hr=>⟨aB.xI xx g4 oo,λlo hi=>?_⟩;obtain⟨_,hM,_⟩:=hr;obtain⟨_,h,_⟩:=hM.own;have hF:=dN.flat h;subst hF;exact⟨[],hM,ss⟩
instance(x y:aR):Decidable (lI x y):=by unfold lI;infer_instance
def uv{y:aR} (h0:Is W0 v0 x)(e0:aB W0 w)(h1:Is W1 v1 y)(e1:aB W1 w)  :
   aJ tp 179 [v0,v1] w λr w'=>aB w w'/\(r=.bool (decide (lI x y))):=by
 refine co (g:=kf [] [] []) Tryz.func179 ?_;refine lA lG rfl h0 e0 λ_ y1 C _=>lA lG rfl h1 (e1.trans y1) λD y2 M _=>aE CQ<|aS aG (HX C) y2 λ_=>aE CQ<|aS aG (HX M) xx λ_=>fP<|br (λc1=>?_) λc1=>?_
 ·refine aE CQ ?_;refine aS aG (HX C) y2 λ_=>aE CQ<|aS aG (HX M) xx λ_=>bM<|⟨xx,?_⟩;congr 1;rw[decide_eq_decide];unfold lI;omega
 refine aE IL<|aS aG (OR C) y2 λ_=>aE IL<|aS aG (OR M) xx λ_=>fP<|br (λc2=>?_) λc2=>?_
 ·refine aE IL ?_;refine aS aG (OR C) y2 λ_=>aE IL<|aS aG (OR M) xx λ_=>bM<|⟨xx,?_⟩;congr 1;rw[decide_eq_decide];unfold lI;omega
 refine aE PA<|aS aG (VD C) y2 λ_=>aE PA<|aS aG (VD M) xx λ_=>bM<|⟨xx,?_⟩;congr 1;rw[decide_eq_decide];unfold lI;omega
def ZT(x:aR):¬lI x x:=by unfold lI;omega
def ZK{x y z:aR}(h:lI x y)(k:lI y z):lI x z:=by unfold lI at *;omega
def Hu{x y:aR}(h:¬lI x y)(k:¬lI y x):x=y:=by
 unfold lI at *;exact aR.ext_iff.2 ⟨oo,oo,oo⟩
def uE(r:aR):List aR->List aR
 |[]=>[r]
 |x :: l=>if lI x r then x :: uE r l else if x=r then x :: l else r :: x :: l
def ahd(r:aR):List aR->Nat
 |[]=>0
 |x :: l=>if lI x r then ahd r l+1 else 0
theorem E7(r:aR):∀l,uE r l=if h:ahd r l<l.length then(if l[ahd r l]=r then l else l.take (ahd r l)++(r :: l.drop (ahd r l)))else l++[r]
 |[]=>rfl
 | x :: l=>by
   rw[uE];by_cases h:lI x r
   ·have e:ahd r (x :: l)=ahd r l+1:=by rw[ahd,aP h]
    rw[aP h,E7 r l];by_cases h2:ahd r l<l.length
    ·rw[dif_pos h2,dif_pos (by rw[e];simpa using h2)];have e2:(x :: l)[ahd r (x :: l)]'(by rw[e];simpa using h2)=l[ahd r l]:=by simp[e]
     rw[e2];split
     ·rfl
     simp[e]
    rw[dif_neg h2,dif_neg (by rw[e];simpa using h2)];rfl
   have e:ahd r (x :: l)=0:=by rw[ahd,aH h]
   rw[aH h,dif_pos (by rw[e];simp)];have e2:(x :: l)[ahd r (x :: l)]'(by rw[e];simp)=x:=by simp[e]
   rw[e2];split
   ·rfl
   simp[e]
theorem Gy{r:aR}:∀{l:List aR}{k:Nat}(hk:k<=l.length),(∀j(h:j<k),lI (l[j]'(by omega)) r)->(∀h:k<l.length,¬lI l[k] r)->ahd r l=k
 |[],0,_,_,_=>rfl
 | x :: l,0,_,_,h=>by
   have h':¬lI x r:=h ss;rw[ahd,aH h']
 | x :: l,k+1,hk,h1,h2=>by
   have e:lI x r:=h1 0 oo;rw[ahd,aP e,Gy (k:=k) (by simpa using hk) (λj hj=>h1 (j+1) oo) λh=>h2 (by simpa using h)]
theorem Ib{r x:aR}:∀{l:List aR},x∈uE r l↔x=r\/x∈l
 |[]=>by simp[uE]
 | y :: l=>by
   rw[uE];split
   ·rw[bF,Ib,bF];exact⟨λh=>by rcases h with h|h|h<;>simp[h],λh=>by rcases h with h|h|h<;>simp[h]⟩
   split
   ·rename_i h;subst h;simp
   simp
theorem D2{r:aR}:∀{l:List aR},l.Pairwise lI->(uE r l).Pairwise lI
 |[],_=>by simp[uE]
 | y :: l,h=>by
   rw[AZ]at h;rw[uE];split
   ·rename_i hy;refine AZ.2 ⟨λz hz=>?_,D2 h.2⟩;rcases Ib.1 hz with rfl|hz
    ·exact hy
    exact h.1 z hz
   rename_i hy;split
   ·exact AZ.2 h
   rename_i hne;have hry:lI r y:=NS λhc=>hne (Hu hy hc);refine AZ.2 ⟨λz hz=>?_,AZ.2 h⟩;rcases bF.1 hz with rfl|hz
   ·exact hry
   exact ZK hry (h.1 z hz)
theorem cq:∀{l m:List aR},l.Pairwise lI->m.Pairwise lI->(∀x,x∈l↔x∈m)->l=m
 |[],[],_,_,_=>rfl
 |[],y :: m,_,_,h=>by have:=(h y).2 ss;cases this
 |x :: l,[],_,_,h=>by have:=(h x).1 ss;cases this
 | x :: l,y :: m,h1,h2,h=>by
   rw[AZ]at h1 h2
   have hxy:x=y:=by
     rcases bF.1 ((h x).1 ss)with e|hm
     ·exact e
     rcases bF.1 ((h y).2 ss)with e|hl
     ·exact e.symm
     exact absurd (ZK (h1.1 y hl) (h2.1 x hm)) (ZT x)
   subst hxy;congr 1;refine cq h1.2 h2.2 λz=>⟨λhz=>?_,λhz=>?_⟩
   ·rcases bF.1 ((h z).1 (by simp[hz]))with rfl|h'
    ·exact absurd (h1.1 z hz) (ZT z)
    exact h'
   rcases bF.1 ((h z).2 (by simp[hz]))with rfl|h'
   ·exact absurd (h2.1 z hz) (ZT z)
   exact h'
open Go.Sort
variable {W0 w:wD}{b hi i k lo m n p r:Nat}{c:aF}{v v0:vL}{x:aR}{y:Int}
instance:Inhabited aR:=⟨⟨0,0,0⟩⟩
def QG(x:aR):List vL:=[iV x.g,iV x.a,iV x.b]
def zCy:∀{F:List Nat}{w:wD}{cs:List vL}{x:aR},Rep.rep F w cs x->cs=QG x:=by
 intro F w cs x h;obtain⟨_,_,_,_,rfl,rfl,⟨rfl,rfl,_⟩,⟨_,_,_,_,rfl,rfl,⟨rfl,rfl,_⟩,⟨rfl,rfl,_⟩⟩⟩:=h;rfl
def NH{x y:aR}:ltOf JK x y=decide (lI x y):=by
 unfold ltOf;rw[decide_eq_decide];exact py
def dx:SWO (ltOf JK):=by
 refine⟨λx=>?_,λx y z h k=>?_,λx y z h k=>?_⟩
 ·rw[NH,decide_eq_false_iff_not];exact ZT x
 ·rw[NH,lZ]at *;exact ZK h k
 rw[NH,decide_eq_false_iff_not]at *;intro _;unfold lI at *;omega
def srt(l:List aR):List aR:=l.mergeSort λx y=>!(ltOf JK) y x
def s9(l:List aR):(srt l).Perm l:=Jt l _
def Z2(l:List aR):(srt l).length=l.length:=(s9 l).length_eq
def iq(l:List aR):(srt l).Pairwise λx y=>¬lI y x:=by
 have:=Nh (le:=λx y=>!(ltOf JK) y x) (λa b _ _ _=>by
   simp only[NH,xX,decide_eq_false_iff_not]at *;unfold lI at *;omega) (λa b=>by
   simp only[NH,vB,xX,decide_eq_false_iff_not];unfold lI;omega) l
 exact this.imp λh=>by simpa[NH]using h
def yv{l:List aR}(h:aK lo hi w v l)(hn:l.length<=1073741824) :
   aJ tp 154 [v,.func (.func 155) #[] #[]] w λ_ w'=>aN lo hi w w'/\aK lo hi w' v (srt l):=by
 obtain⟨F,hM,hF⟩:=h;by_cases hne:l=[]
 ·subst hne
  obtain⟨a,cap,hv⟩:∃a cap,v=.slice a 0 cap:=by
    obtain⟨_,⟨a,cap,_,xs,h,_⟩,hv⟩:=hM.own;exact⟨a,cap,by rw[hv,h];rfl⟩
  subst hv;refine⟨(AnyF.slices_SortFunc_none Tryz.sortRace a cap _ w).mono ?_⟩;rintro e w' ⟨he,rfl⟩;refine⟨_,he,aN.refl _,F,?_,hF⟩;have:srt []=[]:=qC (by rw[Z2];rfl);rw[this];exact hM
 obtain⟨b,o,cap,xs,rfl,rfl,h1,h2,g4,g5,g9⟩:=TU hM hne;have g0:=@zCy;have hk:∀x,(QG x).length=Rep.size aR:=λ_=>rfl;obtain⟨c,e,g1⟩:=g9;have hb:b<w.heap.size:=(Array.getElem?_eq_some_iff.1 g1).1
 have g2:CmpLays tp 155 #[] QG 3 JK b o l.toArray.size w:=λm os dk _ x y=>by
   have:=wx (w:=sortWorldK QG 3 w b o m dk os) (x:=x) (y:=y);obtain⟨h⟩:=this;refine h.mono ?_;rintro e w' ⟨v,he,hv,q,gb,g3⟩;exact⟨by rw[he,hv],q,gb,g3⟩
 refine⟨(AnyQ.slices_SortFunc_total Tryz.sortRace 3 Tryz.isAgg46 Tryz.sizeOf46 QG (λ_=>rfl) (λx v hv=>by
     simp only[QG,bF,dL,dI]at hv;rcases hv with rfl|rfl|rfl<;>rfl) JK dx 155 #[] b o cap l.toArray w (XM (ent 155 dD kK)) g2 (Gq g0 hk ⟨c,e,g1⟩ g4 g5) hb so (λx y h k=>by
     rw[NH,decide_eq_false_iff_not]at *;exact Hu h k)).mono ?_⟩
 rintro _ w' ⟨he,_,os,g3⟩;have hs:=df g0 hk (cap:=cap) g3 ⟨c,e,g1⟩ g4 g5 h1 h2 ss (λx hx=>by simpa[List.mem_mergeSort]using hx);refine⟨_,he,?_,[b],?_,hF⟩
 ·exact hs.1.toI (λi hi=>hF i hi)
 exact hs.2
def UD{α:Type}[Rep α][dN α]{w:wD}{lo hi:Nat}{v:vL}{x:α}(h:Is w v x):aK lo hi w v x:=by
 obtain⟨_,cs,hr,hv⟩:=h;have hF:=dN.flat hr;subst hF;exact⟨[],⟨⟨cs,hr,hv⟩,kM,Wr.nil w⟩,ss⟩
theorem Ov{z:aR}:∀{l:List aR}{x:aR},z∈x :: ddg x l↔z∈x :: l
 |[],x=>Iff.rfl
 | y :: l,x=>by
   rw[ddg];split
   ·rename_i h;subst h;rw[Ov (l:=l)];simp
   rw[bF,Ov (l:=l),bF (a:=z) (b:=x)]
theorem Mt:∀{l:List aR}{x:aR},(x :: l).Pairwise (λa b=>¬lI b a)->(x :: ddg x l).Pairwise lI
 |[],x,_=>by simp[ddg]
 | y :: l,x,h=>by
   rw[ddg];rw[AZ]at h;have hy:=h.2;rw[AZ]at hy;split
   ·rename_i e;subst e;exact Mt h.2
   rename_i hne;have ih:=Mt h.2;have hxy:lI x y:=NS λhc=>hne (Hu (h.1 y ss) hc);refine AZ.2 ⟨λz hz=>?_,ih⟩;rcases bF.1 hz with rfl|hz
   ·exact hxy
   exact ZK hxy ((AZ.1 ih).1 z hz)
theorem pn{l:List aR}{z:aR}:z∈ddp l↔z∈l:=by
 cases l with
 |nil=>exact Iff.rfl
 |cons x l=>exact Ov
theorem zHK{l:List aR}(h:l.Pairwise (λa b=>¬lI b a)):(ddp l).Pairwise lI:=by
 cases l with
 |nil=>exact List.Pairwise.nil
 |cons x l=>exact Mt h
def vY(l:List aR):List aR:=l.foldl (λacc r=>uE r acc) []
def tf(l:List aR)(r:aR):vY (l++[r])=uE r (vY l):=by simp[vY]
theorem J4{x:aR}:∀{l acc:List aR},x∈l.foldl (λacc r=>uE r acc) acc↔x∈acc\/x∈l
 |[],acc=>by simp
 | y :: l,acc=>by
   rw[HR,J4,Ib,bF];constructor
   ·rintro((h|h)|h)<;>simp[h]
   rintro(h|h|h)<;>simp[h]
def bf{l:List aR}:x∈vY l↔x∈l:=by unfold vY;rw[J4];simp
theorem b7:∀{l acc:List aR},acc.Pairwise lI->(l.foldl (λacc r=>uE r acc) acc).Pairwise lI
 |[],acc,h=>h
 | y :: l,acc,h=>by
   rw[HR];exact b7 (D2 h)
def oz(l:List aR):(vY l).Pairwise lI:=b7 List.Pairwise.nil
theorem L4(r:aR):∀l:List aR,(uE r l).length<=l.length+1
 |[]=>by simp[uE]
 | x :: l=>by
   have:=L4 r l;rw[uE];split
   ·simpa using this
   split<;>simp
theorem ak:∀(l acc:List aR),(l.foldl (λacc r=>uE r acc) acc).length<=acc.length+l.length
 |[],acc=>by simp
 | y :: l,acc=>by
   have h1:=ak l (uE y acc);have h2:=L4 y acc;rw[HR,dA];omega
def Pp(l:List aR):(vY l).length<=l.length:=by have:=ak l [];simpa[vY]using this
def zF3(l:List aR):ddp (srt l)=vY l:=cq (zHK (iq l)) (oz l) λx=>by rw[pn,bf,(s9 l).mem_iff]
def ZP{α β:Type}{f:α->List β}{l:List α}(h:k<l.length):(l.take (k+1)).flatMap f=(l.take k).flatMap f++f l[k]:=by
 rw[tk h,vW];simp
def Ep{β:Type}{f:Nat->List β}(n:Nat):(List.range (n+1)).flatMap f=(List.range n).flatMap f++f n:=by
 rw[HA,vW];simp
theorem X4{c:aF}{a held:Int}{i:bH}{x:bP}:∀{k:Nat},x∈tQ c a held i k->x.at_=a/\x.held=held
 |0,h=>by simp[tQ]at h
 | k+1,h=>by
   rw[tQ,dF,dF]at h;rcases h with(h|h)|h
   ·exact X4 h
   ·split at h
    ·simp only[bF,dL,dI]at h;subst h;exact⟨rfl,rfl⟩
    simp at h
   split at h
   ·simp only[bF,dL,dI]at h;subst h;exact⟨rfl,rfl⟩
   simp at h
def VC{a held:Int}{x:bP}(h:x∈CA c a held):x.at_=a/\x.held=held:=by
 unfold CA at h;split at h
 ·exact X4 h
 simp at h
def sC(c:aF)(r p i:Nat):Prop:=dE c p i/\(bO c i).op=5/\bS c i=r
noncomputable def yK(c:aF)(r:Nat):List Nat:=(cC c.P.length (bU c)).flatMap λp=>cC c.I.length (sC c r p)
theorem zt1{p q:Nat->Prop}{f:Nat->Bool}(h:∀ i,i<n->(f i=true↔q i)):(cC n p).filter f=cC n λi=>p i/\q i:=by
 induction n with
 |zero=>rfl
 | succ n ih=>
   have ih:=ih λi _=>h i oo;by_cases hp:p n
   ·rw[AS hp,JL,ih];by_cases hq:q n
    ·rw[AS ⟨hp,hq⟩];simp[(h n oo).2 hq]
    rw[xU λe=>hq e.2]
    have:f n=false:=by
      cases e:f n
      ·rfl
      exact absurd ((h n oo).1 e) hq
    simp[this]
   rw[xU hp,xU λe=>hp e.1,ih]
theorem SY{α β:Type}{f:α->List β}{B:Nat}:∀{l:List α},(∀a∈l,(f a).length<=B)->(l.flatMap f).length<=l.length*B
 |[],_=>by simp
 | a :: l,h=>by
   have h1:=h a ss;have h2:=SY (l:=l) λb hb=>h b (by simp[hb]);simp only[vE,bX,dA,xM];omega
def Q0(hc:aM c){r i:Nat}(h:i∈yK c r):i<c.I.length:=by
 unfold yK at h;obtain⟨_,_,h⟩:=wM.1 h;exact(mG.1 h).1
def am(hW:tI W0 b c)(e0:aB W0 w)(hc:aM c) :
   aJ tp 265 [pT b 0,iV (rL c:Nat),iV 5,iV r] w λv w'=>aB w w'/\eG w.heap.size w' v (bN (yK c r)):=by
 refine co (g:=kf [] [(3,576460752303303168,[9,17]),(6,288230376118166016,[9,25])] []) Tryz.func265 ?_;have h8:=hc.1.p8;have gy:=hc.f.I;have gj:rL c<256:=uW h8.1;refine(JO (m:=rL c) oo).mono ?_;rintro _ w1 ⟨g0,g1⟩;unfold rL at g1;rw[MT oo]at g1;have gz:∀p∈cC c.P.length (bU c),p<c.P.length:=λp hp=>(mG.1 hp).1;have hul:=pC (n:=c.P.length) (p:=bU c);unfold yK;generalize cC c.P.length (bU c)=U at *;refine aX bG g1.is ?_;rw[cB]
 have gA:∀k,((U.take k).flatMap λp=>cC c.I.length (sC c r p)).length<=20000:=λk=>by
   have:=SY (l:=U.take k) (f:=λp=>cC c.I.length (sC c r p)) (B:=1500) λ_ _=>eH pC gy;have h2:=YS k U;have:(U.take k).length*1500<=8*1500:=IK _ oo;omega
 refine bV U.length (λk us w'=>∃out,us=[out,iV k]/\k<=U.length/\aB w1 w'/\bQ w1.heap.size w'.heap.size 3 w' out (bN ((U.take k).flatMap λp=>cC c.I.length (sC c r p)))) 0 (z0 _) ⟨_,rfl,z0 _,xx,uC _ _ _ _⟩ ?_;rintro k mk _ w2 _ ⟨out,hu,_,g2,g5⟩;obtain⟨gB,gC⟩:=dQ hu;rw[gB,gC];refine bM<|br (λ_=>?_) λ_=>?_
 case refine_2=>
   have gD:k=U.length:=oo;rw[gD,sF]at g5;exact⟨xx,g5.own.own.mono (by have:=g0.size;omega)⟩
 have hk:k<U.length:=oo;have hp:=gz U[k] (cY _);have gl:=ZP (f:=λp=>cC c.I.length (sC c r p)) hk;refine bC bG aG (i:=k) g1.is (by rw[cB];exact hk) λ_ _ gn=>?_;rw[nI]at gn;generalize U[k]=p at *;refine aS aG gn g2 λ_=>(VB hW.wl xx hc hp).mono ?_;rintro gE _ ⟨g9,gp⟩;have gb:∀i∈cC c.I.length (dE c p),i<c.I.length:=λi hi=>(mG.1 hi).1;have gF:(cC c.I.length (dE c p)).filter (λi=>decide ((bO c i).op=5/\bS c i=r))=cC c.I.length (sC c r p):=zt1 λi hi=>by rw[lZ]
 have hLl:=pC (n:=c.I.length) (p:=dE c p);rw[<-gF]at gl;have hfk:=gA k;generalize cC c.I.length (dE c p)=L at *;generalize (U.take k).flatMap (λp=>cC c.I.length (sC c r p))=Op at *;refine aX bG gp.is ?_;rw[cB];obtain⟨F3,gH,gI⟩:=gp;refine bV L.length (λj us w'=>∃out lo hi,us=[out,iV j]/\j<=L.length/\aB w1 w'/\aZ F3 w' gE (bN L)/\w1.heap.size<=lo/\hi<=w'.heap.size/\bQ lo hi 3 w' out (bN (Op++(L.take j).filter (λi=>decide ((bO c i).op=5/\bS c i=r))))/\∀b∈F3,b<lo\/hi<=b) 0 (z0 _) ⟨out,w1.heap.size,w2.heap.size,rfl,z0 _,xx,gH,lr _,g9.size,by simpa using g5.ext g9,λb hb=>.inr (gI b hb)⟩ ?_;rintro j mj _ _ _ ⟨C,lo,hi,gJ,_,D,M,g3,gc,O,hd⟩;obtain⟨gd,gf⟩:=dQ gJ;rw[gd,gf];refine bM<|br (λ_=>?_) λ_=>?_
 case refine_2=>refine aU<|⟨mk-1,oo,k+1,oo,C,rfl,oo,D,?_⟩;rw[iO oo]at O;rw[gl];exact O.mono g3 gc
 have hj:j<L.length:=oo;have gg:=gb L[j] (cY _);have gq:L.take (j+1)=L.take j++[L[j]]:=tk hj;refine bC bG aG (i:=j) M.is (by rw[cB];exact hj) λ_ _ gr=>?_;rw[nI]at gr
 have gK:(Op++(L.take j).filter (λi=>decide ((bO c i).op=5/\bS c i=r))).length<=100000:=by
   have:=TR (λi=>decide ((bO c i).op=5/\bS c i=r)) (L.take j);have h2:=YS j L;rw[bX];omega
 generalize L[j]=i at *;refine aS aG gr xx λ_=>?_;have g4:=e0.t (g0.t D)
 have gs:¬((bO c i).op=5/\bS c i=r)->(L.take (j+1)).filter (λi=>decide ((bO c i).op=5/\bS c i=r))=(L.take j).filter (λi=>decide ((bO c i).op=5/\bS c i=r)):=λh=>by
   rw[gq,JL];simp[h]
 have gh:((bO c i).op=5/\bS c i=r)->(L.take (j+1)).filter (λi=>decide ((bO c i).op=5/\bS c i=r))=(L.take j).filter (λi=>decide ((bO c i).op=5/\bS c i=r))++[i]:=λh=>by
   rw[gq,JL];simp[h]
 refine bZ.mk rfl<|aE mT<|aE eW<|aL eJ (fV hW.wl.code) g4 λ_ gL=>bC eQ fE (i:=i) gL gg λ_ _ gt=>?_;rw[oM]at gt;refine aE lV<|aS aG (lW gt) g4 λ_=>bI<|br (λh5=>?_) λh5=>?_
 case refine_2=>refine aU<|⟨mj-1,oo,j+1,oo,C,lo,hi,rfl,oo,D,M,g3,gc,by rw[gs λh=>h5 h.1];exact O,hd⟩
 obtain⟨gM,_⟩:=sW hc gg (.inr h5);refine bZ.mk rfl<|aE mT<|aE eW<|aL eJ (fV hW.wl.code) g4 λ_ gN=>bC eQ fE (i:=i) gN gg λ_ _ gx=>?_;rw[oM]at gx;refine aE mE<|aS aG (mF gx) g4 λ_=>bI<|br (λha=>?_) λha=>?_
 case refine_2=>refine aU<|⟨mj-1,oo,j+1,oo,C,lo,hi,rfl,oo,D,M,g3,gc,by rw[gs λh=>ha (by rw[gM,h.2])];exact O,hd⟩
 refine JZ (x:=(i:Int)) bG aG z3 wQ dD O (lo2:=0) (hi2:=0) (DC _ _ io) (by rw[eB,cB];omega) (by rw[cB];omega) λv' w' gO hi2 gi gP _=>?_;have hs7:=gi.size;have hs6:=D.size;refine aU<|⟨mj-1,oo,j+1,oo,v',gO,hi2,rfl,oo,D.xI gi g3,M.keep λb hb=>gi.block b (M.lt b hb) (hd b hb),oo,oo,?_,λb hb=>?_⟩
 ·rw[gh ⟨h5,oo⟩,<-fR,HG];exact gP
 have:=hd b hb;have:=M.lt b hb;omega
def z6(h0:Is W0 v0 c)(e0:aB W0 w)(hc:aM c) :
   aJ tp 243 [v0,iV r] w λv w'=>aB w w'/\eG w.heap.size w' v (bN (yK c r)):=by
 refine co (g:=kf [] [(4,147573952589676405664,[5,7]),(9,147573952581086478880,[5,9])] []) Tryz.func243 ?_;have h8:=hc.1.p8;have gA:=hc.f.I;have he:=hc.2.1.1;refine iR h0 e0 λ_ gq hA=>pR (α:=Int) bG aG λ_ _ gd _=>aL cP hA gd λ_ gB=>(Df gB gd hc).mono ?_;rintro _ w3 ⟨gC,gD⟩;have V:=gd.t gC;have hs1:=gq.size;have gE:=V.size
 have gF:∀k,k<=8->((cC k (bU c)).flatMap λp=>cC c.I.length (sC c r p)).length<=20000:=λk _=>by
   have h1:=SY (l:=cC k (bU c)) (f:=λp=>cC c.I.length (sC c r p)) (B:=1500) λ_ _=>eH pC gA;have h2:=pC (n:=k) (p:=bU c);have:(cC k (bU c)).length*1500<=8*1500:=IK _ oo;omega
 refine bV c.P.length (λk us w'=>∃out,us=[out,iV k]/\k<=c.P.length/\aB w3 w'/\bQ w3.heap.size w'.heap.size 3 w' out (bN ((cC k (bU c)).flatMap λp=>cC c.I.length (sC c r p)))) 0 (z0 _) ⟨_,rfl,z0 _,xx,AY _ _ _ _ _⟩ ?_;rintro p mk _ w4 _ ⟨out,hu,_,g9,gb⟩;obtain⟨gG,gH⟩:=dQ hu;rw[gG,gH];have C:=V.t g9;refine aE lQ<|aL dC (nF hA) C λ_ gI=>aX cL gI<|bM<|br (λ_=>?_) λ_=>?_
 case refine_2=>
   have gJ:p=c.P.length:=oo;rw[gJ]at gb;exact⟨xx,gb.own.own.mono oo⟩
 have hp:p<c.P.length:=oo;have gf:=lY (n:=c.P.length) (p:=bU c) (i:=p);rw[kS (by rw[dZ];exact hp)]at gf;refine bC eY cE (i:=p) gD.is (by rw[dZ];exact hp) λ_ _ gK=>iY cE gK g9<|dG<|bW (λhf=>?_) (λhf=>?_)
 ·have gL:¬bU c p:=λh=>by rw[gf.2 ⟨hp,h⟩]at hf;cases hf
  refine aU<|⟨mk-1,oo,p+1,oo,out,rfl,oo,g9,by rw[xU gL];exact gb⟩
 have hU:bU c p:=(gf.1 (by simpa using hf)).2
 have gr:(cC (p+1) (bU c)).flatMap (λp=>cC c.I.length (sC c r p))=(cC p (bU c)).flatMap (λp=>cC c.I.length (sC c r p))++cC c.I.length (sC c r p):=by
   rw[AS hU,vW];simp
 have hfk:=gF p oo;refine aL cP hA C λ_ gM=>(WD gM C hc (by rw[he];exact hp)).mono ?_;rintro gs w5 ⟨gc,gN⟩;have g2:=C.t gc;obtain⟨gO,_,_⟩:=vM hc (p:=p) (by rw[he];exact hp);obtain⟨_,gP,_⟩:=yF hc hp;have hze:=(HM hc (p:=p) (by rw[he];exact hp)).2.1
 have gt:∀i,dE c p i->eN c p<=i/\i<=zN c p:=λi hi=>by
   have h1:=rB hc (by rw[he];exact hp) hi;obtain⟨q,_,_,h4⟩:=LR hc h1.1;have:q=p:=by have:=h1.2;omega
   subst this;exact h4
 have gQ:cC (eN c p) (sC c r p)=[]:=by
   rw[Fs (n:=0) (z0 _) λi _ h2 hs=>by have:=gt i hs.1;omega];rfl
 have gR:cC c.I.length (sC c r p)=cC (zN c p+1) (sC c r p):=Fs oo λi h1 _ hs=>by have:=gt i hs.1;omega
 rw[gR]at gr;refine aE kJ<|aL dT (lJ hA) g2 λ_ gS=>bC bG aG (i:=p) gS (by rw[he];exact hp) λ_ _ gT=>aS aG gT g2 λ_=>?_;rw[mP,gO];generalize hOp:(cC p (bU c)).flatMap (λp=>cC c.I.length (sC c r p))=Op at *;obtain⟨F5,gU,gV⟩:=gN;have gW:bQ w3.heap.size w4.heap.size 3 w5 out (bN (Op++cC (eN c p) (sC c r p))):=by rw[gQ];simpa using gb.ext gc
 refine bV (zN c p+1) (λj us w'=>∃out lo hi,us=[out,iV j]/\eN c p<=j/\j<=zN c p+1/\aB w3 w'/\aZ F5 w' gs (cZ c.I.length (dE c p))/\w3.heap.size<=lo/\hi<=w'.heap.size/\bQ lo hi 3 w' out (bN (Op++cC j (sC c r p)))/\∀b∈F5,b<lo\/hi<=b) (eN c p) oo ⟨out,w3.heap.size,w4.heap.size,rfl,lr _,oo,xx,gU,lr _,gc.size,gW,λb hb=>.inr (gV b hb)⟩ ?_;rintro i mj _ _ _ ⟨Z,lo,hi,gX,gx,_,gy,gY,gh,_,gZ,hd⟩;obtain⟨gi,gj⟩:=dQ gX;rw[gi,gj];have g0:=V.t gy;refine aL cP hA g0 λ_ h6=>(NU h6 g0 (p:=(p:Int)) oo oo hc.2.1.nonneg).mM λw7 g3=>?_;rw[gP];have M:=g0.t g3;have O:=gy.t g3;have g4:=gY.ext g3;have gl:=gZ.ext g3;have h9:=g3.size;refine tR<|br (λ_=>?_) λ_=>?_
 case refine_2=>
   have gx:i=zN c p+1:=oo;refine aU<|⟨mk-1,oo,p+1,oo,Z,rfl,oo,O,?_⟩;rw[gr,<-gx];exact gl.mono gh oo
 have g1:i<c.I.length:=oo
 have hg:(Op++cC i (sC c r p)).length<=100000:=by
   have:=pC (n:=i) (p:=sC c r p);rw[bX];omega
 have gn:=lY (n:=c.I.length) (p:=dE c p) (i:=i);rw[kS (by rw[dZ];exact g1)]at gn
 have D:¬sC c r p i->∃m',m'<mj/\∃k',k'+m'=zN c p+1/\∃out lo hi,[Z,Value.int .i64 ((i+1:Nat):Int)]=[out,iV k']/\eN c p<=k'/\k'<=zN c p+1/\aB w3 w7/\aZ F5 w7 gs (cZ c.I.length (dE c p))/\w3.heap.size<=lo/\hi<=w7.heap.size/\bQ lo hi 3 w7 out (bN (Op++cC k' (sC c r p)))/\∀b∈F5,b<lo\/hi<=b:=λhn=>
   ⟨mj-1,oo,i+1,oo,Z,lo,hi,rfl,oo,oo,O,g4,gh,oo,by rw[xU hn];exact gl,hd⟩
 refine bC eY cE (i:=i) g4.is (by rw[dZ];exact g1) λ_ _ hh=>iY cE hh xx<|bW (λhf=>?_) (λhf=>?_)
 case refine_2=>refine aU<|D λh=>by rw[gn.2 ⟨g1,h.1⟩]at hf;cases hf
 have hL:=(gn.1 hf).2;refine aE eW<|aL eJ (fV hA) M λ_ hj=>bC eQ fE (i:=i) hj g1 λ_ _ gz=>?_;rw[oM]at gz;refine aE lV<|aS aG (lW gz) M λ_=>bI<|br (λh5=>?_) λh5=>?_
 case refine_2=>refine aU<|D λh=>h5 h.2.1
 obtain⟨hk,_⟩:=sW hc g1 (.inr h5);refine aE eW<|aL eJ (fV hA) M λ_ hl=>bC eQ fE (i:=i) hl g1 λ_ _ g5=>?_;rw[oM]at g5;refine aE mE<|aS aG (mF g5) M λ_=>bI<|br (λha=>?_) λha=>?_
 case refine_2=>refine aU<|D λh=>ha (by rw[hk,h.2.2])
 refine JZ (x:=(i:Int)) bG aG z3 wQ dD gl (lo2:=0) (hi2:=0) (DC _ _ io) (by rw[eB,cB];omega) (by rw[cB];omega) λv' w' hq hi2 gp hr _=>?_;have hs8:=gp.size;have ht:=O.size;refine aU<|⟨mj-1,oo,i+1,oo,v',hq,hi2,rfl,oo,oo,O.xI gp gh,g4.keep λb hb=>gp.block b (g4.lt b hb) (hd b hb),oo,oo,?_,λb hb=>?_⟩
 ·rw[AS (⟨hL,h5,oo⟩:sC c r p i),<-fR,HG];exact hr
 have:=hd b hb;have:=g4.lt b hb;omega
def zqy{l:List Int}(hk:k<l.length)(h:y∉l.take k)(c:¬l[k]=y):y∉l.take (k+1):=by
 rw[tk hk];simp only[dF,bF,dL,dI,not_or];exact⟨h,λe=>c e.symm⟩
def zAy{l:(List Int)} (h0:Is W0 v0 l)(e0:aB W0 w)  :
   aJ tp 245 [v0,iV y] w λr w'=>aB w w'/\(r=.bool (decide (y∈l))):=by
 refine co (g:=kf [] [(2,262128,[5])] []) Tryz.func245 ?_;refine bV (l.length) (λk us w'=>us=[iV k]/\aB w w'/\(y∉l.take k)) (0) oo ⟨ss,xx,ss⟩ ?_;rintro k m2 _ _ _ ⟨hu,y1,C⟩;try replace hu:=cJ hu
 try rw[hu]
 try clear hu
 have g0:=fD h0;refine aX bG h0<|bM<|br (λc1=>?_) λc1=>?_
 ·refine bC bG aG h0 oo λ_ _ g1=>?_;refine aS aG g1 xx λ_=>bI<|br (λc2=>?_) λc2=>?_
  ·refine⟨y1,?_⟩;have:y∈l:=c2▸cY _;simp[this]
  refine aU<|⟨m2-1,oo,k+1,oo,ss,y1,?_⟩;exact zqy oo C c2
 refine⟨y1,?_⟩;rw[iO oo]at C;simp[C]
def Xh(h:At W0 b 0 c)(hx:aB W0 w):GO W0 w b c:=by
 obtain⟨F,cs,hr,hc⟩:=h;have hl:=Rep.len hr;have hp:0<cs.length:=by rw[hl];exact Rep.pos
 have g0:=yV hc hx;refine⟨F,cs,hr,g0,NS λ_=>?_⟩;have:=g0 0 cs[0] (List.getElem?_eq_getElem hp);simp only[World.cell?]at this;rw[Array.getElem?_eq_none oo]at this;cases this
def ze{b a:Nat}(hW:tI W0 b c)(e0:aB W0 w)(hc:aM c)(ha:a<c.I.length) :
   aJ tp 266 [pT b 0,iV a] w λv w'=>aB w w'/\eG w.heap.size w' v (cZ c.I.length (RP (cQ c) a)):=by
 refine co (g:=kf [] [] []) Tryz.func266 ?_;have hil:=hc.f.I;refine bZ.mk rfl<|aE mT<|aE eW<|aL eJ (fV hW.wl.code) e0 λ_ g1=>aX eQ g1 ?_;have g2:=Xh hW.wl.code e0;have hbl:=g2.lt;refine JC oo oo λ_ g0 g3=>?_;have e0s:=e0.size;refine(Zv (Xh hW.wl.code xx) xx hc rfl ha g3 ss oo oo λi hi=>absurd hi GY).mono ?_;rintro _ _ ⟨rfl,g4,g5⟩;refine⟨g0.xI g4 (lr _),[w.heap.size],?_,λb hb=>by simp at hb;omega⟩;have:(cZ c.I.length λi=>cN (List.replicate c.I.length false) i\/RP (cQ c) a i)=cZ c.I.length (RP (cQ c) a):=rA λi _=>⟨λh=>h.resolve_left GY,.inr⟩;rw[<-this];exact g5
def Yh(hW:tI W0 b c)(e0:aB W0 w)(hr:r<c.P.length) :
   aJ tp 264 [pT b 0,iV r] w λv w'=>aB w w'/\v=.bool true:=by
 refine co (g:=kf [] [] []) Tryz.func264 ?_;refine pD<|br (λ_=>?_) (λ_=>oo);refine bZ.mk rfl<|aE mT<|aE lQ<|aL dC (nF hW.wl.code) e0 λ_ g0=>aX cL g0<|bM<|⟨xx,by simp;omega⟩
def UA(c:aF)(r a:Nat):Prop:=yK c r=[a]/\eC c a=(mH c:Int)/\¬RP (cQ c) a a/\yK c (mH c)=[]/\¬ ∃p,bU c p/\rY c p 4 (mH c)
def rT(c:aF)(r:Nat):Prop:=(r=mH c/\yK c r=[])\/(r≠mH c/\∃a,UA c r a)
noncomputable instance(c:aF)(r:Nat):Decidable (rT c r):=Classical.propDecidable _
def TN:rT c (mH c)↔yK c (mH c)=[]:=
 ⟨λh=>h.elim (·.2) λh=>absurd rfl h.1,λh=>.inl ⟨rfl,h⟩⟩
def Dk(hr:r≠mH c):rT c r↔∃a,UA c r a:=
 ⟨λh=>h.elim (λh=>absurd h.1 hr) (·.2),λh=>.inr ⟨hr,h⟩⟩
def Yv{l:List Nat}:((l.length:Int)=0)↔l=[]:=by
 rw[<-JR];omega
def Wq:(rL c).testBit p=true↔p<c.P.length/\bU c p:=nW
def P6:(sD c).testBit p=true↔p<c.P.length/\bE c p:=nW
def cc(hc:aM c){p:Nat}(h:bU c p):p<c.P.length:=by
 obtain⟨_,hr,hf⟩:=h;exact hf.lt (hr.lt hc)
def ri(hc:aM c){q:Nat}(hq:q<c.P.length):(pN (cls c 4) (iK (rL c))).testBit q=true↔∃p,bU c p/\rY c p 4 q:=by
 have:=hc.1.p8;rw[WQ (m:=rL c) (n:=c.P.length) RJ oo];constructor
 ·rintro⟨i,h1,h2,h3⟩;exact⟨i,(Wq.1 h2).2,((RA h1).1 h3).2⟩
 rintro⟨i,h1,h2⟩;have hi:=cc hc h1;exact⟨i,hi,Wq.2 ⟨hi,h1⟩,(RA hi).2 ⟨hq,h2⟩⟩
def Sp(hW:tI W0 b c)(e0:aB W0 w)(hc:aM c) :
   aJ tp 214 [pT b 0,iV (mH c:Nat)] w λv w'=>aB w w'/\v=.bool (decide (rT c (mH c))):=by
 refine co (g:=kf [] [] [(7,[0,1,2,3,4,5,6,7,8,9,10,12,11,13,14,15,16,17,18,19,21,22,23,20,24,25,26],1050624),(9,[0,1,2,3,4,5,6,7,8,9,10,11,13,12,14,15,16,17],4096)]) Tryz.func214 ?_;have h8:=hc.1.p8;have g1:=(IJ hc).2;have:sD c<256:=uW h8.1;refine(Yh hW e0 g1).mM λ_ g2=>dG<|bW (λh=>by cases h) λ_=>?_;refine bZ.mk rfl<|aE OQ<|aS aG hW.roots xx λ_=>(QN (m:=sD c) (i:=mH c) oo oo).mM λ_ g3=>?_;rw[P6.2 ⟨g1,.main⟩];refine dG<|bW (λh=>by cases h) λ_=>?_;have g0:=g2.t g3;refine(Mo (hW.wl.code.ext xx) hc).mM λ_ g4=>?_;have C:=g0.t g4;refine bZ.mk rfl<|aE ON<|aS aG hW.used xx λ_=>(am (r:=mH c) hW xx hc).mono λ_ _⟨g5,g9⟩=>bI<|br (λ_=>?_) (λh=>absurd rfl h);refine aX bG g9.is<|bI ?_;rw[cB];exact⟨xx,by congr 1;rw[decide_eq_decide,TN,Yv]⟩
def ql(hW:tI W0 b c)(e0:aB W0 w)(hc:aM c)(hr:bE c r) :
   aJ tp 214 [pT b 0,iV r] w λv w'=>aB w w'/\v=.bool (decide (rT c r)):=by
 by_cases hm:r=mH c
 ·subst hm;exact Sp hW e0 hc
 refine co (g:=kf [] [] [(7,[0,1,2,3,4,5,6,7,8,9,10,12,11,13,14,15,16,17,18,19,21,22,23,20,24,25,26],1050624),(9,[0,1,2,3,4,5,6,7,8,9,10,11,13,12,14,15,16,17],4096)]) Tryz.func214 ?_;have h8:=hc.1.p8;have gA:=(IJ hc).2;have gl:=hr.lt hc;have gn:sD c<256:=uW h8.1;have g0:rL c<2^c.P.length:=RJ;refine(Yh hW e0 gl).mM λ_ gp=>dG<|bW (λh=>by cases h) λ_=>?_;refine bZ.mk rfl<|aE OQ<|aS aG hW.roots xx λ_=>(QN (m:=sD c) (i:=r) oo oo).mM λ_ gB=>?_;rw[P6.2 ⟨gl,hr⟩];refine dG<|bW (λh=>by cases h) λ_=>?_;have g1:=gp.t gB;refine(Mo (hW.wl.code.ext xx) hc).mM λ_ gC=>?_;have O:=g1.t gC;refine bZ.mk rfl<|aE ON<|aS aG hW.used xx λ_=>(am (r:=r) hW xx hc).mono λgD gq⟨gE,gF⟩=>bI<|br (λh=>absurd oo hm) λ_=>?_;have gr:=cO gq;have D:=O.t (gE.t gr);have gd:=gF.is.ext gr;generalize World.drew1 gq=w4 at *;have g2:=λa(ha:a∈yK c r)=>Q0 hc ha;have M:(¬ ∃a,UA c r a)->Value.bool false=.bool (decide (rT c r)):=λh=>by rw[decide_eq_false λh2=>h ((Dk hm).1 h2)]
 refine aX bG gd<|fP ?_;rw[cB];refine br (λgf=>?_) λgG=>?_
 ·exact⟨D,M λ⟨a,h⟩=>gf (by rw[h.1];rfl)⟩
 have gH:(yK c r).length=1:=by have:=eK.1 gG;omega
 obtain⟨a,ha⟩:∃a,yK c r=[a]:=IR.1 gH;have g9:a<c.I.length:=g2 a (by rw[ha];simp);rw[ha]at gd
 have V:∀{w:wD}{K:vL->Prop},aB w4 w->(K (iV a))->RD tp (Instr.indexAt 31 gD (iV 0)) w λx=>RD tp (Instr.loadAt 3 x) w K:=λhx kk=>by
   refine bC bG aG (i:=0) gd (by simp[bN]) λ_ _ gs=>?_;rw[show(bN [a])[0]'(by simp[bN])=(a:Int)from rfl]at gs;exact aS aG gs hx λ_=>kk
 have g3:∀a',UA c r a'->a'=a:=λa' h=>by have:=h.1;rw[ha]at this;simpa using this.symm
 refine bZ.mk rfl<|aE mT<|aL cP hW.wl.code xx λ_ gI=>V xx<|(J1 (a:=(a:Int)) gI xx hc oo oo).mM λ_ gb=>?_;refine⟨gb,?_⟩;have Z:=D.t gb;refine fP<|br (λgf=>?_) λgg=>?_
 ·exact⟨Z,M λ⟨a',h⟩=>gf (by have:=g3 a' h;subst this;exact h.2.1)⟩
 refine V gb<|V gb<|(ze (a:=a) hW xx hc g9).mono ?_;rintro _ w6 ⟨gt,gJ⟩;refine⟨gt,?_⟩;have g4:=Z.t gt;have gh:=lY (n:=c.I.length) (p:=RP (cQ c) a) (i:=a);rw[kS (by rw[dZ];exact g9)]at gh;refine bC eY cE (i:=a) gJ.is (by rw[dZ];exact g9) λ_ _ gK=>iY cE gK xx<|bW (λgc=>?_) (λgc=>?_)
 ·exact⟨g4,M λ⟨a',h⟩=>by have:=g3 a' h;subst this;exact h.2.2.1 (gh.1 gc).2⟩
 have gL:¬RP (cQ c) a a:=λh=>by rw[gh.2 ⟨g9,h⟩]at gc;cases gc
 have gi:=cO w6;have g5:=g4.t gi;generalize World.drew1 w6=w7 at *;refine(Sp hW xx hc).mM λ_ gM=>?_;refine br (λg2=>?_) λg2=>?_
 case refine_2=>exact⟨(g5.t gM),M λ⟨a',h⟩=>g2 (TN.2 h.2.2.2.1)⟩
 refine bZ.mk rfl<|aE Cd<|aL dT hW.calls xx λ_ gN=>bZ.mk rfl<|aE ON<|aS aG hW.used xx λ_=>?_
 have gx:∀x∈cls c 4,x<256:=λx hx=>by
   obtain⟨p,_,rfl⟩:=sT.1 hx;exact uW h8.1
 refine(Ce (m:=rL c) gN xx gx (by rw[KY];omega) (by rw[KY];exact g0)).mono ?_;rintro _ _ ⟨gy,rfl⟩;refine⟨gy,?_⟩;have gz:=Cu gx (iK (rL c));refine(QN (m:=pN (cls c 4) (iK (rL c))) (i:=mH c) oo oo).mM λ_ gj=>dG<|⟨xx,?_⟩;have gO:=ri hc gA
 have:rT c r↔¬(pN (cls c 4) (iK (rL c))).testBit (mH c)=true:=by
   rw[Dk hm,gO];constructor
   ·rintro⟨a',h⟩;exact h.2.2.2.2
   intro h;exact⟨a,ha,eK.1 gg,gL,TN.1 g2,h⟩
 congr 1;cases hb:(pN (cls c 4) (iK (rL c))).testBit (mH c)
 ·rw[decide_eq_true (this.2 (by rw[hb];simp))];rfl
 rw[decide_eq_false (λh=>this.1 h hb)];rfl
def Th(h0:Is W0 v0 c)(e0:aB W0 w)(hc:aM c) :
   aJ tp 178 [v0,iV (mH c:Nat)] w λv w'=>aB w w'/\v=.bool (decide (rT c (mH c))):=by
 refine co (g:=kf [] [(9,1180587117117783933200,[8])] [(5,[0,1,2,3,4,5,6,7,9,8,10,11,12,13,14,15,16,18,19,20,17,21,22,23,24,25,26,27,28,29],131328)]) Tryz.func178 ?_;have g1:=IJ hc;refine iR h0 e0 λ_ g2 hA=>aL cP hA xx λ_ h9=>(ZE h9 xx).mM λ_ g0=>?_;rw[g1.1];refine aL cP hA g0 λ_ g3=>(z6 (r:=mH c) g3 g0 hc).mono λ_ _⟨g4,g5⟩=>bI<|br (λ_=>?_) (λh=>absurd rfl h);refine aX bG g5.is<|bI ?_;rw[cB];exact⟨xx,by congr 1;rw[decide_eq_decide,TN,Yv]⟩
def pj(h0:Is W0 v0 c)(e0:aB W0 w)(hc:aM c) :
   aJ tp 178 [v0,iV r] w λv w'=>aB w w'/\v=.bool (decide (rT c r)):=by
 by_cases hm:r=mH c
 ·subst hm;exact Th h0 e0 hc
 refine co (g:=kf [] [(9,1180587117117783933200,[8])] [(5,[0,1,2,3,4,5,6,7,9,8,10,11,12,13,14,15,16,18,19,20,17,21,22,23,24,25,26,27,28,29],131328)]) Tryz.func178 ?_;have h8:=hc.1.p8;have he:=hc.2.1.1;have gx:=IJ hc;refine iR h0 e0 λ_ g3 hA=>aL cP hA xx λ_ h9=>(ZE h9 xx).mM λ_ gh=>?_;rw[gx.1];refine aL cP hA gh λ_ gC=>(z6 (r:=r) gC gh hc).mono λgD w3⟨gE,gF⟩=>bI<|br (λh=>absurd oo hm) λ_=>?_;have gy:=cO w3;have M:=gh.t (gE.t gy);have gi:=gF.is.ext gy;generalize World.drew1 w3=w4 at *;have g4:=λa(ha:a∈yK c r)=>Q0 hc ha;have D:(¬ ∃a,UA c r a)->Value.bool false=.bool (decide (rT c r)):=λh=>by rw[decide_eq_false λh2=>h ((Dk hm).1 h2)]
 refine aX bG gi<|fP ?_;rw[cB];refine br (λgj=>?_) λgG=>?_
 ·exact⟨xx,D λ⟨a,h⟩=>gj (by rw[h.1];rfl)⟩
 have gH:(yK c r).length=1:=by have:=eK.1 gG;omega
 obtain⟨a,ha⟩:∃a,yK c r=[a]:=IR.1 gH;have gd:a<c.I.length:=g4 a (by rw[ha];simp);rw[ha]at gi
 have g2:∀{w:wD}{K:vL->Prop},aB w4 w->(K (iV a))->RD tp (Instr.indexAt 31 gD (iV 0)) w λx=>RD tp (Instr.loadAt 3 x) w K:=λhx kk=>by
   refine bC bG aG (i:=0) gi (by simp[bN]) λ_ _ gz=>?_;rw[show(bN [a])[0]'(by simp[bN])=(a:Int)from rfl]at gz;exact aS aG gz hx λ_=>kk
 have g5:∀a',UA c r a'->a'=a:=λa' h=>by have:=h.1;rw[ha]at this;simpa using this.symm
 refine aL cP hA M λ_ gI=>g2 xx<|(VP (a:=(a:Int)) gI M).mM λ_ gf=>?_;refine⟨gf,?_⟩;have O:=M.t gf;refine fP<|br (λgj=>?_) λgl=>?_
 ·exact⟨xx,D λ⟨a',h⟩=>gj (by have:=g5 a' h;subst this;exact h.2.1)⟩
 refine aL cP hA O λ_ gJ=>g2 gf<|g2 gf<|(yr (a:=a) gJ O hc gd).mono ?_;rintro _ _ ⟨gA,gK⟩;refine⟨gA,?_⟩;have V:=O.t gA;have gn:=lY (n:=c.I.length) (p:=RP (cQ c) a) (i:=a);rw[kS (by rw[dZ];exact gd)]at gn;refine bC eY cE (i:=a) gK.is (by rw[dZ];exact gd) λ_ _ gL=>iY cE gL xx<|bW (λgg=>?_) (λgg=>?_)
 ·exact⟨xx,D λ⟨a',h⟩=>by have:=g5 a' h;subst this;exact h.2.2.1 (gn.1 gg).2⟩
 have gM:¬RP (cQ c) a a:=λh=>by rw[gn.2 ⟨gd,h⟩]at gg;cases gg
 refine aL cP hA V λ_ gN=>(Th gN V hc).mM λ_ gO=>?_;have Z:=V.t gO;refine mL<|br (λg4=>?_) λg4=>?_
 ·exact⟨xx,D λ⟨a',h⟩=>g4 (TN.2 h.2.2.2.1)⟩
 have gp:=eK.1 g4;refine aL cP hA Z λ_ gP=>(Df gP Z hc).mono ?_;rintro _ w9 ⟨gQ,gR⟩;have gq:=Z.t gQ;refine bV c.P.length (λk us w'=>us=[iV k]/\k<=c.P.length/\aB w9 w'/\∀p,p<k->bU c p->¬rY c p 4 (mH c)) 0 (z0 _) ⟨rfl,z0 _,xx,λp h=>oo⟩ ?_;rintro p mk _ _ _ ⟨hu,_,g0,hD⟩;try replace hu:=cJ hu
 rw[hu];have C:=gq.t g0;refine aE lQ<|aL dC (nF hA) C λ_ gS=>aX cL gS<|bM<|br (λ_=>?_) λ_=>?_
 case refine_2=>have:rT c r:=(Dk hm).2 ⟨a,ha,eK.1 gl,gM,TN.1 gp,λ⟨p,h1,h2⟩=>hD p (by have:=cc hc h1;omega) h1 h2⟩;exact⟨xx,by rw[decide_eq_true this]⟩
 have hp:p<c.P.length:=oo
 have g1:(bU c p->¬rY c p 4 (mH c))->∀q,q<p+1->bU c q->¬rY c q 4 (mH c):=λh q _=>by
   by_cases e:q=p
   ·subst e;exact h
   exact hD q oo
 have gr:=lY (n:=c.P.length) (p:=bU c) (i:=p);rw[kS (by rw[dZ];exact hp)]at gr;refine bC eY cE (i:=p) gR.is (by rw[dZ];exact hp) λ_ _ gs=>iY cE gs g0<|bW (λhf=>?_) (λhf=>?_)
 case refine_2=>refine aU<|⟨mk-1,oo,p+1,oo,rfl,oo,g0,g1 λh=>by rw[gr.2 ⟨hp,h⟩]at hf;cases hf⟩
 have hU:=(gr.1 hf).2;refine aL cP hA C λ_ gT=>(Ms (p:=p) gT C hc (by rw[he];exact hp) (.inl rfl)).mono ?_;rintro _ _ ⟨g9,gt⟩;refine(zAy (y:=(mH c:Nat)) gt.is xx).mM λ_ gb=>?_;have gc:=C.t (g9.t gb)
 have gB:((mH c:Nat):Int)∈bN (cC c.P.length (rY c p 4))↔rY c p 4 (mH c):=by
   unfold bN;rw[sT];constructor
   ·rintro⟨x,hx,e⟩;have:x=mH c:=oo;subst this;exact(mG.1 hx).2
   intro h;exact⟨_,mG.2 ⟨gx.2,h⟩,rfl⟩
 refine br (λhy=>?_) λgU=>?_
 ·exact⟨xx,D λ⟨a',h⟩=>h.2.2.2.2 ⟨p,hU,gB.1 hy⟩⟩
 refine aU<|⟨mk-1,oo,p+1,oo,rfl,oo,xx,g1 λ_ h=>gU (gB.2 h)⟩
noncomputable def OF(c:aF):Nat:=eM (λr=>bE c r/\rT c r) c.P.length
def Lb(c:aF)(i r:Nat):Prop:=HJ c i/\bE c r/\bL c r (eC c i).toNat
noncomputable def sX(c:aF)(i:Nat):Nat:=eM (Lb c i) c.P.length
def Oh(hc:aM c)(i:Nat):sX c i<256:=uW hc.1.p8.1
def zd(hc:aM c):OF c<256:=uW hc.1.p8.1
def oH(U:List Nat)(P:Nat->Prop)(k m:Nat):Prop:=m<256/\∀r,m.testBit r=true↔r∈U.take k/\P r
def oH.yes{U:List Nat}{P:Nat->Prop}(h:oH U P k m)(hk:k<U.length)(h8:U[k]<8)(hp:P U[k]):oH U P (k+1) (m ||| 2^U[k]):=by
 refine⟨zO (n:=8) h.1 (CX oo h8),λ_=>?_⟩;rw[vA,vB,h.2,BJ hk,AQ,lZ];constructor
 ·rintro(⟨h1,h2⟩|rfl)
  ·exact⟨.inl h1,h2⟩
  exact⟨.inr rfl,hp⟩
 rintro⟨h1|rfl,h2⟩
 ·exact .inl ⟨h1,h2⟩
 exact .inr rfl
def oH.no{U:List Nat}{P:Nat->Prop}(h:oH U P k m)(hk:k<U.length)(hp:¬P U[k]):oH U P (k+1) m:=by
 refine⟨h.1,λ_=>?_⟩;rw[h.2,BJ hk];constructor
 ·rintro⟨h1,h2⟩;exact⟨.inl h1,h2⟩
 rintro⟨h1|rfl,h2⟩
 ·exact⟨h1,h2⟩
 exact absurd h2 hp
def oH.fin{Q P:Nat->Prop}(h:oH (cC n Q) P k m)(hk:(cC n Q).length<=k):m=eM (λr=>Q r/\P r) n:=by
 refine BO λr=>?_;rw[h.2,iO hk,mG];exact⟨λ⟨⟨a,b⟩,d⟩=>⟨a,b,d⟩,λ⟨a,b,d⟩=>⟨⟨a,b⟩,d⟩⟩
def oH.start(U:List Nat)(P:Nat->Prop):oH U P 0 0:=⟨oo,λr=>by simp⟩
def zwT(hW:tI W0 b c)(e0:aB W0 w)(hc:aM c) :
   aJ tp 151 [pT b 0] w λv w'=>aB w w'/\v=iV (OF c:Nat):=by
 refine co (g:=kf [] [(3,33550376,[3,12])] []) Tryz.func151 ?_;have h8:=hc.1.p8;have g3:sD c<256:=uW h8.1;refine bZ.mk rfl<|aE OQ<|aS aG hW.roots e0 λ_=>(JO (m:=sD c) oo).mono ?_;rintro _ w1 ⟨g4,g0⟩;unfold sD at g0;rw[MT oo]at g0;refine aX bG g0.is ?_;rw[cB];have hUl:=pC (n:=c.P.length) (p:=bE c);have gc:∀r∈cC c.P.length (bE c),r<c.P.length/\bE c r:=λr hr=>mG.1 hr;have g1:∀{k m},oH (cC c.P.length (bE c)) (rT c) k m->(cC c.P.length (bE c)).length<=k->m=OF c:=λh hk=>h.fin hk;generalize cC c.P.length (bE c)=U at *;refine bV U.length (λk us w'=>∃m:Nat,us=[iV m,iV k]/\k<=U.length/\aB w1 w'/\oH U (rT c) k m) 0 (z0 _) ⟨0,rfl,z0 _,xx,oH.start _ _⟩ ?_;rintro k mk _ _ _ ⟨m,hu,_,C,hB⟩;obtain⟨gd,gf⟩:=dQ hu;rw[gd,gf];refine bM<|br (λ_=>?_) λ_=>?_
 case refine_2=>rw[g1 hB oo];exact⟨xx,rfl⟩
 have hk:k<U.length:=oo;obtain⟨_,gg⟩:=gc U[k] (cY _);refine bC bG aG (i:=k) g0.is (by rw[cB];exact hk) λ_ _ g5=>?_;rw[nI]at g5;have g2:=λhp=>hB.yes hk oo hp;have gh:=λhp=>hB.no hk hp;generalize U[k]=r at *;refine aS aG g5 C λ_=>?_;have g9:=hB.1;refine(ql (r:=r) hW xx hc gg).mM λ_ gb=>br (λhs=>?_) λhs=>?_
 ·refine sN kK sR oo ?_;refine DM oo ?_;have:2^r<256:=CX (m:=r) (n:=8) oo oo;refine xB oo oo<|aU<|⟨mk-1,oo,k+1,oo,m ||| 2^r,rfl,oo,xx,g2 hs⟩
 refine aU<|⟨mk-1,oo,k+1,oo,m,rfl,oo,xx,gh hs⟩
def xf(hW:tI W0 b c)(e0:aB W0 w)(hc:aM c)(hi:i<c.I.length) :
   aJ tp 150 [pT b 0,iV i] w λv w'=>aB w w'/\v=iV (sX c i:Nat):=by
 refine co (g:=kf [] [(5,36028794871480480,[5,31])] [(7,[0,1,2,3,4,5,6,7,8,9,10,11,12,13],4096)]) Tryz.func150 ?_;have h8:=hc.1.p8;have gd:sD c<256:=uW h8.1;obtain⟨q,hq,gf,_⟩:=LR hc hi;refine bZ.mk rfl<|aE mT<|aL cP hW.wl.code e0 λ_ gp=>(va (a:=(i:Int)) gp e0).mM λ_ C=>mL<|br (λh=>absurd ⟨oo,oo⟩ h) λ_=>?_;refine bZ.mk rfl<|aE Br<|aL lT hW.wl.live xx λ_ gq=>?_;have g4:=lY (n:=c.I.length) (p:=HJ c) (i:=i);rw[kS (by rw[dZ];exact hi)]at g4;refine bC eY cE (i:=i) gq (by rw[dZ];exact hi) λ_ _ gr=>iY cE gr xx<|dG<|bW (λhf=>?_) (λhf=>?_)
 ·have gs:¬HJ c i:=λh=>by rw[g4.2 ⟨hi,h⟩]at hf;cases hf
  have:sX c i=0:=(BO (m:=0) λr=>by simp;exactλ_ h=>gs h.1).symm;rw[this];exact⟨C,rfl⟩
 have hL:HJ c i:=(g4.1 (by simpa using hf)).2;refine bZ.mk rfl<|aE OQ<|aS aG hW.roots xx λ_=>(JO (m:=sD c) oo).mono ?_;rintro _ w2 ⟨gt,g3⟩;unfold sD at g3;rw[MT oo]at g3;refine aX bG g3.is ?_;rw[cB];have hUl:=pC (n:=c.P.length) (p:=bE c);have gx:∀r∈cC c.P.length (bE c),r<c.P.length/\bE c r:=λr hr=>mG.1 hr
 have g5:∀{k m},oH (cC c.P.length (bE c)) (λr=>bL c r q) k m->(cC c.P.length (bE c)).length<=k->m=sX c i:=λh hk=>by
   rw[h.fin hk];unfold sX;refine wN λr _=>?_;unfold Lb;rw[gf];exact⟨λh=>⟨hL,h.1,h.2⟩,λh=>h.2⟩
 generalize cC c.P.length (bE c)=U at *;have g0:=C.t gt;refine bV U.length (λk us w'=>∃m:Nat,us=[iV m,iV k]/\k<=U.length/\aB w2 w'/\oH U (λr=>bL c r q) k m) 0 (z0 _) ⟨0,rfl,z0 _,xx,oH.start _ _⟩ ?_;rintro k mk _ w3 _ ⟨m,hu,_,g9,hB⟩;obtain⟨gy,gz⟩:=dQ hu;rw[gy,gz];refine bM<|br (λ_=>?_) λ_=>?_
 case refine_2=>rw[g5 hB oo];exact⟨xx,rfl⟩
 have hk:k<U.length:=oo;obtain⟨gb,_⟩:=gx U[k] (cY _);refine bC bG aG (i:=k) g3.is (by rw[cB];exact hk) λ_ _ gg=>?_;rw[nI]at gg;have gc:=λhp=>hB.yes hk oo hp;have gA:=λhp=>hB.no hk hp;generalize U[k]=r at *;refine aS aG gg g9 λ_=>?_;have gh:=hB.1;have gB:=cO w3;have g1:=g9.t gB;generalize World.drew1 w3=w4 at *;have e4:=e0.t (g0.t g1);refine bZ.mk rfl<|aE VV<|aL dT hW.frm e4 λ_ gC=>bC bG aG (i:=r) gC (by rw[cB,TM];exact gb) λ_ _ gi=>?_;rw[oQ]at gi;refine aS aG gi e4 λ_=>bZ.mk rfl<|aE mT<|aL cP hW.wl.code e4 λ_ gD=>(J1 (a:=(i:Int)) gD e4 hc oo oo).mM λ_ gj=>?_;refine⟨gj,?_⟩;rw[gf];have gl:=Lt (c:=c) (r:=q) gb;have gn:bD (frs c) r<256:=by rw[Bc gb];exact uW h8.1
 refine(QN (m:=bD (frs c) r) (i:=q) oo oo).mM λ_ gE=>?_;have g2:=g1.t (gj.t gE);refine bW (λhs=>?_) λhs=>?_
 ·refine sN kK sR oo ?_;refine DM oo ?_;have:2^r<256:=CX (m:=r) (n:=8) oo oo;refine xB oo oo<|aU<|⟨mk-1,oo,k+1,oo,m ||| 2^r,rfl,oo,g2,gc (gl.1 hs).2⟩
 refine aU<|⟨mk-1,oo,k+1,oo,m,rfl,oo,g2,gA λh=>by rw[gl.2 ⟨hq,h⟩]at hs;cases hs⟩
variable {F:List Nat}{W0 W1 w w' w0 wb:wD}{b fr hi i j l lo m o p to:Nat}{c:aF}{v v0 v1:vL}{x:aR}
structure bK where
 fr:Int
 to:Int
 at_:Int
def bK.ext_iff{x y:bK}:x=y↔(x.fr=y.fr/\x.to=y.to/\x.at_=y.at_):=⟨λh=>by rw[h];exact⟨rfl,rfl,rfl⟩,λh=>by obtain⟨h0,h1,h2⟩:=h;cases x;cases y;simp only at h0 h1 h2;simp only[h0,h1,h2]⟩
instance:DecidableEq bK:=λx y=>decidable_of_iff (x.fr=y.fr/\x.to=y.to/\x.at_=y.at_) bK.ext_iff.symm
instance:Rep bK:=Rep.via λx=>(x.fr,x.to,x.at_)
def Rw{x:bK}(h:At w b o x):At w b (o+0) x.fr:=qI (α:=Int) (β:=Int×Int) (p:=(x.fr,x.to,x.at_)) h
def J5{x:bK}(h:At w b o x):At w b (o+1) x.to:=qI (α:=Int) (β:=Int) (p:=(x.to,x.at_)) (kE (α:=Int) (β:=Int×Int) (p:=(x.fr,x.to,x.at_)) h)
instance:aV bK:=⟨⟨(aV.zv:Int),(aV.zv:Int),(aV.zv:Int)⟩,aV.zc (Int×Int×Int),λw=>aV.zr (α:=Int×Int×Int) w⟩
instance:dN bK:=⟨λh=>dN.flat (α:=Int×Int×Int) h⟩
def EN(x:bK):List Int:=[x.fr,x.to,x.at_]
def JJ(x y:bK):Int:=GC (EN x) (EN y)
def zAD{x y:bK}:aJ tp 163 [.agg (i3 x.fr x.to x.at_),.agg (i3 y.fr y.to y.at_)] w λr w'=>r=iV (JJ x y)/\NV w w':=by
 refine co (g:=kf [] [] []) Tryz.func163 ?_;refine YE ?_;have g0:cA w.heap.size 199 (w.alloc (.cells (i3 x.fr x.to x.at_) 199)) (vI (EN x)):=heap_alloc_new w _;refine YE ?_;generalize hw1:w.alloc (.cells (i3 x.fr x.to x.at_) 199)=w1 at *;have g1:cA w1.heap.size 199 (w1.alloc (.cells (i3 y.fr y.to y.at_) 199)) (vI (EN y)):=heap_alloc_new w1 _;have g2:=oK w1 (.cells (i3 y.fr y.to y.at_) 199);generalize hw2:w1.alloc (.cells (i3 y.fr y.to y.at_) 199)=w2 at *;have C:=g0.ext g2;refine aE Dz<|cX aG C rfl<|aE Ea<|cX aG C rfl<|aE T2<|cX aG C rfl<|YU bG aG Cb ?_;have g3:=oK w2 (.cells (vI [x.fr,x.to,x.at_]).toArray 3);have g4:cA w2.heap.size 3 (w2.alloc (.cells (vI [x.fr,x.to,x.at_]).toArray 3)) (vI (EN x)):=heap_alloc_new w2 _;generalize hw3:w2.alloc (.cells (vI [x.fr,x.to,x.at_]).toArray 3)=w3 at *;have D:=g1.ext g3;refine aE Dz<|cX aG D rfl<|aE Ea<|cX aG D rfl<|aE T2<|cX aG D rfl<|YU bG aG Cb ?_;have g5:=oK w3 (.cells (vI [y.fr,y.to,y.at_]).toArray 3);have g9:cA w3.heap.size 3 (w3.alloc (.cells (vI [y.fr,y.to,y.at_]).toArray 3)) (vI (EN y)):=heap_alloc_new w3 _;have hg:NV w (w3.alloc (.cells (vI [y.fr,y.to,y.at_]).toArray 3)):=by rw[<-hw3,<-hw2,<-hw1];exact Up _ _ _ _
 refine(Qi (l:=EN x) (m:=EN y) (g4.ext g5) g9 (by simp[EN]) (by simp[EN])).mono ?_;rintro _ _ ⟨rfl,rfl⟩;exact⟨rfl,hg⟩
def oW(x y:bK):Prop:=x.fr<y.fr\/(x.fr=y.fr/\(x.to<y.to\/(x.to=y.to/\x.at_<y.at_)))
def uk{x y:bK}:JJ x y<0↔oW x y:=by
 unfold JJ EN oW;simp only[GC];rcases SS x.fr y.fr with h|h|h
 ·rw[SU h];simp;omega
 ·rw[SP h];rcases SS x.to y.to with h2|h2|h2
  ·rw[SU h2];simp;omega
  ·rw[SP h2];rcases SS x.at_ y.at_ with h3|h3|h3
   ·rw[SU h3];simp;omega
   ·rw[SP h3];simp;omega
   rw[TG h3];simp;omega
  rw[TG h2];simp;omega
 rw[TG h];simp;omega
instance(x y:bK):Decidable (oW x y):=by unfold oW;infer_instance
def ZV(x:bK):¬oW x x:=by unfold oW;omega
def az{x y z:bK}(h:oW x y)(k:oW y z):oW x z:=by unfold oW at *;omega
def Y3{x y:bK}(h:¬oW x y)(k:¬oW y x):x=y:=by
 unfold oW at *;exact bK.ext_iff.2 ⟨oo,oo,oo⟩
theorem C9:∀{l m:List bK},l.Pairwise oW->m.Pairwise oW->(∀x,x∈l↔x∈m)->l=m
 |[],[],_,_,_=>rfl
 |[],y :: m,_,_,h=>by have:=(h y).2 ss;cases this
 |x :: l,[],_,_,h=>by have:=(h x).1 ss;cases this
 | x :: l,y :: m,h1,h2,h=>by
   rw[AZ]at h1 h2
   have hxy:x=y:=by
     rcases bF.1 ((h x).1 ss)with e|hm
     ·exact e
     rcases bF.1 ((h y).2 ss)with e|hl
     ·exact e.symm
     exact absurd (az (h1.1 y hl) (h2.1 x hm)) (ZV x)
   subst hxy;congr 1;refine C9 h1.2 h2.2 λz=>⟨λhz=>?_,λhz=>?_⟩
   ·rcases bF.1 ((h z).1 (by simp[hz]))with rfl|h'
    ·exact absurd (h1.1 z hz) (ZV z)
    exact h'
   rcases bF.1 ((h z).2 (by simp[hz]))with rfl|h'
   ·exact absurd (h2.1 z hz) (ZV z)
   exact h'
instance:Inhabited bK:=⟨⟨0,0,0⟩⟩
def QD(x:bK):List vL:=[iV x.fr,iV x.to,iV x.at_]
def ux:∀{F:List Nat}{w:wD}{cs:List vL}{x:bK},Rep.rep F w cs x->cs=QD x:=by
 intro F w cs x h;obtain⟨_,_,_,_,rfl,rfl,⟨rfl,rfl,_⟩,⟨_,_,_,_,rfl,rfl,⟨rfl,rfl,_⟩,⟨rfl,rfl,_⟩⟩⟩:=h;rfl
def OO{x y:bK}:ltOf JJ x y=decide (oW x y):=by
 unfold ltOf;rw[decide_eq_decide];exact uk
def yb:SWO (ltOf JJ):=by
 refine⟨λx=>?_,λx y z h k=>?_,λx y z h k=>?_⟩
 ·rw[OO,decide_eq_false_iff_not];exact ZV x
 ·rw[OO,lZ]at *;exact az h k
 rw[OO,decide_eq_false_iff_not]at *;intro _;unfold oW at *;omega
def NG(l:List bK):List bK:=l.mergeSort λx y=>!(ltOf JJ) y x
def Oo(l:List bK):(NG l).Perm l:=Jt l _
def ta(l:List bK):(NG l).length=l.length:=(Oo l).length_eq
def yw(l:List bK):(NG l).Pairwise λx y=>¬oW y x:=by
 have:=Nh (le:=λx y=>!(ltOf JJ) y x) (λa b _ _ _=>by
   simp only[OO,xX,decide_eq_false_iff_not]at *;unfold oW at *;omega) (λa b=>by
   simp only[OO,vB,xX,decide_eq_false_iff_not];unfold oW;omega) l
 exact this.imp λh=>by simpa[OO]using h
def zCG{l:List bK}(h:aK lo hi w v l)(hn:l.length<=1073741824) :
   aJ tp 162 [v,.func (.func 163) #[] #[]] w λ_ w'=>aN lo hi w w'/\aK lo hi w' v (NG l):=by
 obtain⟨F,hM,hF⟩:=h;by_cases hne:l=[]
 ·subst hne
  obtain⟨a,cap,hv⟩:∃a cap,v=.slice a 0 cap:=by
    obtain⟨_,⟨a,cap,_,xs,h,_⟩,hv⟩:=hM.own;exact⟨a,cap,by rw[hv,h];rfl⟩
  subst hv;refine⟨(AnyF.slices_SortFunc_none Tryz.sortOrder a cap _ w).mono ?_⟩;rintro e w' ⟨he,rfl⟩;refine⟨_,he,aN.refl _,F,?_,hF⟩;have:NG []=[]:=qC (by rw[ta];rfl);rw[this];exact hM
 obtain⟨b,o,cap,xs,rfl,rfl,h1,h2,g4,g5,g9⟩:=TU hM hne;have g0:=@ux;have hk:∀x,(QD x).length=Rep.size bK:=λ_=>rfl;obtain⟨c,e,g1⟩:=g9;have hb:b<w.heap.size:=(Array.getElem?_eq_some_iff.1 g1).1
 have g2:CmpLays tp 163 #[] QD 3 JJ b o l.toArray.size w:=λm os dk _ x y=>by
   have:=zAD (w:=sortWorldK QD 3 w b o m dk os) (x:=x) (y:=y);obtain⟨h⟩:=this;refine h.mono ?_;rintro e w' ⟨v,he,hv,q,gb,g3⟩;exact⟨by rw[he,hv],q,gb,g3⟩
 refine⟨(AnyQ.slices_SortFunc_total Tryz.sortOrder 3 Tryz.isAgg199 Tryz.sizeOf199 QD (λ_=>rfl) (λx v hv=>by
     simp only[QD,bF,dL,dI]at hv;rcases hv with rfl|rfl|rfl<;>rfl) JJ yb 163 #[] b o cap l.toArray w (XM (ent 163 dD kK)) g2 (Gq g0 hk ⟨c,e,g1⟩ g4 g5) hb so (λx y h k=>by
     rw[OO,decide_eq_false_iff_not]at *;exact Y3 h k)).mono ?_⟩
 rintro _ w' ⟨he,_,os,g3⟩;have hs:=df g0 hk (cap:=cap) g3 ⟨c,e,g1⟩ g4 g5 h1 h2 ss (λx hx=>by simpa[List.mem_mergeSort]using hx);refine⟨_,he,?_,[b],?_,hF⟩
 ·exact hs.1.toI (λi hi=>hF i hi)
 exact hs.2
def tH(c:aF)(fr to i:Nat):Prop:=cD c i/\(bO c i).op=6/\bS c i=to/\fT c i fr
def LZ(fr to i:Nat):bK:=⟨fr,to,i⟩
theorem fT.L(hc:aM c){i l:Nat}(h:fT c i l):l<c.L.length:=by
 induction h with
 |lock hm ho ha hj=>subst ha;exact(yD hc (hm.lt hc) (.inl ho)).2.1
 |pass _ _ _ _ _ ih=>exact ih
 |call _ _ _ ih=>exact ih
 |back _ _ _ _ _ ih=>exact ih
open Classical in
noncomputable def wC(c:aF)(fr to i:Nat):List bK:=if tH c fr to i then[LZ fr to i]else[]
noncomputable def EL(c:aF)(fr to:Nat):List bK:=(List.range c.I.length).flatMap (wC c fr to)
noncomputable def zQ(c:aF)(fr:Nat):List bK:=(List.range c.L.length).flatMap (EL c fr)
noncomputable def iX(c:aF):List bK:=(List.range c.L.length).flatMap (zQ c)
def XK{x:bK}:x∈wC c fr to i↔tH c fr to i/\x=LZ fr to i:=by
 unfold wC;split
 ·rename_i h;simp[h]
 rename_i h;simp[h]
def Ee(hc:aM c){x:bK}:x∈iX c↔∃fr to i,tH c fr to i/\x=LZ fr to i:=by
 unfold iX zQ EL;simp only[wM,rC,XK];constructor
 ·rintro⟨fr,_,to,_,i,_,h⟩;exact⟨fr,to,i,h⟩
 rintro⟨fr,to,i,h,e⟩;have hi:=h.1.lt hc;exact⟨fr,h.2.2.2.L hc,to,h.2.2.1▸(yD hc hi (.inl h.2.1)).2.1,i,hi,h,e⟩
theorem PS{α β:Type}{f:α->List β}{B:Nat}:∀{l:List α},(∀a∈l,(f a).length<=B)->(l.flatMap f).length<=l.length*B
 |[],_=>by simp
 | a :: l,h=>by
   have h1:=h a ss;have h2:=PS (l:=l) λb hb=>h b (by simp[hb]);simp only[vE,bX,dA,xM];omega
def zAE(c:aF)(fr to i:Nat):(wC c fr to i).length<=1:=by unfold wC;split<;>simp
def Zs(c:aF)(fr to k:Nat):((List.range k).flatMap (wC c fr to)).length<=k:=by
 have:=PS (l:=List.range k) λa _=>zAE c fr to a;simpa using this
def Rt(hn:c.I.length<=1500)(fr k:Nat):((List.range k).flatMap (EL c fr)).length<=k*1500:=by
 have:=PS (l:=List.range k) (f:=EL c fr) (B:=1500) λa _=>eH (Zs c fr a _) hn;rw[KJ]at this;exact this
def Py(hn:c.I.length<=1500)(hl:c.L.length<=6)(k:Nat):((List.range k).flatMap (zQ c)).length<=k*9000:=by
 have:=PS (l:=List.range k) (f:=zQ c) (B:=9000) λa _=>by
   have:=Rt hn a c.L.length;unfold zQ;omega
 rw[KJ]at this;exact this
def Ur(hc:aM c):(iX c).length<=54000:=by
 have h6:=hc.1.locks6;exact eH (Py hc.f.I h6 _) oo
def Gt(c:aF):(iX c).Pairwise oW:=by
 unfold iX zQ EL;have hr:∀n,(List.range n).Pairwise (λa b=>a<b):=λn=>Iv;refine SM.2 ⟨λ_ _=>SM.2 ⟨λ_ _=>SM.2 ⟨λ_ _=>?_,(hr _).imp ?_⟩,(hr _).imp ?_⟩,(hr _).imp ?_⟩
 ·unfold wC;split<;>simp
 ·intro a b C x hx y hy;obtain⟨_,rfl⟩:=XK.1 hx;obtain⟨_,rfl⟩:=XK.1 hy;exact .inr ⟨rfl,.inr ⟨rfl,Ac.2 C⟩⟩
 ·intro a b C x hx y hy;simp only[wM,XK]at hx hy;obtain⟨_,_,_,rfl⟩:=hx;obtain⟨_,_,_,rfl⟩:=hy;exact .inr ⟨rfl,.inl (Ac.2 C)⟩
 intro a b C x hx y hy;simp only[wM,XK]at hx hy;obtain⟨_,_,_,_,_,rfl⟩:=hx;obtain⟨_,_,_,_,_,rfl⟩:=hy;exact .inl (Ac.2 C)
def LG(c:aF)(i:Nat)(l:Int):bK:=⟨l,bS c i,i⟩
open Classical in
noncomputable def CY(c:aF)(i:Nat):List bK:=if cD c i/\(bO c i).op=6 then(iK (bD (xL c) i)).map (LG c i)else[]
noncomputable def xS(c:aF)(k:Nat):List bK:=(List.range k).flatMap (CY c)
def l9(hm:m<64){x:Int}:x∈iK m↔∃i:Nat,x=(i:Int)/\m.testBit i=true:=by
 unfold iK;rw[KM];constructor
 ·rintro⟨i,_,h⟩;exact⟨i,h⟩
 rintro⟨i,h,hb⟩;exact⟨i,by have:=ID hm hb;omega,h,hb⟩
theorem Lh(m:Nat):∀k,(uQ m k).Pairwise (λa b=>a<b)
 |0=>by simp[uQ]
 | k+1=>by
   rw[uQ];split
   ·refine ZC.2 ⟨Lh m k,ss,λa ha b hb=>?_⟩;obtain⟨i,hi,rfl,_⟩:=KM.1 ha;simp only[oY]at hb;omega
   exact Lh m k
def Vq{x:bK}(hi:i<c.I.length):x∈CY c i↔∃fr to,tH c fr to i/\fr<6/\x=LZ fr to i:=by
 unfold CY;split
 ·rename_i h;rw[Kx hi];simp only[sT,l9 ED,TE];constructor
  ·rintro⟨_,⟨l,rfl,h6,hm⟩,rfl⟩;exact⟨l,bS c i,⟨h.1,h.2,rfl,hm⟩,h6,rfl⟩
  rintro⟨fr,to,hp,h6,rfl⟩;refine⟨fr,⟨fr,rfl,h6,hp.2.2.2⟩,?_⟩;unfold LG LZ;rw[hp.2.2.1]
 rename_i h;constructor
 ·intro h;cases h
 rintro⟨fr,to,hp,_⟩;exact absurd ⟨hp.1,hp.2.1⟩ h
def zCH:(CY c i).length<=64:=by
 unfold CY;split
 ·rw[kL];exact YA _ 64
 simp
def zCI(c:aF)(k:Nat):(xS c k).length<=k*64:=by
 have:=PS (l:=List.range k) λa _=>zCH (c:=c) (i:=a);rw[KJ]at this;exact this
def dt(x y:bK):oW x y\/x=y\/oW y x:=by
 by_cases h1:oW x y
 ·exact .inl h1
 by_cases h2:oW y x
 ·exact .inr (.inr h2)
 exact .inr (.inl (Y3 h1 h2))
def zAF(hc:aM c):NG (xS c c.I.length)=iX c:=by
 have g0:∀x,x∈xS c c.I.length↔x∈iX c:=λx=>by
   rw[Ee hc];unfold xS;simp only[wM,rC];constructor
   ·rintro⟨i,hi,hx⟩;obtain⟨fr,to,h,_,e⟩:=(Vq hi).1 hx;exact⟨fr,to,i,h,e⟩
   rintro⟨fr,to,i,h,e⟩;have hi:=h.1.lt hc;have:=h.2.2.2.L hc;have h6:=hc.1.locks6;exact⟨i,hi,(Vq hi).2 ⟨fr,to,h,oo,e⟩⟩
 have g1:(xS c c.I.length).Pairwise (λx y=>x≠y):=by
   unfold xS;refine SM.2 ⟨λi _=>?_,List.pairwise_lt_range.imp ?_⟩
   ·unfold CY;split
    ·refine IB.2 ((Lh _ _).imp λ{a b} h e=>?_);have:=cS bK.fr e;unfold LG at this;simp only at this;omega
    simp
   intro a b _ x hx y hy e
   have h1:∀{i:Nat}{x:bK},x∈CY c i->x.at_=i:=λ{i x} hx=>by
     unfold CY at hx;split at hx
     ·obtain⟨_,_,rfl⟩:=sT.1 hx;rfl
     cases hx
   have:=h1 hx;have h2:=h1 hy;rw[e,h2]at this;omega
 refine C9 ?_ (Gt c) λx=>(Oo _).mem_iff.trans (g0 x);have h2:(NG (xS c c.I.length)).Pairwise (λx y=>x≠y):=(Oo _).symm.pairwise g1 (λh e=>h e.symm);refine(Yo.2 ⟨(yw (xS c c.I.length)),h2⟩).imp λ{x y} h=>?_;rcases dt x y with h3|h3|h3
 ·exact h3
 ·exact absurd h3 h.2
 exact absurd h3 h.1
def Ub{a b d:Int}(ha:bR a)(hb:bR b)(hd:bR d):Is w (.agg #[iV a,iV b,iV d]) (⟨a,b,d⟩:bK):=
 ⟨[],_,⟨[],[],[iV a],_,rfl,rfl,⟨rfl,rfl,ha⟩,⟨[],[],[iV b],_,rfl,rfl,⟨rfl,rfl,hb⟩,⟨rfl,rfl,hd⟩⟩⟩,rfl⟩
structure OI(wb w:wD)(out:vL)(L:List bK):Prop where
 ext:aB wb w
 row:∃lo hi,wb.heap.size<=lo/\hi<=w.heap.size/\bQ lo hi 199 w out L
def OI.step{out:vL}{L:List bK}(h:OI wb w out L)(hx:aB w w'):OI wb w' out L:=by
 obtain⟨lo,hi,h1,h2,hr⟩:=h.row;exact⟨h.ext.trans hx,lo,hi,h1,eH h2 hx.size,hr.ext hx⟩
def OI.own{out:vL}{L:List bK}(h:OI wb w out L):eG wb.heap.size w out L:=by
 obtain⟨_,_,_,_,hr⟩:=h.row;exact hr.own.own.mono oo
def kb(hW:tI W0 b c)(e0:aB W0 w)(hc:aM c) :
   aJ tp 86 [pT b 0] w λr w'=>aB w w'/\eG w.heap.size w' r (iX c):=by
 refine co (g:=kf [] [(5,72057594035831520,[5,21]),(9,36024398972453408,[5,42])] []) Tryz.func86 ?_;have hil:=hc.f.I;refine(ao hW e0 hc).mono ?_;rintro _ _ ⟨gl,gn⟩;refine(kv hW xx gn.is xx hc).mono ?_;rintro _ w2 ⟨gp,gE⟩;have C:=gl.t gp;have gF:=gn.is.ext gp;have gG:=gE.is;have gH:=C.size;refine bZ.mk rfl<|aE mT<|aE eW<|aL eJ (fV hW.wl.code) xx λ_ gq=>aX eQ gq ?_;have gr:(nH c).length=c.I.length:=by unfold nH;rw[dZ]
 have gI:=zCI c;have gJ:OI w2 w2 (.slice none 0 0) (xS c 0):=⟨xx,w2.heap.size,w2.heap.size,lr _,iD _,uC _ _ _ _⟩;refine bV c.I.length (λk us w'=>∃out,us=[out,iV k]/\k<=c.I.length/\OI w2 w' out (xS c k)) 0 (z0 _) ⟨_,rfl,z0 _,gJ⟩ ?_;rintro k mk _ w3 _ ⟨out,hu,_,M⟩;obtain⟨gK,gL⟩:=dQ hu;rw[gK,gL];have O:xS c (k+1)=xS c k++CY c k:=Ep k;have gb:=gI k;refine bM<|br (λ_=>?_) λ_=>?_
 case refine_2=>
   have gM:k=c.I.length:=oo;rw[gM]at M gb;obtain⟨lo,hi,h1,h2,hr⟩:=M.row;refine(zCG hr.own oo).mono ?_;rintro _ w4 ⟨gN,gs⟩;rw[zAF hc]at gs;exact⟨(C.t M.ext).xI gN oo,gs.own.mono oo⟩
 have hk:k<c.I.length:=oo;refine bC eQ fE gq hk λ_ _ gt=>?_;rw[oM]at gt;refine aL fE gt ((e0.t C).trans M.ext) λ_ gx=>mB zL rfl fE rfl gx ((e0.t C).trans M.ext) λw4 gy gO gz=>?_;have V:=M.step gy;have hgl:w3.heap.size<w4.heap.size:=gz.lt;have gc:=uT gx gz rfl;have gP:=kS (ms:=nH c) (i:=k) (by rw[gr];exact hk)
 have g1:(nH c)[k]=true↔cD c k:=by
   rw[<-gP];unfold nH;rw[lY];exact⟨λh=>h.2,λh=>⟨oo,h⟩⟩
 refine aE lV<|aS aG (lW gO) xx λ_=>fP ?_
 have gA:¬(cD c k/\(bO c k).op=6)->xS c (k+1)=xS c k:=λh=>by
   rw[O];unfold CY;rw[aH h,oJ]
 refine br (λgQ=>?_) λgR=>?_
 ·refine aU ?_;exact⟨mk-1,oo,k+1,oo,out,rfl,oo,by rw[gA λh=>gQ h.2];exact V⟩
 have h6:(bO c k).op=6:=eK.1 gR;refine bC eY cE (i:=k) gF (by rw[gr];exact hk) λ_ _ gS=>iY cE gS V.ext<|dG<|bW (λhf=>?_) (λhf=>?_)
 ·have gT:¬cD c k:=λh=>by rw[g1.2 h]at hf;cases hf
  refine aU<|⟨mk-1,oo,k+1,oo,out,rfl,oo,by rw[gA λh=>gT h.1];exact V⟩
 have gU:cD c k:=g1.1 (by simpa using hf);have gV:=(yD hc hk (.inl h6)).1;have hA:CY c k=(iK (bD (xL c) k)).map (LG c k):=by unfold CY;rw[aP ⟨gU,h6⟩]
 rw[hA]at O;refine bC bG aG (i:=k) gG (by rw[cB,As];exact hk) λ_ _ gB=>?_;rw[oQ]at gB;refine aS aG gB V.ext λ_=>?_;have g2:=yL (K3 c) k;generalize hmm:bD (xL c) k=m at *;refine(JO (m:=m) oo).mono ?_;rintro gW w5 ⟨g4,gC⟩;have gY:=YA m 64;have hbL:(iK m).length<=64:=gY;refine aX bG gC.is ?_;obtain⟨Fb,gZ,h4⟩:=gC;have hs5:=g4.size;refine bV (iK m).length (λj us w'=>∃out',us=[out',iV j]/\j<=(iK m).length/\aB w2 w'/\w5.heap.size<=w'.heap.size/\aZ Fb w' gW (iK m)/\iS W0 w' w3.heap.size 0 (bO c k)/\∃lo hi,w2.heap.size<=lo/\hi<=w'.heap.size/\bQ lo hi 199 w' out' (xS c k++((iK m).take j).map (LG c k))/\(w3.heap.size<lo\/hi<=w3.heap.size)/\∀b∈Fb,b<lo\/hi<=b) 0 (z0 _) ⟨out,rfl,z0 _,(V.step g4).ext,lr _,gZ,gc.ext g4,?_⟩ ?_
 ·obtain⟨lo,hi,h1,h2,hr⟩:=M.row;refine⟨lo,hi,h1,oo,by simpa using(hr.ext xx),.inr h2,λb hb=>.inr ?_⟩;have:=h4 b hb;omega
 rintro j mj _ _ _ ⟨gd,h5,_,D,_,g5,g3,lo,hi,h1,h2,gf,h8,gD⟩;obtain⟨gg,gh⟩:=dQ h5;rw[gg,gh];refine bM<|br (λ_=>?_) λ_=>?_
 case refine_2=>refine aU<|⟨mk-1,oo,k+1,oo,gd,rfl,oo,?_⟩;rw[O];rw[iO oo]at gf;exact⟨D,lo,hi,h1,h2,gf⟩
 have hj:j<(iK m).length:=oo;refine bC bG aG (i:=j) g5.is hj λ_ _ h9=>aS aG h9 xx λ_=>?_;refine aE mE<|aS aG (mF (g3.at ((e0.t C).trans D))) xx λ_=>fI (cells:=#[iV (iK m)[j],iV (bO c k).arg,iV k]) kK ?_;obtain⟨_,_,gj⟩:=(l9 g2).1 (cY hj);have hl6:=ID g2 gj;have hW:LG c k (iK m)[j]=⟨(iK m)[j],(bO c k).arg,k⟩:=by unfold LG;rw[gV]
 have ha:=(yD hc hk (.inl h6)).2.2
 have hd:(xS c k++((iK m).take j).map (LG c k)).length<=200000:=by
   simp only[bX,kL,fY];omega
 refine JZ (x:=(⟨(iK m)[j],(bO c k).arg,k⟩:bK)) KT KV cy P8 dD gf (lo2:=0) (hi2:=0) (UD (Ub io io io)) (by rw[eB];omega) oo λv' w' he hg g9 hh _=>?_;have hs7:=g9.size;have hl:=D.size;refine aU<|⟨mj-1,oo,j+1,oo,v',rfl,oo,D.xI g9 h1,oo,g5.keep λb hb=>?_,g3.keep ?_,he,hg,oo,oo,?_,oo,λb hb=>?_⟩
 ·exact g9.block b (g5.lt b hb) (gD b hb)
 ·exact g9.block _ oo h8
 ·rw[tk hj,wJ,<-fR];simp only[FI,QJ];rw[hW];exact hh
 have:=gD b hb;have:=g5.lt b hb;omega
def er(h0:Is W0 v0 c)(e0:aB W0 w)(hc:aM c) :
   aJ tp 180 [v0] w λr w'=>aB w w'/\eG w.heap.size w' r (iX c):=by
 refine co (g:=kf [] [(4,75557863725914323417320,[3,5]),(7,75557863725914323157192,[3,6]),(10,75557863725914289864840,[3,7])] []) Tryz.func180 ?_;have gx:=hc.f.I;have gE:=hc.1.locks6;refine iR h0 e0 λ_ gF hA=>pR (α:=bK) KT KV λa8 _ gd _=>?_;have gh:=gF.t gd;refine aL cP hA gd λ_ h9=>(W9 h9 gd hc).mono ?_;rintro _ w3 ⟨gy,_,rfl,gi,gj⟩;have g0:=gh.t gy;have Z:=gd.t gy;have gz:(nH c).length=c.I.length:=by unfold nH;rw[dZ]
 generalize hwb:w3=wb at *;have gG:OI wb wb (.slice (some a8) 0 0) ((List.range 0).flatMap (zQ c)):=⟨xx,wb.heap.size,wb.heap.size,lr _,iD _,AY _ _ _ _ _⟩;refine bV c.L.length (λk us w'=>∃out,us=[out,iV k]/\k<=c.L.length/\OI wb w' out ((List.range k).flatMap (zQ c))) 0 (z0 _) ⟨_,rfl,z0 _,gG⟩ ?_;rintro fr mk _ _ _ ⟨out,hu,_,g1⟩;obtain⟨gH,gI⟩:=dQ hu;rw[gH,gI];refine aE uP<|aL dC (vX hA) (Z.t g1.ext) λ_ gJ=>aX cL gJ<|bM<|br (λ_=>?_) λ_=>?_
 case refine_2=>
   have g2:fr=c.L.length:=oo;rw[g2]at g1;exact⟨g0.t g1.ext,g1.own.mono (by have:=g0.size;omega)⟩
 refine bV c.L.length (λk us w'=>∃out,us=[out,iV k]/\k<=c.L.length/\OI wb w' out ((List.range fr).flatMap (zQ c)++(List.range k).flatMap (EL c fr))) 0 (z0 _) ⟨_,rfl,z0 _,by simpa using g1⟩ ?_;rintro to gK _ _ _ ⟨gl,gL,_,gf⟩;obtain⟨gn,gp⟩:=dQ gL;rw[gn,gp];refine aE uP<|aL dC (vX hA) (Z.t gf.ext) λ_ gM=>aX cL gM<|bM<|br (λ_=>?_) λ_=>?_
 case refine_2=>
   have g2:to=c.L.length:=oo;rw[g2]at gf;refine aU<|⟨mk-1,oo,fr+1,oo,gl,rfl,oo,by rw[Ep];exact gf⟩
 refine bV c.I.length (λk us w'=>∃out,us=[out,iV k]/\k<=c.I.length/\OI wb w' out ((List.range fr).flatMap (zQ c)++(List.range to).flatMap (EL c fr)++(List.range k).flatMap (wC c fr to))) 0 (z0 _) ⟨_,rfl,z0 _,by simpa using gf⟩ ?_;rintro i O _ _ _ ⟨D,gq,_,C⟩;obtain⟨g3,g4⟩:=dQ gq;rw[g3,g4];have M:=Z.t C.ext;refine aE eW<|aL eJ (fV hA) M λ_ gN=>aX eQ gN<|bM<|br (λ_=>?_) λ_=>?_
 case refine_2=>
   have g2:i=c.I.length:=oo;rw[g2]at C;refine aU<|⟨gK-1,oo,to+1,oo,D,rfl,oo,by rw[Ep,<-fR];exact C⟩
 have hi:i<c.I.length:=oo
 have g5:(List.range fr).flatMap (zQ c)++(List.range to).flatMap (EL c fr)++(List.range (i+1)).flatMap (wC c fr to)=(List.range fr).flatMap (zQ c)++(List.range to).flatMap (EL c fr)++(List.range i).flatMap (wC c fr to)++wC c fr to i:=by
   rw[Ep,<-fR]
 have gO:((List.range fr).flatMap (zQ c)++(List.range to).flatMap (EL c fr)++(List.range i).flatMap (wC c fr to)).length<=100000:=by
   have h1:=Py gx gE fr;have h2:=Rt gx fr to;have h3:=Zs c fr to i;simp only[bX];omega
 generalize (List.range fr).flatMap (zQ c)++(List.range to).flatMap (EL c fr)=Lp at *
 have gg:¬tH c fr to i->Lp++(List.range (i+1)).flatMap (wC c fr to)=Lp++(List.range i).flatMap (wC c fr to):=λh=>by
   rw[g5];unfold wC;rw[aH h,oJ]
 have gr:tH c fr to i->Lp++(List.range (i+1)).flatMap (wC c fr to)=Lp++(List.range i).flatMap (wC c fr to)++[LZ fr to i]:=λh=>by
   rw[g5];congr 1;unfold wC;rw[aP h]
 refine bZ.mk rfl<|aE OJ<|aL lT gi C.ext λ_ gP=>?_;have gQ:=kS (ms:=nH c) (i:=i) (by rw[gz];exact hi)
 have g9:(nH c)[i]=true↔cD c i:=by
   rw[<-gQ];unfold nH;rw[lY];exact⟨λh=>h.2,λh=>⟨oo,h⟩⟩
 refine bC eY cE (i:=i) gP (by rw[gz];exact hi) λ_ _ gR=>iY cE gR C.ext<|bW (λht=>?_) (λhf=>?_)
 case refine_2=>
   have gS:¬cD c i:=λh=>by rw[g9.2 h]at hf;cases hf
   refine aU<|⟨O-1,oo,i+1,oo,D,rfl,oo,by rw[gg λh=>gS h.1];exact C⟩
 have hM:=g9.1 ht;refine aE eW<|aL eJ (fV hA) M λ_ gT=>bC eQ fE gT hi λ_ _ gA=>?_;rw[oM]at gA;refine aE lV<|aS aG (lW gA) M λ_=>bI<|br (λh6=>?_) λh6=>?_
 case refine_2=>refine aU<|⟨O-1,oo,i+1,oo,D,rfl,oo,by rw[gg λh=>h6 h.2.1];exact C⟩
 obtain⟨gU,_,_⟩:=yD hc hi (.inl h6);refine aE eW<|aL eJ (fV hA) M λ_ gV=>bC eQ fE gV hi λ_ _ gB=>?_;rw[oM]at gB;refine aE mE<|aS aG (mF gB) M λ_=>bI<|br (λgb=>?_) λgb=>?_
 case refine_2=>refine aU<|⟨O-1,oo,i+1,oo,D,rfl,oo,by rw[gg λh=>gb (by rw[gU,h.2.2.1])];exact C⟩
 refine bZ.mk rfl<|aE IA<|aL dT gj C.ext λ_ gW=>bC bG aG (i:=i) gW (by rw[cB,As];exact hi) λ_ _ gC=>?_;rw[oQ]at gC;refine aS aG gC C.ext λ_=>?_;have gX:=yL (K3 c) i;refine(vt (m:=bD (xL c) i) (i:=fr) oo oo).mono ?_;rintro _ _ ⟨gs,rfl⟩
 have gc:(bD (xL c) i).testBit fr=true↔fT c i fr:=by
   rw[Kx hi,TE];exact⟨λh=>h.2,λh=>⟨oo,h⟩⟩
 have V:=C.step gs;refine bW (λhb=>?_) λhb=>?_
 case refine_2=>refine aU<|⟨O-1,oo,i+1,oo,D,rfl,oo,by rw[gg λh=>by rw[gc.2 h.2.2.2]at hb;cases hb];exact V⟩
 have hP:tH c fr to i:=⟨hM,h6,oo,gc.1 hb⟩;refine fI (cells:=#[iV fr,iV to,iV i]) kK ?_;obtain⟨_,_,h1,h2,hr⟩:=V.row;refine JZ (x:=(LZ fr to i:bK)) KT KV cy P8 dD hr (lo2:=0) (hi2:=0) (UD (Ub io io io)) (by rw[eB];omega) oo λv' w' gY gt gD gZ _=>?_;have hs7:=gD.size;have h4:=V.ext.size;refine aU<|⟨O-1,oo,i+1,oo,v',rfl,oo,V.ext.xI gD h1,gY,gt,oo,oo,?_⟩;rw[gr hP];exact gZ
def zAI{ms:List Bool}(h0:Is W0 v0 ms)(e0:aB W0 w)(hn:ms.length<=2000000) :
   aJ tp 147 [v0] w λr w'=>aB w w'/\eG w.heap.size w' r (bN (IH ms ms.length)):=by
 refine co (g:=kf [] [(3,524088,[3,8])] []) Tryz.func147 ?_;refine aX eY h0<|bV ms.length (λk us w'=>∃(v:vL),us=[v,iV k]/\k<=ms.length/\aB w w'/\bQ w.heap.size w'.heap.size 3 w' v (bN (IH ms k))) 0 (z0 _) ⟨_,rfl,z0 _,xx,uC _ _ _ _⟩ ?_;rintro k mk _ w2 _ ⟨v,hu,_,C,g0⟩;obtain⟨g2,g3⟩:=dQ hu;rw[g2,g3];refine bM<|br (λ_=>?_) λ_=>?_
 case refine_2=>
   have:k=ms.length:=oo;rw[this]at g0;exact⟨C,g0.own.own⟩
 have hk:k<ms.length:=oo;have g1:=C.size;have hg:ms.getD k false=ms[k]:=by rw[List.getD_eq_getElem?_getD,List.getElem?_eq_getElem hk];rfl
 have hil:=St ms k;refine bC eY cE h0 hk λ_ _ g4=>iY cE g4 xx<|bW (λhf=>?_) λhf=>?_
 ·refine oS (lo2:=w2.heap.size) (hi2:=w2.heap.size) (x:=(k:Int)) bG aG z3 wQ dD g0 g1 (DC _ _ io) (lr _) g1 (by rw[eB,cB];omega) (by rw[cB];omega) λg5 _ g9 gb=>?_;refine aU<|⟨mk-1,oo,k+1,oo,g5,rfl,oo,C.xI g9 (lr _),?_⟩;rw[Ab,hg,hf,aP rfl,HG];exact gb
 refine aU<|⟨mk-1,oo,k+1,oo,v,rfl,oo,C,?_⟩;rw[Ab,hg,hf];simpa using g0
def A8(a b s:Nat):Prop:=∃r t,a.testBit r=true/\b.testBit t=true/\(r≠t\/s.testBit r=false)
def tl:∀a,a<256->a &&& (a-1)≠0->∃r,r<8/\∃t,t<8/\r≠t/\a.testBit r=true/\a.testBit t=true:=by decide +kernel
def zF8:∀a,a<256->∀r,r<8->∀t,t<8->(a &&& (a-1)=0/\a.testBit r=true/\a.testBit t=true->r=t):=by decide +kernel
def p9(h:m<256)(hb:m.testBit l=true):l<8:=NS λhc=>by
 have:=PE (kP (show m<2^8 from h) (tX oo (by omega:8<=l)));rw[this]at hb;cases hb
def Fz(h:m≠0):∃i,m.testBit i=true:=Nat.exists_testBit_of_ne_zero h
def Ki(h:m=0)(i:Nat):¬m.testBit i=true:=by rw[h];simp
def zCK{a b s:Nat}(ha:a<256)(hb:b<256)(hs:s<256) :
   aJ tp 81 [iV a,iV b,iV s] w λv w'=>aB w w'/\∃x:Bool,v=.bool x/\(x=true↔A8 a b s):=by
 refine co (g:=kf [] [] []) Tryz.func81 ?_;refine bI<|br (λh=>?_) λ_=>?_
 ·exact⟨xx,false,rfl,⟨λe=>(by cases e),λ⟨r,t,h1,_⟩=>absurd h1 (Ki oo r)⟩⟩
 refine bI<|br (λh=>?_) λ_=>?_
 ·exact⟨xx,false,rfl,⟨λe=>(by cases e),λ⟨r,t,_,h1,_⟩=>absurd h1 (Ki oo t)⟩⟩
 have hle:=AG (n:=a) (m:=b);refine xV (m:=a) (n:=b) oo oo<|VR (m:=a &&& b) (n:=s) oo oo<|fP<|br (λh=>?_) λh=>?_
 ·obtain⟨i,hi⟩:=Fz (m:=sH (a &&& b) s) oo;rw[AE,wO]at hi;simp only[iA,xX]at hi;exact⟨xx,true,rfl,⟨λ_=>⟨i,i,hi.1.1,hi.1.2,.inr hi.2⟩,λ_=>rfl⟩⟩
 have hz:sH (a &&& b) s=0:=by have:=eK.1 h;omega
 refine fP<|br (λg0=>?_) λg1=>?_
 ·refine⟨xx,true,rfl,⟨λ_=>?_,λ_=>rfl⟩⟩;refine QW λhn=>?_;have C:∀r t,a.testBit r=true->b.testBit t=true->r=t:=λr t h1 h2=>QW λe=>hn ⟨r,t,h1,h2,.inl e⟩;obtain⟨r,hr⟩:=Fz (m:=a) oo;obtain⟨t,ht⟩:=Fz (m:=b) oo;have g2:=C r t hr ht;subst g2
  have:a=b:=KW λi=>by
    cases e1:a.testBit i<;>cases e2:b.testBit i
    ·rfl
    ·have:=C r i hr e2;subst this;rw[hr]at e1;cases e1
    ·have:=C i r e1 ht;subst this;rw[ht]at e2;cases e2
    rfl
  exact g0 (by rw[this])
 have g3:a=b:=by have:=eK.1 g1;omega
 subst g3;refine kQ io ?_;rw[show(a:Int)-1=((a-1:Nat):Int) by omega];refine xV (m:=a) (n:=a-1) oo oo<|fP<|⟨xx,_,rfl,?_⟩;rw[lZ];constructor
 ·intro h;obtain⟨r,_,t,_,h1,h2,h3⟩:=tl a ha oo;exact⟨r,t,h2,h3,.inl h1⟩
 rintro⟨r,t,h1,h2,h3⟩ _;have:=zF8 a ha r (p9 ha h1) t (p9 ha h2) ⟨oo,h1,h2⟩;subst this;have hb:=Ki hz r;rw[AE,wO,h1]at hb;rcases h3 with h3|h3
 ·exact h3 rfl
 rw[h3]at hb;simp at hb
def xq(hW:tI W0 b c)(e0:aB W0 w)(hc:aM c) :
   aJ tp 79 [pT b 0] w λv w'=>aB w w'/\∃u,v=.tuple #[u,iV (OF c:Nat)]/\eG w.heap.size w' u (bN ((List.range c.I.length).map (sX c))):=by
 refine co (g:=kf [] [(3,33521696,[15])] []) Tryz.func79 ?_;have g5:=hc.f.I
 have g0:0<c.I.length:=by
   have:=hc.1.p8;have:=(yF hc this.2).2.2;omega
 refine bZ.mk rfl<|aE mT<|aE eW<|aL eJ (fV hW.wl.code) e0 λ_ g9=>aX eQ g9 ?_;have hn:c.I.length=c.I.length:=rfl;generalize hnn:c.I.length=n at hn;rw[hnn]at g5 g0;refine FK g0 oo λw1 gb gc=>TK bG ?_;generalize hg:w.heap.size=g at *
 have gd:aZ [g] w1 (.slice (some ⟨g,0,none⟩) n n) (bN ((List.range n).map λi=>if i<0 then sX c i else 0)):=by
   have:(List.replicate n 0)=((List.range n).map λi=>if i<0 then sX c i else 0):=by
     apply wE
     ·simp
     intro i h1 h2;simp
   rw[<-this];exact gc
 refine bV n (λk us w'=>us=[iV k]/\k<=n/\aN g (g+1) w1 w'/\aZ [g] w' (.slice (some ⟨g,0,none⟩) n n) (bN ((List.range n).map λi=>if i<k then sX c i else 0))) 0 (z0 _) ⟨rfl,z0 _,aN.refl _,gd⟩ ?_;rintro k mk u w2 _ ⟨hu,_,g4,g1⟩;try replace hu:=cJ hu
 rw[hu];have g2:aB w w2:=gb.xI g4 oo;refine bM<|br (λ_=>?_) λ_=>?_
 case refine_2=>
   refine(zwT hW xx hc).mM λw3 C=>?_;refine⟨xx,_,rfl,[g],?_,λb hb=>by simp at hb;omega⟩
   have:((List.range n).map λi=>if i<k then sX c i else 0)=(List.range n).map (sX c):=FU λi hi=>by
     have:=rC.1 hi;rw[aP oo]
   rw[this]at g1;exact g1.ext C
 have hk:k<n:=oo;refine(xf (i:=k) hW xx hc oo).mM λw3 C=>?_;have hrt:=Oh hc k;refine oA (α:=Int) (i:=k) rfl bG aG hk<|oC (α:=Int) rfl aG (g1.ext C) (by simp[bN]) hk (tN (v:=sX c k) oo) λw4 gf gg=>?_;have g3:aN g (g+1) w3 w4:=FJ gf;refine aU<|⟨mk-1,oo,k+1,oo,rfl,oo,(g4.trans C.toI).trans g3,?_⟩
 have:(bN ((List.range n).map λi=>if i<k then sX c i else 0)).set k (sX c k:Nat)=bN ((List.range n).map λi=>if i<k+1 then sX c i else 0):=by
   unfold bN;apply wE
   ·simp
   intro i h1 h2;simp only[kL,KJ]at h2;rw[XH];by_cases e:k=i
   ·subst e;simp
   rw[aH e];simp only[LS,Jz];by_cases h:i<k
   ·rw[aP h,aP oo]
   rw[aH h,aH oo]
 rw[<-this];exact gg
noncomputable def zV(c:aF)(i:Nat):List bP:=CA c (i:Int) ((bD (BW c) i:Nat):Int)
noncomputable def tF(c:aF):List bP:=(cC c.I.length (cD c)).flatMap (zV c)
def Hb(hc:aM c)(a h:Int):(CA c a h).length<=12:=by
 have:=iy c a h;have h2:=hc.1.1;simp only[iA,lZ]at h2;omega
def Jj(hc:aM c)(U:List Nat)(hU:U.length<=1500):(U.flatMap (zV c)).length<=18000:=by
 have:=SY (l:=U) (f:=zV c) (B:=12) λ_ _=>Hb hc _ _;omega
def zwX(hW:tI W0 b c)(e0:aB W0 w)(hc:aM c) :
   aJ tp 78 [pT b 0] w λv w'=>aB w w'/\eG w.heap.size w' v (tF c):=by
 refine co (g:=kf [] [(4,1073733712,[4,13])] [(6,[0,1,2,3,4,5,6,7,8,9,10,11,12],1024)]) Tryz.func78 ?_;have hil:=hc.f.I;refine(zFX hW e0 hc).mono ?_;rintro _ _ ⟨g4,gf⟩;refine(ao hW xx hc).mono ?_;rintro _ _ ⟨g5,gg⟩;have g9:(nH c).length=c.I.length:=by unfold nH;rw[dZ]
 refine(zAI gg.is xx (by rw[g9];omega)).mono ?_;rintro _ w3 ⟨gb,M⟩;have C:=g4.t (g5.t gb);rw[g9]at M;unfold nH at M;rw[YL]at M;have gh:=gf.is.ext (g5.t gb);have hUl:=pC (n:=c.I.length) (p:=cD c);have gi:∀i∈cC c.I.length (cD c),i<c.I.length:=λi hi=>(mG.1 hi).1;unfold tF;generalize cC c.I.length (cD c)=U at *;refine aX bG M.is ?_;rw[cB];have gj:=C.size;refine bV U.length (λk us w'=>∃out,us=[out,iV k]/\k<=U.length/\aB w3 w'/\bQ w3.heap.size w'.heap.size 134 w' out ((U.take k).flatMap (zV c))) 0 (z0 _) ⟨_,rfl,z0 _,xx,uC _ _ _ _⟩ ?_;rintro k mk _ w4 _ ⟨out,hu,_,g0,g2⟩;obtain⟨gl,gn⟩:=dQ hu;rw[gl,gn];refine bM<|br (λ_=>?_) λ_=>?_
 case refine_2=>
   have gp:k=U.length:=oo;rw[gp,sF]at g2;exact⟨xx,g2.own.own.mono oo⟩
 have hk:k<U.length:=oo;have hi:=gi U[k] (cY _);have gq:=ZP (f:=zV c) hk;have hlk:=Jj hc (U.take k) (by rw[fY];omega);refine bC bG aG (i:=k) M.is (by rw[cB];exact hk) λ_ _ gc=>?_;rw[nI]at gc;generalize U[k]=i at *;refine aS aG gc g0 λ_=>?_;have g3:=cO w4;have D:=g0.t g3;have gr:=g2.ext g3;have hsd:=g3.size;generalize World.drew1 w4=w5 at *;have e5:=e0.t (C.t D);refine bZ.mk rfl<|aE mT<|aL cP hW.wl.code e5 λ_ gs=>bC bG aG (i:=i) gh (by rw[cB,Ap];exact hi) λ_ _ gd=>?_;rw[oQ]at gd;refine aS aG gd D λ_=>?_;have gt:=yL (Ge c) i;refine(qc (a:=(i:Int)) (held:=(bD (BW c) i:Nat)) gs e5 hc oo oo io).mono ?_;rintro _ _ ⟨g1,gx⟩;refine⟨g1,?_⟩;have h12:(zV c i).length<=12:=Hb hc (i:Int) (bD (BW c) i:Nat);have gy:=g0.size;have gz:=g1.size;refine OX (m:=zV c i) wW qQ SV (gr.ext g1) oo gx.is xx (by rw[eB];omega) oo λgA _ gB gC=>aU<|⟨mk-1,oo,k+1,oo,gA,rfl,oo,(D.t g1).xI gB (lr _),?_⟩;rw[gq];exact gC
def zAL(h0:Is W0 v0 c)(e0:aB W0 w)(hc:aM c) :
   aJ tp 93 [v0] w λv w'=>aB w w'/\eG w.heap.size w' v (tF c):=by
 refine co (g:=kf [] [(5,34359705672,[3,6])] [(8,[0,1,2,3,4,5,6,7,8,9],128)]) Tryz.func93 ?_;have hil:=hc.f.I;refine iR h0 e0 λ_ gb hA=>pR (α:=bP) wW qQ λ_ _ g4 _=>aL cP hA g4 λ_ h8=>(pz h8 g4 hc).mono ?_;rintro _ _ ⟨gg,gh⟩;have M:=g4.t gg;refine aL cP hA M λ_ gi=>(W9 gi M hc).mono ?_;rintro _ w4 ⟨gc,_,rfl,g5,_⟩;have C:=M.t gc;have gj:=gh.is.ext gc;refine bZ.mk rfl<|aE OJ<|aL lT g5 xx λ_ gl=>?_;have gd:(nH c).length=c.I.length:=by unfold nH;rw[dZ]
 have hs1:=gb.size;have gn:=C.size;refine bV c.I.length (λk us w'=>∃out,us=[out,iV k]/\k<=c.I.length/\aB w4 w'/\bQ w4.heap.size w'.heap.size 134 w' out ((cC k (cD c)).flatMap (zV c))) 0 (z0 _) ⟨_,rfl,z0 _,xx,AY _ _ _ _ _⟩ ?_;rintro i mk _ w5 _ ⟨out,hu,_,O,g2⟩;obtain⟨gp,gq⟩:=dQ hu;rw[gp,gq];refine aE eW<|aL eJ (fV hA) (C.t O) λ_ gr=>aX eQ gr<|bM<|br (λ_=>?_) λ_=>?_
 case refine_2=>
   have gs:i=c.I.length:=oo;rw[gs]at g2;exact⟨xx,g2.own.own.mono oo⟩
 have hi:i<c.I.length:=oo;have gt:=kS (ms:=nH c) (i:=i) (by rw[gd];exact hi)
 have g1:(nH c)[i]=true↔cD c i:=by
   rw[<-gt];unfold nH;rw[lY];exact⟨λh=>h.2,λh=>⟨hi,h⟩⟩
 refine bC eY cE (i:=i) gl (by rw[gd];exact hi) λ_ _ gx=>iY cE gx O<|bW (λht=>?_) (λhf=>?_)
 case refine_2=>
   have gy:¬cD c i:=λh=>by rw[g1.2 h]at hf;cases hf
   refine aU<|⟨mk-1,oo,i+1,oo,out,rfl,oo,O,by rw[xU gy];exact g2⟩
 have hM:=g1.1 ht
 have gz:(cC (i+1) (cD c)).flatMap (zV c)=(cC i (cD c)).flatMap (zV c)++zV c i:=by
   rw[AS hM,vW];simp
 have hlk:=Jj hc (cC i (cD c)) (by have:=pC (n:=i) (p:=cD c);omega);have g9:=cO w5;have D:=O.t g9;have gA:=g2.ext g9;have hsd:=g9.size;generalize World.drew1 w5=w6 at *;refine aL cP hA xx λ_ gB=>bC bG aG (i:=i) gj (by rw[cB,Ap];exact hi) λ_ _ gf=>?_;rw[oQ]at gf;refine aS aG gf D λ_=>?_;have gC:=yL (Ge c) i;refine(pd (a:=(i:Int)) (held:=(bD (BW c) i:Nat)) gB xx hc oo oo io).mono ?_;rintro _ _ ⟨g3,gD⟩;refine⟨g3,?_⟩;have h12:(zV c i).length<=12:=Hb hc (i:Int) (bD (BW c) i:Nat);have gE:=O.size;have gF:=g3.size;refine OX (m:=zV c i) wW qQ SV (gA.ext g3) oo gD.is xx (by rw[eB];omega) oo λgG _ gH gI=>aU<|⟨mk-1,oo,i+1,oo,gG,rfl,oo,(D.t g3).xI gH (lr _),?_⟩;rw[gz];exact gI
def Z1{b:Bool}{Q kt kf ks:Prop}(hq:b=true->Q)(key:Q->kt)(rest:(Q->kt)->b=false->kf):AV (.bool b) kt kf ks:=
 XQ (λh=>key (hq h)) (λh=>rest key h)
structure YI(Q:List Nat->wD->Prop):Prop where
 keep:∀{F:List Nat}{w w':wD},Q F w->(∀b∈F,w'.heap[b]?=w.heap[b]?)->Q F w'
 lt:∀{F:List Nat}{w:wD},Q F w->∀b∈F,b<w.heap.size
structure TT(Q1 Q2:List Nat->wD->Prop)(wb w:wD)(F1 F2:List Nat):Prop where
 ext:aB wb w
 q1:Q1 F1 w
 q2:Q2 F2 w
 b1:∀b∈F1,wb.heap.size<=b
 b2:∀b∈F2,wb.heap.size<=b
 dis:∀b∈F1,b∉F2
section
variable {Q1 Q1' Q2:List Nat->wD->Prop}{wb w w1 w':wD}{F1 F2 F':List Nat}
def TT.swap(h:TT Q1 Q2 wb w F1 F2):TT Q2 Q1 wb w F2 F1:=⟨h.ext,h.q2,h.q1,h.b2,h.b1,λb hb hF=>h.dis b hF hb⟩
def TT.step(k1:YI Q1)(k2:YI Q2)(h:TT Q1 Q2 wb w F1 F2)(hx:aB w w'):TT Q1 Q2 wb w' F1 F2:=
 ⟨h.ext.trans hx,k1.keep h.q1 λb hb=>hx.heap (k1.lt h.q1 b hb),k2.keep h.q2 λb hb=>hx.heap (k2.lt h.q2 b hb),h.b1,h.b2,h.dis⟩
def TT.grow(k1:YI Q1)(k2:YI Q2)(h:TT Q1 Q2 wb w F1 F2){GX:List Nat}(hx:aB w w1)(hc:cH F1 w1 w')(hr:Q1' F' w')(hs:∀ c∈F',c∈F1\/c∈GX\/w.heap.size<=c)(hG:∀ c∈GX,wb.heap.size<=c/\c∉F2):TT Q1' Q2 wb w' F' F2:=by
 have h1:=h.step k1 k2 hx;refine⟨h1.ext.chgF hc h.b1,hr,k2.keep h1.q2 λb hb=>hc.block b (k2.lt h1.q2 b hb) λhF=>h.dis b hF hb,λb hb=>?_,h.b2,λb hb hF=>?_⟩
 ·rcases hs b hb with h2|h2|h2
  ·exact h.b1 b h2
  ·exact(hG b h2).1
  have:=h.ext.size;omega
 rcases hs b hb with h2|h2|h2
 ·exact h.dis b h2 hF
 ·exact(hG b h2).2 hF
 have:=k2.lt h.q2 b hF;omega
end
def IY{α:Type}[Rep α](e:TypeId)(v:vL)(L:List α)(F:List Nat)(w:wD):Prop:=dU F e w v L/\F.Nodup
def LJ{α:Type}[Rep α](e:TypeId)(v:vL)(L:List α):YI (IY e v L):=⟨λh hk=>⟨h.1.keep hk,h.2⟩,λh=>h.1.lt⟩
def qB(c:aF)(a b r s:Nat):Prop:=bE c r/\bE c s/\bL c r a/\bL c s b/\(r≠s\/¬rT c r)
def oT(c:aF)(a b:Nat):Prop:=∃r s,qB c a b r s
noncomputable instance(c:aF)(r:Nat):Decidable (bE c r):=Classical.propDecidable _
noncomputable def AL(c:aF)(k:Nat):List (List Bool):=(List.range k).map λr=>cZ c.P.length (bL c r)
noncomputable def BH(c:aF)(k:Nat):List Bool:=(List.range k).map λr=>decide (bE c r/\rT c r)
noncomputable def DN(c:aF)(k:Nat):List (List Bool):=(List.range k).map λa=>cZ c.P.length (oT c a)
def dm(c:aF)(k:Nat):AL c (k+1)=AL c k++[cZ c.P.length (bL c k)]:=by unfold AL;rw[HA,wJ];rfl
def qu(c:aF)(k:Nat):BH c (k+1)=BH c k++[decide (bE c k/\rT c k)]:=by unfold BH;rw[HA,wJ];rfl
def uw(c:aF)(k:Nat):DN c (k+1)=DN c k++[cZ c.P.length (oT c k)]:=by unfold DN;rw[HA,wJ];rfl
def zw0(b:Bool):aZ [] w (.bool b) b:=by
 exact⟨⟨_,⟨rfl,rfl⟩,rfl⟩,kM,Wr.nil _⟩
def yh(h0:Is W0 v0 c)(e0:aB W0 w)(hc:aM c) :
   aJ tp 94 [v0] w λv w'=>aB w w'/\eG w.heap.size w' v (DN c c.P.length):=by
 refine co (g:=kf [] [(5,4398046380144,[4,5,6]),(11,5316911983139663491615219445028364160,[7,8]),(15,332306998946228968207937366560611328,[10]),(18,332306998946228965920108755856398336,[11]),(21,332306998946228673078046585717264384,[12])] []) Tryz.func94 ?_;have h8:=hc.1.p8;have he:=hc.2.1.1;refine iR h0 e0 λ_ h6 hA=>aL cP hA (aC _) λ_ hJ=>?_;refine(Em hJ (aC _) hc).mono ?_;rintro _ _ ⟨hK,hL⟩;refine pR (α:=List Bool) CG lT λhM _ hN _=>pR (α:=Bool) eY cE λhO wb hP _=>?_;have gf:=hN.t hP;have g2:=hK.t gf;have gz:=hL.is.ext gf;have hs1:=h6.size
 have hQ:TT (IY 125 (.slice (some hM) 0 0) (AL c 0)) (IY 4 (.slice (some hO) 0 0) (BH c 0)) wb wb [] []:=
   ⟨aC _,⟨.inl ⟨_,rfl,rfl,rfl⟩,kM⟩,⟨.inl ⟨_,rfl,rfl,rfl⟩,kM⟩,ss,ss,ss⟩
 refine bV c.P.length (λk us w'=>∃fv sv F1 F2,us=[fv,sv,iV k]/\k<=c.P.length/\TT (IY 125 fv (AL c k)) (IY 4 sv (BH c k)) wb w' F1 F2) 0 (z0 _) ⟨_,_,_,_,rfl,z0 _,hQ⟩ ?_;rintro k mk _ w5 _ ⟨fv,sv,F1,F2,hu,_,V⟩;obtain⟨hT,hU,hV⟩:=Gr hu;rw[hT,hU,hV];have Z:=g2.t V.ext;refine aE lQ<|aL dC (nF hA) Z λ_ hW=>aX cL hW<|bM ?_;have hX:(AL c k).length=k:=by simp[AL]
 have h9:(BH c k).length=k:=by simp[BH]
 refine br (λ_=>?_) (λ_=>?_)
 case refine_1=>
   have hk:k<c.P.length:=oo;refine aL cP hA Z λ_ hY=>?_;refine(Fo (a:=k) hY Z hc hk).mono ?_;rintro _ w6 ⟨g3,m,rfl,_,hd⟩;have gA:=V.step (LJ _ _ _) (LJ _ _ _) g3;have hZ:m∉F2:=λhF=>by have:=V.q2.1.lt m hF;omega
   have j0:m∉F1:=λhF=>by have:=V.q1.1.lt m hF;omega
   have j1:=V.ext.size;have j2:(cZ c.P.length λi=>i=k\/RP (EK c) k i)=cZ c.P.length (bL c k):=rfl;rw[j2]at hd;refine CT (x:=cZ c.P.length (bL c k)) (K:=λ_=>_) CG lT Kw Hz dD gA.q1.1 gA.q1.2 hd (λb hb hF=>by simp at hb;subst hb;exact j0 hF) (by rw[eB];omega) oo (λw7 v' w8 G' gg j3 hh j4 hj=>?_) λ_ _ _ h=>h;rw[<-dm]at hh
   have hl:=gA.grow (Q1':=IY 125 v' (AL c (k+1))) (LJ _ _ _) (LJ _ _ _) gg j3 ⟨hh,j4⟩ hj λb hb=>by
     simp only[bF,dL,dI]at hb;subst hb;exact⟨oo,hZ⟩
   have g4:aB wb w8:=hl.ext;have gB:=lY (n:=c.P.length) (p:=bE c) (i:=k);rw[kS (by rw[dZ];exact hk)]at gB
   have gh:∀{w9:wD}(x:Bool),(x=decide (bE c k/\rT c k))->aB w8 w9->OP tp (Instr.buildSlice 125 1 #[(0,.bool x)]) w9 λj5 w=>OP tp (Builtin.append_ #[125,125] 125 [sv,j5].toArray) w λj6 w=>RD tp (bin .add 3 (.tmp 0) (.const undef) (iV k) (iV 1)) w λj7=>∃m',m'<mk/\∃k',k'+m'=c.P.length/\∃fv sv F1 F2,[v',j6,j7]=[fv,sv,iV k']/\k'<=c.P.length/\TT (IY 125 fv (AL c k')) (IY 4 sv (BH c k')) wb w F1 F2:=λ{w9} x gC gi=>by
     have gD:=hl.step (LJ _ _ _) (LJ _ _ _) gi;refine CT (x:=x) (K:=λ_=>_) eY cE z4 zc4 dD gD.q2.1 gD.q2.2 (zw0 x) ss (by rw[eB];omega) oo (λg5 ht j8 _ O M gj gE gF=>?_) λ_ _ _ h=>h;rw[gC,<-qu]at gj;have gG:=(gD.swap.grow (Q1':=IY 4 ht (BH c (k+1))) (LJ _ _ _) (LJ _ _ _) (GX:=[]) O M ⟨gj,gE⟩ gF ss).swap;refine aU<|⟨mk-1,oo,k+1,oo,v',ht,_,_,rfl,oo,gG⟩
   refine bC eY cE (i:=k) gz (by rw[dZ];exact hk) λ_ _ j9=>iY cE j9 g4<|bW (λhf=>?_) (λhf=>?_)
   ·have hR:=(gB.1 hf).2;refine aL cP hA (g2.t g4) λ_ ja=>?_;refine(pj (r:=k) ja (g2.t g4) hc).mono ?_;rintro _ w9 ⟨gi,rfl⟩;exact gh _ (by rw[decide_eq_decide];exact⟨λh=>⟨hR,h⟩,λh=>h.2⟩) gi
   have hR:¬bE c k:=λh=>by rw[gB.2 ⟨hk,h⟩]at hf;cases hf
   exact gh false (by rw[decide_eq_false λh=>hR h.1]) (aC _)
 have jb:k=c.P.length:=oo;rw[jb]at V;clear hX h9;have hv:=V.q1.1.own.is;have jc:=V.q2.1.own.is;have j1:=V.ext.size;refine pR (α:=List Bool) CG lT λ_ wT g9 _=>?_;have D:=Z.t g9;have gH:=g9;have gI:aB wb wT:=V.ext.trans g9;refine bV c.P.length (λk us w'=>∃ov FO,us=[ov,iV k]/\k<=c.P.length/\aB wT w'/\dU FO 125 w' ov (DN c k)/\FO.Nodup/\∀b∈FO,wT.heap.size<=b) 0 (z0 _) ⟨_,[],rfl,z0 _,aC _,.inl ⟨_,rfl,rfl,rfl⟩,kM,ss⟩ ?_;rintro a jd _ w6 _ ⟨ov,FO,je,_,g3,gc,hw,gJ⟩;obtain⟨gK,gL⟩:=dQ je;rw[gK,gL];refine aE lQ<|aL dC (nF hA) (D.t g3) λ_ jf=>aX cL jf<|bM<|br (λ_=>?_) (λ_=>?_)
 case refine_2=>
   have gM:a=c.P.length:=oo;rw[gM]at gc;exact⟨h6.t (D.t g3),FO,⟨gc.own,hw,gc.wr⟩,λb hb=>by have:=gJ b hb;have:=D.size;omega⟩
 have ha:a<c.P.length:=oo;refine aE lQ<|aL dC (nF hA) (D.t g3) λ_ jg=>aX cL jg<|JC h8.2 oo λw7 gg gN=>?_;have hj:=gg.size;generalize hg:w6.heap.size=g at *;have hgl:g<w7.heap.size:=gN.lt g ss;have jh:=g3.size;have hx:g∉FO:=λhF=>by have:=gc.lt g hF;omega
 rw[XL c.P.length (p:=λq=>q<0/\oT c a q) (λi h=>oo)]at gN;generalize hn:c.P.length=n at *;refine bV n (λb us w'=>us=[iV b]/\b<=n/\aN g (g+1) w7 w'/\aZ [g] w' (.slice (some ⟨g,0,none⟩) n n) (cZ n λq=>q<b/\oT c a q)) 0 (z0 _) ⟨rfl,z0 _,aN.refl _,gN⟩ ?_;rintro b ji _ w8 _ ⟨gO,_,gd,gP⟩;try replace gO:=cJ gO
 rw[gO];have gl:∀{w:wD},aN g (g+1) w7 w->aB wT w:=λh=>(g3.t gg).xI h oo;refine aE lQ<|aL dC (nF hA) (D.t (gl gd)) λ_ jj=>aX cL jj ?_;rw[hn];refine bM<|br (λ_=>?_) (λ_=>?_)
 case refine_2=>
   have:(cZ n λq=>q<b/\oT c a q)=cZ n (oT c a):=rA λq hq=>⟨λh=>h.2,λh=>⟨oo,h⟩⟩;rw[this]at gP
   have jk:dU FO 125 w8 ov (DN c a):=gc.keep λq hq=>by
     have h1:=gc.lt q hq;rw[gd.block q oo (by have:q≠g:=λe=>hx (e▸hq);omega),gg.heap oo]
   have htl:(DN c a).length=a:=by simp[DN]
   refine CT (x:=cZ n (oT c a)) (K:=λ_=>_) CG lT Kw Hz dD jk hw gP (λq hq hF=>by simp at hq;subst hq;exact hx hF) (by rw[eB];omega) oo (λw9 v' g5 G' gi gn jl jm jn=>?_) λ_ _ _ h=>h;have hs8:=gd.size;refine aU<|⟨jd-1,oo,a+1,oo,v',G',rfl,oo,((gl gd).trans gi).chgF gn gJ,?_,jm,λq hq=>?_⟩
   ·rw[uw,hn];exact jl
   rcases jn q hq with h|h|h
   ·exact gJ q h
   ·simp at h;omega
   have:=(gl gd).size;omega
 have hb:b<n:=oo
 have gQ:aZ [g] w8 (.slice (some ⟨g,0,none⟩) n n) (cZ n λq=>(q<b/\oT c a q)\/(q=b/\∃r,r<0/\∃s,qB c a b r s)):=by
   have:(cZ n λq=>(q<b/\oT c a q)\/(q=b/\∃r,r<0/\∃s,qB c a b r s))=cZ n λq=>q<b/\oT c a q:=rA λq _=>⟨λh=>h.resolve_right λ⟨_,r,h,_⟩=>oo,.inl⟩;rw[this];exact gP
 refine bV n (λr us w'=>us=[iV r]/\r<=n/\aN g (g+1) w7 w'/\aZ [g] w' (.slice (some ⟨g,0,none⟩) n n) (cZ n λq=>(q<b/\oT c a q)\/(q=b/\∃r',r'<r/\∃s,qB c a b r' s))) 0 (z0 _) ⟨rfl,z0 _,gd,gQ⟩ ?_;rintro r jo _ w9 _ ⟨gR,_,gn,gS⟩;try replace gR:=cJ gR
 rw[gR];refine aE lQ<|aL dC (nF hA) (D.t (gl gn)) λ_ jp=>aX cL jp ?_;rw[hn];refine bM ?_;have gp:∀{r s},qB c a b r s->r<n/\s<n:=λh=>⟨hn▸h.1.lt hc,hn▸h.2.1.lt hc⟩;refine br (λ_=>?_) (λ_=>?_)
 case refine_2=>
   have:(cZ n λq=>(q<b/\oT c a q)\/(q=b/\∃r',r'<r/\∃s,qB c a b r' s))=cZ n λq=>q<b+1/\oT c a q:=rA λq _=>by
     constructor
     ·rintro(h|⟨rfl,r',_,s,h⟩)
      ·exact⟨oo,h.2⟩
      exact⟨oo,r',s,h⟩
     rintro⟨h1,h2⟩;by_cases e:q=b
     ·subst e;obtain⟨r',s,h⟩:=h2;exact .inr ⟨rfl,r',by have:=(gp h).1;omega,s,h⟩
     exact .inl ⟨oo,h2⟩
   rw[this]at gS;refine aU<|⟨ji-1,oo,b+1,oo,rfl,oo,gn,gS⟩
 have hr:r<n:=oo
 have gT:aZ [g] w9 (.slice (some ⟨g,0,none⟩) n n) (cZ n λq=>(q<b/\oT c a q)\/(q=b/\((∃r',r'<r/\∃s,qB c a b r' s)\/∃s,s<0/\qB c a b r s))):=by
   have:(cZ n λq=>(q<b/\oT c a q)\/(q=b/\((∃r',r'<r/\∃s,qB c a b r' s)\/∃s,s<0/\qB c a b r s)))=cZ n λq=>(q<b/\oT c a q)\/(q=b/\∃r',r'<r/\∃s,qB c a b r' s):=rA λq _=>or_congr Iff.rfl (and_congr Iff.rfl ⟨λh=>h.resolve_right λ⟨s,h,_⟩=>oo,.inl⟩);rw[this];exact gS
 refine bV n (λs us w'=>us=[iV s]/\s<=n/\aN g (g+1) w7 w'/\aZ [g] w' (.slice (some ⟨g,0,none⟩) n n) (cZ n λq=>(q<b/\oT c a q)\/(q=b/\((∃r',r'<r/\∃s,qB c a b r' s)\/∃s',s'<s/\qB c a b r s')))) 0 (z0 _) ⟨rfl,z0 _,gn,gT⟩ ?_;rintro s gU _ g5 _ ⟨gb,h9,M,g0⟩;try replace gb:=cJ gb
 rw[gb];have O:=gl M;refine aE lQ<|aL dC (nF hA) (D.t O) λ_ jq=>aX cL jq ?_;rw[hn];refine bM<|br (λ_=>?_) (λ_=>?_)
 case refine_2=>
   have:(cZ n λq=>(q<b/\oT c a q)\/(q=b/\((∃r',r'<r/\∃s,qB c a b r' s)\/∃s',s'<s/\qB c a b r s')))=cZ n λq=>(q<b/\oT c a q)\/(q=b/\∃r',r'<r+1/\∃s,qB c a b r' s):=rA λq _=>or_congr Iff.rfl (and_congr Iff.rfl (by
     constructor
     ·rintro(⟨r',h,s',h2⟩|⟨s',_,h2⟩)
      ·exact⟨r',oo,s',h2⟩
      exact⟨r,oo,s',h2⟩
     rintro⟨r',h,s',h2⟩;by_cases e:r'=r
     ·subst e;exact .inr ⟨s',by have:=(gp h2).2;omega,h2⟩
     exact .inl ⟨r',oo,s',h2⟩))
   rw[this]at g0;refine aU<|⟨jo-1,oo,r+1,oo,rfl,oo,M,g0⟩
 have hs:s<n:=oo
 have C:¬qB c a b r s->RD tp (bin .add 3 (.tmp 0) (.const undef) (iV s) (iV 1)) g5 λjr=>∃m',m'<gU/\∃k',k'+m'=n/\[jr]=[iV k']/\k'<=n/\aN g (g+1) w7 g5/\aZ [g] g5 (.slice (some ⟨g,0,none⟩) n n) (cZ n λq=>(q<b/\oT c a q)\/(q=b/\((∃r',r'<r/\∃s,qB c a b r' s)\/∃s',s'<k'/\qB c a b r s'))):=λjs=>by
   refine aU<|⟨gU-1,oo,s+1,oo,rfl,oo,M,?_⟩
   have:(cZ n λq=>(q<b/\oT c a q)\/(q=b/\((∃r',r'<r/\∃s,qB c a b r' s)\/∃s',s'<s+1/\qB c a b r s')))=cZ n λq=>(q<b/\oT c a q)\/(q=b/\((∃r',r'<r/\∃s,qB c a b r' s)\/∃s',s'<s/\qB c a b r s')):=rA λq _=>or_congr Iff.rfl (and_congr Iff.rfl (or_congr Iff.rfl (by
     constructor
     ·rintro⟨s',h,h2⟩;by_cases e:s'=s
      ·subst e;exact absurd h2 js
      exact⟨s',oo,h2⟩
     rintro⟨s',h,h2⟩;exact⟨s',oo,h2⟩)))
   rw[this];exact g0
 have gV:=lY (n:=n) (p:=bE c) (i:=r);have gW:=lY (n:=n) (p:=bE c) (i:=s);rw[kS (by rw[dZ];exact hr)]at gV;rw[kS (by rw[dZ];exact hs)]at gW;have hy:aB wb g5:=gI.trans O;refine bC eY cE (i:=r) gz (by rw[dZ];exact hr) λ_ _ jt=>iY cE jt hy<|bW (λhf=>?_) (λhf=>C λh=>by rw[gV.2 ⟨hr,h.1⟩]at hf;cases hf);have hR:=(gV.1 hf).2;refine bC eY cE (i:=s) gz (by rw[dZ];exact hs) λ_ _ ju=>iY cE ju hy<|bW (λgt=>?_) (λgt=>C λh=>by rw[gW.2 ⟨hs,h.2.1⟩]at gt;cases gt);have hz:=(gW.1 gt).2;have eF:aB w5 g5:=gH.t O;have gq:(AL c n).length=n:=by simp[AL]
 have g1:∀(i:Nat)(hi:i<(AL c n).length),(AL c n)[i]=cZ n (bL c i):=λi hi=>by simp[AL,hn]
 have gX:=lY (n:=n) (p:=bL c r) (i:=a);have gY:=lY (n:=n) (p:=bL c s) (i:=b);rw[kS (by rw[dZ];exact ha)]at gX;rw[kS (by rw[dZ];exact hb)]at gY;refine bC CG lT (i:=r) hv (by rw[gq];exact hr) λ_ _ hC=>?_;rw[g1]at hC;refine aL lT hC eF λ_ jv=>bC eY cE (i:=a) jv (by rw[dZ];exact ha) λ_ _ jw=>iY cE jw eF<|bW (λgx=>?_) (λgx=>C λh=>by rw[gX.2 ⟨ha,h.2.2.1⟩]at gx;cases gx);have hD:=(gX.1 gx).2;refine bC CG lT (i:=s) hv (by rw[gq];exact hs) λ_ _ hG=>?_;rw[g1]at hG;refine aL lT hG eF λ_ jx=>bC eY cE (i:=b) jx (by rw[dZ];exact hb) λ_ _ jy=>iY cE jy eF<|bW (λgy=>?_) (λgy=>C λh=>by rw[gY.2 ⟨hb,h.2.2.2.1⟩]at gy;cases gy);have hH:=(gY.1 gy).2;refine fP<|Z1 (Q:=qB c a b r s) (λh=>⟨hR,hz,hD,hH,.inl (by have:=of_decide_eq_true h;omega)⟩) (λhB=>?_) (λjz h=>?_)
 ·refine oA (α:=Bool) (i:=b) rfl eY cE hb ?_;refine oC (α:=Bool) rfl cE g0 dZ hb zD λj8 gZ h4=>aU<|⟨gU-1,oo,s+1,oo,rfl,oo,M.trans (FJ gZ),?_⟩
  have h5:=Xu (n:=n) (q:=b) (p:=λq=>(q<b/\oT c a q)\/(q=b/\((∃r',r'<r/\∃s,qB c a b r' s)\/∃s',s'<s/\qB c a b r s'))) (p':=λq=>(q<b/\oT c a q)\/(q=b/\((∃r',r'<r/\∃s,qB c a b r' s)\/∃s',s'<s+1/\qB c a b r s'))) hb λq=>by
    constructor
    ·rintro(h|⟨e,_⟩)
     ·exact .inl (.inl h)
     exact .inr e
    rintro((h|⟨e,h|⟨s',h1,h2⟩⟩)|e)
    ·exact .inl h
    ·exact .inr ⟨e,.inl h⟩
    ·exact .inr ⟨e,.inr ⟨s',oo,h2⟩⟩
    exact .inr ⟨e,.inr ⟨s,oo,hB⟩⟩
  rw[<-h5];exact h4
 have jA:r=s:=by have:=of_decide_eq_false h;omega
 have gr:(BH c n).length=n:=by simp[BH]
 refine bC eY cE (i:=r) jc (by rw[gr];exact hr) λ_ _ hI=>?_;rw[show(BH c n)[r]'(by rw[gr];exact hr)=decide (bE c r/\rT c r) by simp only[BH,LS,Jz]]at hI;refine iY cE hI eF<|dG<|bW (λgs=>jz ⟨hR,hz,hD,hH,.inr λhS=>?_⟩) (λgs=>C λhB=>?_)
 ·rw[decide_eq_true (⟨hR,hS⟩:bE c r/\rT c r)]at gs;cases gs
 rcases hB.2.2.2.2 with h2|h2
 ·exact h2 jA
 rw[decide_eq_false (λh3:bE c r/\rT c r=>h2 h3.2)]at gs;cases gs
instance flatRawM:dN dM:=⟨λh=>h.1⟩
section
variable {w0 w w':wD}{lo hi g n:Nat}{out:vL}{L:List aR}{vs:List dM}{T:Nat->List bP}
end
def rj{l:List aR}(h:Is w0 v l)(hx:aB w0 w)(hn:l.length<=1000000000) :
   aJ tp 83 [v] w λr w'=>aB w w'/\eG w.heap.size w' r (vY l):=by
 refine co (g:=kf [] [] []) Tryz.func83 ?_;refine(zAt h hx oo).mono ?_;rintro _ _ ⟨g1,g2⟩;refine(yv g2.toI oo).mono ?_;rintro _ _ ⟨g3,g4⟩;refine(fe g4 (by rw[Z2];omega)).mono ?_;rintro _ _ ⟨g5,g9⟩;refine(et g9).mono ?_;rintro _ _ ⟨gb,g0⟩;rw[zF3]at g0;exact⟨((g1.xI g3 (lr _)).xI g5 (lr _)).trans gb,g0.own⟩
def ey{l:List aR}(h:aZ F w v l)(h1:Is W1 v1 x)(e1:aB W1 w)(hn:l.length<=1000000000) :
   aJ tp 96 [v,v1] w λr w'=>aB w w'/\∃F',aZ F' w' r (uE x l)/\∀b∈F',b∈F\/w.heap.size<=b:=by
 refine co (g:=kf [(4,2097056,[5]),(6,17177772048,[])] [(2,2097056,[5])] [(2,[0,1,2,3,4,5,6,7,8,9,10,11],0),(4,[0,1,2,3,4,5,6,7,8,9,10,11],0)]) Tryz.func96 ?_;have hI:=h.is;refine iR h1 e1 λw1 g0 hA=>dJ.mk (λus w'=>∃k:Nat,us=[iV k]/\aB w1 w'/\k<=l.length/\ahd x l=k) ?_ ?_
 ·refine bV l.length (λk us w'=>us=[iV k]/\aB w1 w'/\k<=l.length/\∀j(h:j<k)(h2:j<l.length),lI l[j] x) 0 (z0 _) ⟨rfl,xx,z0 _,λj h=>oo⟩ ?_;rintro k mk u w2 _ ⟨hu,g2,g1,g3⟩;try replace hu:=cJ hu
  rw[hu];have O:=cO w2;have C:=g2.t O;generalize World.drew1 w2=w3 at *;refine aX mC hI<|bM<|br (λhk=>?_) λhk=>?_
  ·have Z:k<l.length:=oo;refine bC mC lG hI Z λb1 o1 g4=>aL lG g4 xx λgg g5=>aL lG hA C λgh g9=>(uv g5 xx g9 C).mM λw4 M=>bW (λhc=>?_) λhc=>?_
   ·refine aU ?_;refine⟨mk-1,oo,k+1,oo,rfl,xx,oo,λj hj gi=>?_⟩;by_cases hjk:j<k
    ·exact g3 j hjk gi
    have:j=k:=oo;subst this;simpa using hc
   exact⟨k,rfl,xx,g1,Gy g1 (λj hj=>g3 j hj oo) λh=>by simpa using hc⟩
  exact⟨k,rfl,C,g1,Gy g1 (λj hj=>g3 j hj oo) λh=>oo⟩
 rintro u w2 ⟨k,hu,g2,g1,gj⟩;try replace hu:=cJ hu
 rw[hu];have D:=E7 x l;rw[gj]at D;refine dJ.mk (λus w'=>aB w1 w'/\uE x l=l.take k++(x :: l.drop k)) ?_ ?_
 ·have O:=cO w2;have C:=g2.t O;generalize World.drew1 w2=w3 at *;refine aX mC hI<|bM<|br (λhk=>?_) λhk=>?_
  ·have Z:k<l.length:=oo;rw[dif_pos Z]at D;refine bC mC lG hI Z λb1 o1 g4=>aL lG g4 xx λgg g5=>aL lG hA C λgh g9=>K9 g5 g9<|br (λhc=>?_) λhc=>?_
   ·rw[aP hc]at D;have hx:=g0.t C;exact⟨hx,F,by rw[D];exact h.ext hx,λb hb=>.inl hb⟩
   rw[aH hc]at D;exact⟨C,D⟩
  have Z:k=l.length:=oo;subst Z;rw[dif_neg oo]at D;exact⟨C,by rw[D];simp⟩
 rintro _ w3 ⟨O,gl⟩;rw[gl];have V:=g0.t O;have gn:=V.size;refine pR (α:=aR) mC lG λ_ w4 M gp=>?_;have hs4:=M.size;refine Xi (i:=(k:Int)) mC lG hI oo oo λ_ gq=>OX mC lG VA gp (lr _) gq xx (by simp[maxLen];omega) so λ_ w5 gc gr=>?_;have hs5:=gc.size;have gb:=(aC w4).xI gc (lr _);refine aL lG hA xx λ_ gs=>oS (lo2:=w5.heap.size) (hi2:=w5.heap.size) mC lG z46 VA dD gr oo (UD (gs.ext xx)) (lr _) oo (by simp[maxLen];omega) so λ_ w6 gd gt=>?_;have hs6:=gd.size;refine Ka (i:=(k:Int)) mC lG hI oo oo λ_ gx=>?_;have gf:aB w w6:=(V.t (M.t gb)).xI gd oo;refine OX mC lG VA gt oo gx gf (by simp[maxLen];omega) so λ_ _ gy gz=>⟨gf.xI gy oo,?_⟩;obtain⟨F',hM,hF⟩:=gz.own;refine⟨F',?_,λb hb=>.inr (by have:=hF b hb;omega)⟩;simpa using hM
open Classical in
noncomputable def sV(c:aF)(a b:bP):List aR:=if zB a b/\oT c (eC c a.at_).toNat (eC c b.at_).toNat then[DT a b]else[]
def nc(c:aF)(a b:bP):(sV c a b).length<=1:=by unfold sV;split<;>simp
noncomputable def MX(c:aF)(T:List bP)(i:Nat):List aR:=match T.drop i with
 |[]=>[]
 |a :: r=>(a :: r).flatMap (sV c a)
noncomputable def wH(c:aF)(T:List bP)(n:Nat):List aR:=(List.range n).flatMap (MX c T)
def Ci{T:List bP}(hi:i<T.length):MX c T i=(T.drop i).flatMap (sV c T[i]):=by
 unfold MX;rw[tD hi]
def Ni(c:aF)(a:bP)(L:List bP):(L.flatMap (sV c a)).length<=L.length:=by
 have:=SY (l:=L) (f:=sV c a) (B:=1) λb _=>nc c a b;omega
def ut(c:aF)(T:List bP)(i:Nat):(MX c T i).length<=T.length:=by
 rcases kR i T.length with h|h
 ·rw[Ci h];have:=Ni c T[i] (T.drop i);rw[wL]at this;omega
 unfold MX;rw[Bg h];simp
def Ld{T:List bP}(hT:T.length<=18000){n:Nat}(hn:n<=18000):(wH c T n).length<=324000000:=by
 have h1:=SY (l:=List.range n) (f:=MX c T) (B:=18000) λi _=>eH (ut c T i) hT;rw[KJ]at h1;unfold wH;omega
def Wv(c:aF)(T:List bP)(n:Nat):wH c T (n+1)=wH c T n++MX c T n:=by
 unfold wH;rw[HA,vW];simp
def Er(hc:aM c):(tF c).length<=18000:=Jj hc _ (eH pC hc.f.I)
structure UN(c:aF)(x:bP)(p:Nat):Prop where
 at_:x.at_=(p:Int)
 lt:p<c.I.length
 met:cD c p
 h0:0<=x.held
 h1:x.held<=63
def Zg(hc:aM c){x:bP}(h:x∈tF c):∃p,UN c x p:=by
 unfold tF at h;obtain⟨i,hi,hx⟩:=wM.1 h;obtain⟨h1,_⟩:=VC hx;have:=yL (Ge c) i;obtain⟨h3,h4⟩:=mG.1 hi;exact⟨i,h1,h3,h4,oo,oo⟩
def zGa(c:aF):(tF c).Pairwise λa b=>a.at_<=b.at_:=by
 unfold tF;refine SM.2 ⟨λi _=>?_,?_⟩
 ·refine List.pairwise_iff_forall_sublist.2 λ{a b} h=>?_;have h1:=VC (h.subset (by simp:a∈[a,b]));have h2:=VC (h.subset (by simp:b∈[a,b]));rw[h1.1,h2.1];omega
 have hr:(cC c.I.length (cD c)).Pairwise (λa b=>a<b):=by
   unfold cC;exact List.pairwise_lt_range.filter _
 refine hr.imp λ{i _} _ _ hx _ hy=>?_;have h1:=VC hx;have h2:=VC hy;rw[h1.1,h2.1];omega
def A2(h:dE c p i)(hj:j∈cQ c i):dE c p j:=by
 rcases h with rfl|h
 ·exact .inr (.one hj)
 exact .inr (h.trans (.one hj))
theorem Ti(hc:aM c){i:Nat}(h:cD c i):HJ c i:=by
 induction h with
 |root h=>exact⟨_,h.lt hc,.inl rfl⟩
 |call h ho _=>exact⟨_,(sW hc (h.lt hc) (.inl ho)).2,.inl rfl⟩
 |next _ _ hj ih=>obtain⟨p,hp,hl⟩:=ih;exact⟨p,hp,A2 hl hj⟩
 |back _ _ _ hj ih _=>obtain⟨p,hp,hl⟩:=ih;exact⟨p,hp,A2 hl hj⟩
def lb(hc:aM c){i j:Nat}(hi:cD c i)(hj:cD c j):A8 (sX c i) (sX c j) (OF c)↔oT c (eC c i).toNat (eC c j).toNat:=by
 have h1:=Ti hc hi;have h2:=Ti hc hj;have hb:∀k r,(sX c k).testBit r=true↔r<c.P.length/\Lb c k r:=λk r=>nW
 have hs:∀r,r<c.P.length->bE c r->((OF c).testBit r=false↔¬rT c r):=λr hr hR=>by
   have:=nW (n:=c.P.length) (p:=λr=>bE c r/\rT c r) (i:=r);unfold OF;constructor
   ·intro h hS;rw[this.2 ⟨hr,hR,hS⟩]at h;cases h
   intro h;cases e:(eM (λr=>bE c r/\rT c r) c.P.length).testBit r
   ·rfl
   exact absurd (this.1 e).2.2 h
 constructor
 ·rintro⟨r,t,hr,ht,h⟩;obtain⟨g3,_,C,g1⟩:=(hb _ _).1 hr;obtain⟨_,_,g0,g2⟩:=(hb _ _).1 ht;exact⟨r,t,C,g0,g1,g2,h.imp id (hs r g3 C).1⟩
 rintro⟨r,t,C,g0,g1,g2,h⟩;exact⟨r,t,(hb _ _).2 ⟨C.lt hc,h1,C,g1⟩,(hb _ _).2 ⟨g0.lt hc,h2,g0,g2⟩,h.imp id (hs r (C.lt hc) C).2⟩
def dg(hW:tI W0 b c)(e0:aB W0 w)(hc:aM c) :
   aJ tp 30 [pT b 0] w λr w'=>aB w w'/\eG w.heap.size w' r (vY (wH c (tF c) (tF c).length)):=by
 refine co (g:=kf [] [(5,288230376150664640,[6,20]),(8,144115187538986048,[6,29])] [(10,[0,1,2,3,4,5,6,7,8,9,10,11,12,13,14,15,16],0)]) Tryz.func30 ?_;refine(zwX hW e0 hc).mono ?_;rintro _ _ ⟨gJ,gZ⟩;refine(xq hW xx hc).mono ?_;rintro _ wb ⟨gK,_,rfl,h4⟩;refine fO rfl<|fO rfl ?_;have g4:=gJ.t gK;have gn:=gZ.is.ext gK;have gL:=h4.is;have h5:=Er hc;have gM:=λx(hx:x∈tF c)=>Zg hc hx;generalize tF c=T at *;have h6:=g4.size;have h8:=zd hc;refine aX wW gn<|bV T.length (λk us w'=>∃out lo hi,us=[out,iV k]/\k<=T.length/\aB wb w'/\wb.heap.size<=lo/\hi<=w'.heap.size/\bQ lo hi 46 w' out (wH c T k)) 0 (z0 _) ⟨_,wb.heap.size,wb.heap.size,rfl,z0 _,xx,lr _,iD _,uC _ _ _ _⟩ ?_;rintro i mk _ w3 _ ⟨out,lo0,h9,hu,_,g5,gp,gq,gr⟩;obtain⟨ha,hb⟩:=dQ hu;rw[ha,hb];refine bM ?_;have gs:=Ld (c:=c) h5 (n:=i) oo;refine br (λ_=>?_) λ_=>?_
 case refine_2=>
   have he:i=T.length:=oo;rw[he]at gr gs;refine(rj gr.is xx oo).mono ?_;rintro r w4 ⟨gh,hf⟩;exact⟨xx,hf.mono (by have:=g5.size;omega)⟩
 have hi:i<T.length:=oo;have gt:=Ci (c:=c) hi;have gx:=Wv c T i;obtain⟨pa,gi⟩:=gM T[i] (cY _);refine bC wW qQ (i:=i) gn hi λ_ _ hg=>?_;generalize hae:T[i]=a at *;refine aL qQ hg g5 λ_ gN=>mB Ed rfl qQ rfl gN g5 λw4 gh _ gO=>?_;have gy:=uT gN gO rfl;have hgl:w3.heap.size<w4.heap.size:=gO.lt;refine Ka (i:=(i:Int)) wW qQ gn oo so λ_ gz=>?_;rw[qM]at gz;have hDl:(T.drop i).length=T.length-i:=wL;have hh:∀x∈T.drop i,∃p,UN c x p:=λx hx=>gM x (List.mem_of_mem_drop hx);generalize T.drop i=D at *;refine aX wW gz<|bV D.length (λj us w'=>∃out lo hi,us=[out,iV j]/\j<=D.length/\aB wb w'/\w4.heap.size<=w'.heap.size/\iS wb w' w3.heap.size 0 a/\wb.heap.size<=lo/\hi<=w'.heap.size/\(w3.heap.size<lo\/hi<=w3.heap.size)/\bQ lo hi 46 w' out (wH c T i++(D.take j).flatMap (sV c a))) 0 (z0 _) ⟨out,lo0,h9,rfl,z0 _,xx,lr _,gy,gp,oo,.inr gq,by simpa using gr.ext gh⟩ ?_;rintro j mj _ _ _ ⟨V,lo,gP,hk,_,gj,_,gA,gB,hl,hd,gC⟩;obtain⟨gD,gE⟩:=dQ hk;rw[gD,gE];refine bM<|br (λ_=>?_) λ_=>?_
 case refine_2=>refine aU<|⟨mk-1,oo,i+1,oo,V,lo,gP,rfl,oo,gj,gB,hl,?_⟩;rw[iO oo]at gC;rw[gx,gt];exact gC
 have hj:j<D.length:=oo;have gQ:=ZP (f:=sV c a) hj;have hrl:=Ni c a (D.take j);have htl:=YS j D;obtain⟨pb,gl⟩:=hh D[j] (cY _);refine bC wW qQ (i:=j) gz hj λ_ _ hq=>?_;generalize hbe:D[j]=bb at *;refine aL qQ hq gj λ_ hr=>mB Ed rfl qQ rfl hr gj λw6 hs ht _=>?_;have gR:=cO w6;have O:=hs.t gR;have Z:=ht.ext gR;generalize World.drew1 w6=w7 at *;have g0:=gA.ext O;have g9:=gj.t O;have g1:=g0.at g9;have gS:=gC.ext O;have hv:=O.size;refine aL qQ g1 xx λ_ hw=>aL qQ Z xx λ_ hy=>(si hw xx hy xx).mono ?_;rintro _ _ ⟨gb,rfl⟩
 have gT:∀{w9:wD},aB w7 w9->¬(zB a bb/\oT c (eC c a.at_).toNat (eC c bb.at_).toNat)->RD tp (bin .add 3 (.tmp 0) (.const undef) (iV j) (iV 1)) w9 λhz=>∃m',m'<mj/\∃k',k'+m'=D.length/\∃out lo hi,[V,hz]=[out,iV k']/\k'<=D.length/\aB wb w9/\w4.heap.size<=w9.heap.size/\iS wb w9 w3.heap.size 0 a/\wb.heap.size<=lo/\hi<=w9.heap.size/\(w3.heap.size<lo\/hi<=w3.heap.size)/\bQ lo hi 46 w9 out (wH c T i++(D.take k').flatMap (sV c a)):=λg3 hn=>by
   have:=g3.size;refine aU<|⟨mj-1,oo,j+1,oo,V,lo,gP,rfl,oo,xx,oo,g0.ext g3,gB,oo,hd,?_⟩;rw[gQ];have:sV c a bb=[]:=by unfold sV;rw[aH hn]
   rw[this,oJ];exact gS.ext g3
 refine br (λgF=>?_) λgF=>?_
 case refine_2=>exact gT gb λh=>gF h.1
 have gU:∀i,i<c.I.length->i<(bN ((List.range c.I.length).map (sX c))).length:=λi hi=>by simp[bN];exact hi
 have gV:∀i(hi:i<(bN ((List.range c.I.length).map (sX c))).length),(bN ((List.range c.I.length).map (sX c)))[i]=((sX c i:Nat):Int):=λi hi=>by simp[bN]
 have gc:=g9.t gb;refine aE GH<|aS aG (GS g1) gb λ_=>?_;rw[gi.at_];refine bC bG aG (i:=pa) gL (gU pa gi.lt) λ_ _ gW=>?_;rw[gV]at gW;refine aS aG gW gc λ_=>aE GH<|aS aG (GS Z) gb λ_=>?_;rw[gl.at_];refine bC bG aG (i:=pb) gL (gU pb gl.lt) λ_ _ gd=>?_;rw[gV]at gd;refine aS aG gd gc λ_=>(zCK (Oh hc pa) (Oh hc pb) h8).mono ?_;rintro _ w9 ⟨g3,x,rfl,hx⟩;rw[lb hc gi.met gl.met]at hx;have gf:eC c a.at_=eC c pa:=by rw[gi.at_]
 have gg:eC c bb.at_=eC c pb:=by rw[gl.at_]
 have M:=gb.t g3;refine bW (λhA=>?_) λgX=>?_
 case refine_2=>refine gT M λh=>?_;have:=hx.2 (by rw[<-gf,<-gg];exact h.2);rw[this]at gX;cases gX
 have hB:oT c (eC c a.at_).toNat (eC c bb.at_).toNat:=by rw[gf,gg];exact hx.1 hA
 refine aL qQ g1 M λ_ hC=>aL qQ Z M λ_ hD=>(ui hC M hD M).mono ?_;rintro _ _ ⟨gG,gH⟩;have C:=M.t gG;have gY:=C.size;refine JZ (x:=DT a bb) mC lG z46 VA dD (gS.ext C) (gH 0 0) (by rw[eB,bX];omega) (by rw[bX];omega) λhF _ hG hH g2 gI _=>?_;have hI:=g2.size;have hsb:=g9.size;refine aU<|⟨mj-1,oo,j+1,oo,hF,hG,hH,rfl,oo,(g9.t C).xI g2 gB,oo,(g0.ext C).keep (g2.block _ oo hd),oo,oo,oo,?_⟩;rw[gQ];have:sV c a bb=[DT a bb]:=by unfold sV;rw[aP ⟨gF,hB⟩]
 rw[this,<-fR];exact gI
def Y0(h0:Is W0 v0 c)(e0:aB W0 w)(hc:aM c) :
   aJ tp 36 [v0] w λr w'=>aB w w'/\eG w.heap.size w' r (vY (wH c (tF c) (tF c).length)):=by
 refine co (g:=kf [] [(5,2417851639229258349380552,[3,6]),(8,2417851639229258345218952,[3,7])] [(12,[0,1,2,3,4,5,6,7,8,9,10,11,12,13,14,15,16,17,18,19,20,21,22,23,24,25,29,30,31,26,27,28,32,33,34,35],4362076160)]) Tryz.func36 ?_;refine iR h0 e0 λ_ gL hA=>pR (α:=aR) mC lG λgl _ gb _=>aL cP hA gb λ_ gZ=>(zAL gZ gb hc).mono λ_ _⟨gn,h4⟩=>aL cP hA xx λ_ h6=>(yh h6 xx hc).mono ?_;rintro _ wb ⟨gM,h8⟩;have D:=gb.t (gn.t gM);have gh:=h4.is.ext gM;have h9:=h8.is;have ha:=Er hc;have gN:=λx(hx:x∈tF c)=>Zg hc hx;have hd:=zGa c;generalize tF c=T at *;have hs1:=gL.size;have he:=D.size
 have hg:∀w:wD,aZ [] w (.slice (some gl) 0 0) (vY (wH c T 0)):=λw=>by
   have h:dU (α:=aR) [] 46 w (.slice (some gl) 0 0) []:=.inl ⟨some gl,rfl,rfl,rfl⟩;exact⟨h.own,kM,h.wr⟩
 refine bV T.length (λk us w'=>∃out F,us=[out,iV k]/\k<=T.length/\aB wb w'/\aZ F w' out (vY (wH c T k))/\∀b∈F,wb.heap.size<=b) 0 (z0 _) ⟨_,[],rfl,z0 _,xx,hg wb,ss⟩ ?_;rintro i mk _ _ _ ⟨out,F5,hu,_,gO,gp,gP⟩;obtain⟨hh,hk⟩:=dQ hu;rw[hh,hk];refine aX wW gh<|bM ?_;have hl:=Ld (c:=c) ha (n:=i) oo;refine br (λ_=>?_) λ_=>?_
 case refine_2=>
   have hq:i=T.length:=oo;rw[hq]at gp;exact⟨xx,F5,gp,λb hb=>by have:=gP b hb;omega⟩
 have hi:i<T.length:=oo;have gq:=Ci (c:=c) hi;have gr:=Wv c T i;obtain⟨_,gi⟩:=gN T[i] (cY _)
 have hr:∀j(hj:j<T.length),i<=j->T[i].at_<=T[j].at_:=λj hj gQ=>by
   by_cases e:i=j
   ·subst e;omega
   exact Dc.1 hd i j hi hj oo
 have hDl:(T.drop i).length=T.length-i:=wL;generalize hae:T[i]=a at *;refine bV T.length (λj us w'=>∃out F,us=[out,iV j]/\i<=j/\j<=T.length/\aB wb w'/\aZ F w' out (vY (wH c T i++((T.drop i).take (j-i)).flatMap (sV c a)))/\∀b∈F,wb.heap.size<=b) i oo ⟨out,F5,rfl,lr _,oo,gO,by simpa using gp,gP⟩ ?_;rintro j mj _ _ _ ⟨g1,F6,hs,gQ,_,g5,gs,gt⟩;obtain⟨gx,gy⟩:=dQ hs;rw[gx,gy];refine aX wW gh<|bM<|br (λ_=>?_) λ_=>?_
 case refine_2=>refine aU<|⟨mk-1,oo,i+1,oo,g1,F6,rfl,oo,g5,?_,gt⟩;rw[iO oo]at gs;rw[gr,gq];exact gs
 have hj:j<T.length:=oo;have hv:j-i<(T.drop i).length:=oo;have hw:(T.drop i)[j-i]=T[j]:=by rw[List.getElem_drop];congr 1;omega
 have gz:=ZP (f:=sV c a) hv;rw[hw,show j-i+1=j+1-i by omega]at gz;have hrl:=Ni c a ((T.drop i).take (j-i));have htl:=YS (j-i) (T.drop i);obtain⟨_,gj⟩:=gN T[j] (cY _);have hy:=hr j hj gQ;refine bC wW qQ (i:=i) gh hi λ_ _ gR=>?_;rw[hae]at gR;refine aL qQ gR g5 λ_ hD=>mB Ed rfl qQ rfl hD g5 λ_ gA hF _=>bC wW qQ (i:=j) gh hj λ_ _ hG=>?_;generalize hbe:T[j]=bb at *;refine aL qQ hG xx λ_ hH=>mB Ed rfl qQ rfl hH xx λw8 gS hI _=>?_;have gB:=cO w8;have M:=hF.ext (gS.t gB);have V:=hI.ext gB;have gc:=gA.t (gS.t gB);generalize World.drew1 w8=w9 at *;have gd:=g5.t gc;have gT:=gs.ext gc
 have g9:∀{gf:wD},aB w9 gf->¬(zB a bb/\oT c (eC c a.at_).toNat (eC c bb.at_).toNat)->RD tp (bin .add 3 (.tmp 0) (.const undef) (iV j) (iV 1)) gf λhJ=>∃m',m'<mj/\∃k',k'+m'=T.length/\∃out F,[g1,hJ]=[out,iV k']/\i<=k'/\k'<=T.length/\aB wb gf/\aZ F gf out (vY (wH c T i++((T.drop i).take (k'-i)).flatMap (sV c a)))/\∀b∈F,wb.heap.size<=b:=λO hn=>by
   refine aU<|⟨mj-1,oo,j+1,oo,g1,F6,rfl,oo,oo,xx,?_,gt⟩;rw[gz];have:sV c a bb=[]:=by unfold sV;rw[aH hn]
   rw[this,oJ];exact gT.ext O
 refine aE TV<|aS aG (SG M) xx λhK=>aE TV<|aS aG (SG V) xx λ_=>bI<|br (λgC=>?_) (λgC=>g9 xx λh=>gC h.1.1);refine aE Cw<|iY cE (ZI M) xx<|Z1 (Q:=a.write=true\/bb.write=true) .inl (λhL=>?_) λhM hf=>?_
 case refine_2=>
   refine aE Cw<|iY cE (ZI V) xx<|bW (λh=>hM (.inr h)) (λh=>g9 xx λh2=>?_);rcases h2.1.2.1 with h3|h3
   ·rw[h3]at hf;cases hf
   rw[h3]at h;cases h
 obtain⟨ma,gU⟩:=Cs gi.h0;obtain⟨mb,gV⟩:=Cs gj.h0;have h1a:=gi.h1;have h1b:=gj.h1;refine aE PU<|aS aG (QA M) xx λ_=>aE PU<|aS aG (QA V) xx λ_=>?_;rw[gU,gV];refine xV (m:=ma) (n:=mb) oo oo<|bI ?_
 have gW:zB a bb↔(a.global=bb.global/\(a.write=true\/bb.write=true)/\ma &&& mb=0):=by
   unfold zB;rw[gU,gV];simp only[qM];constructor
   ·rintro⟨h1,h2,_,_,h5⟩;exact⟨h1,h2,h5⟩
   rintro⟨h1,h2,h5⟩;exact⟨h1,h2,⟨oo,oo⟩,⟨oo,oo⟩,h5⟩
 refine br (λhz=>?_) (λhz=>g9 xx λh=>hz (by rw[(gW.1 h.1).2.2];rfl));have hC:zB a bb:=gW.2 ⟨gC,hL,oo⟩;refine aL cP hA xx λ_ hN=>aE GH<|aS aG (GS M) xx λhO=>aL cP hA xx λ_ hP=>aE GH<|aS aG (GS V) xx λhQ=>(VP (a:=a.at_) hN xx).mM λgf O=>?_;refine⟨O,?_⟩;obtain⟨qa,gX,gD,_⟩:=LR hc gi.lt;obtain⟨qb,gE,gF,_⟩:=LR hc gj.lt;have g2:eC c a.at_=(qa:Int):=by rw[gi.at_,gD]
 have g3:eC c bb.at_=(qb:Int):=by rw[gj.at_,gF]
 rw[g2,g3]at g9;simp only[qM]at g9;rw[g2];have gY:(DN c c.P.length).length=c.P.length:=by simp[DN]
 have Z:=gd.t O;refine bC CG lT (i:=qa) h9 (by rw[gY];exact gX) λ_ _ gg=>?_;rw[show(DN c c.P.length)[qa]'(by rw[gY];exact gX)=cZ c.P.length (oT c qa) by simp only[DN,LS,Jz]]at gg;refine aL lT gg Z λ_ hR=>(VP (a:=bb.at_) hP xx).mM λhS g4=>?_;refine⟨g4,?_⟩;rw[g3];have g0:=Z.t g4;have C:=O.t g4;have gG:=lY (n:=c.P.length) (p:=oT c qa) (i:=qb);rw[kS (by rw[dZ];exact gE)]at gG;refine bC eY cE (i:=qb) hR (by rw[dZ];exact gE) λ_ _ gH=>iY cE gH g0<|bW (λht=>?_) (λhf=>g9 C λh=>by rw[gG.2 ⟨gE,h.2⟩]at hf;cases hf);have hB:=(gG.1 ht).2;refine aE TV<|aS aG (SG M) C λ_=>aE GH<|aS aG (GS M) C λ_=>aE GH<|aS aG (GS V) C λ_=>fI (cells:=#[iV a.global,iV a.at_,iV bb.at_]) kK ?_
 have hT:DT a bb=⟨a.global,a.at_,bb.at_⟩:=by
   unfold DT;rw[show min a.at_ bb.at_=a.at_ by omega,show max a.at_ bb.at_=bb.at_ by omega]
 have hU:Is hS (.agg #[iV a.global,iV a.at_,iV bb.at_]) (DT a bb):=by
   rw[hT];exact OW.2 ⟨rfl,hK,hO,hQ⟩
 have hV:=Pp (wH c T i++((T.drop i).take (j-i)).flatMap (sV c a));rw[bX]at hV;refine(ey (gT.ext C) hU xx oo).mono λhW _⟨gI,hX,gJ,gK⟩=>aU<|⟨mj-1,oo,j+1,oo,hW,hX,rfl,oo,oo,xx,?_,λb hb=>?_⟩
 ·rw[gz]
  have:sV c a bb=[DT a bb]:=by
    unfold sV;rw[aP ⟨hC,by rw[g2,g3];simpa using hB⟩]
  rw[this,<-fR,tf];exact gJ
 rcases gK b hb with h|h
 ·exact gt b h
 have:=g0.size;omega
end Go.Proofs.YtcaakhmhlfgogaaGreatDoor
namespace Go.Sh
variable {i n:Nat}
def eZ(nx:Nat->List Nat):Nat->Nat->Nat->Prop
 |0,i,j=>j∈nx i
 |m+1,i,j=>eZ nx m i j\/(eZ nx m i m/\eZ nx m m j)
section
variable {nx:Nat->List Nat}{n m i j k:Nat}
theorem eZ.rp:∀{m i j:Nat},eZ nx m i j->RP nx i j
 |0,_,_,h=>.one h
 | m+1,_,_,h=>by
   rcases h with h|⟨h1,h2⟩
   ·exact eZ.rp h
   exact(eZ.rp h1).trans (eZ.rp h2)
theorem eZ.up(h:j∈nx i):∀m,eZ nx m i j
 |0=>h
 |m+1=>.inl (eZ.up h m)
def eZ.old{m i:Nat}(h:eZ nx (m+1) i m):eZ nx m i m:=by
 rcases h with h|⟨h,_⟩<;>exact h
def eZ.old'{m j:Nat}(h:eZ nx (m+1) m j):eZ nx m m j:=by
 rcases h with h|⟨_,h⟩<;>exact h
theorem eZ.cat:∀{m i j k:Nat},j<m->eZ nx m i j->eZ nx m j k->eZ nx m i k
 | m+1,i,j,k,hj,h1,h2=>by
   rcases FA (FD.1 hj)with hl|rfl
   ·rcases h1 with a|⟨a,b⟩
    ·rcases h2 with c|⟨c,d⟩
     ·exact .inl (eZ.cat hl a c)
     exact .inr ⟨eZ.cat hl a c,d⟩
    rcases h2 with c|⟨c,d⟩
    ·exact .inr ⟨a,eZ.cat hl b c⟩
    exact .inr ⟨a,d⟩
   exact .inr ⟨h1.old,h2.old'⟩
theorem eZ.iff(hn:∀ i j,j∈nx i->i<n/\j<n):eZ nx n i j↔RP nx i j:=by
 refine⟨eZ.rp,λh=>?_⟩
 induction h with
 |one h=>exact eZ.up h n
 |more _ h2 ih=>exact eZ.cat (hn _ _ h2).1 ih (eZ.up h2 n)
end
theorem Ky{p q:Nat->Prop}:∀n,(cC n p).length=(cC n λi=>p i/\q i).length+(cC n λi=>p i/\¬q i).length
 |0=>rfl
 | n+1=>by
   have ih:=Ky (p:=p) (q:=q) n;by_cases hp:p n
   ·by_cases hq:q n
    ·rw[AS hp,AS (p:=λi=>p i/\q i) ⟨hp,hq⟩,xU (p:=λi=>p i/\¬q i) λh=>h.2 hq];simp only[bX,FG];omega
    rw[AS hp,xU (p:=λi=>p i/\q i) λh=>hq h.2,AS (p:=λi=>p i/\¬q i) ⟨hp,hq⟩];simp only[bX,FG];omega
   rw[xU hp,xU (p:=λi=>p i/\q i) λh=>hp h.1,xU (p:=λi=>p i/\¬q i) λh=>hp h.1];exact ih
def Hj{p:Nat->Prop}(hi:i<n)(hp:p i):0<(cC n p).length:=Cx (mG.2 ⟨hi,hp⟩)
def Vg{n x:Nat}{p q:Nat->Prop}(h:∀ i,i<n->p i->q i)(hx:x<n)(hq:q x)(hp:¬p x):(cC n p).length<(cC n q).length:=by
 have h1:=Ky (p:=q) (q:=p) n;have h2:(cC n λi=>q i/\p i)=cC n p:=Ew λi hi=>⟨λh=>h.2,λk=>⟨h i hi k,k⟩⟩;have:=Hj (p:=λi=>q i/\¬p i) hx ⟨hq,hp⟩;rw[h2]at h1;omega
section
variable (n:Nat)(way:Nat->Nat->Prop)
def kY(i j:Nat):Prop:=j=i\/(way i j/\way j i)
def vJ(told:Nat->Prop)(i:Nat):Prop:=i<n/\¬told i/\∀j,j<n->way i j->way j i\/told j
open Classical in
noncomputable def vV(told:Nat->Prop):Option Nat:=(List.range n).find? λi=>decide (vJ n way told i)
def AT(told:Nat->Prop)(i j:Nat):Prop:=told j\/kY way i j
noncomputable def zE:Nat->(Nat->Prop)->List (List Nat)
 |0,_=>[]
 | f+1,told=>match vV n way told with
   |none=>[]
   |some i=>cC n (kY way i) :: zE f (AT way told i)
noncomputable def tY(told:Nat->Prop):Nat:=(cC n λi=>¬told i).length
noncomputable def WK:List (List Nat):=zE n way n λ_=>False
def Whole(told:Nat->Prop):Prop:=∀i j,told j->way i j->way j i->told i
end
section
variable {n:Nat}{way:Nat->Nat->Prop}{told:Nat->Prop}{i f:Nat}
def Bp:vV n way told=none↔∀i,¬vJ n way told i:=by
 unfold vV;rw[List.find?_eq_none];simp only[rC,lZ];exact⟨λh i hi=>h i hi.1 hi,λh i _=>h i⟩
def WM(h:vV n way told=some i):vJ n way told i:=by
 unfold vV at h;simpa using List.find?_some h
theorem Kv(h:vJ n way told i)(hm:∀ j,j<i->¬vJ n way told j):vV n way told=some i:=by
 cases e:vV n way told with
 |none=>exact absurd h (Bp.1 e i)
 | some k=>
   have hk:=WM e;unfold vV at e;rw[List.find?_eq_some_iff_append]at e;obtain⟨_,l1,_,hr,ha⟩:=e;rcases XB i k with hl|rfl|hl
   ·exfalso;have h1:(List.range n)[l1.length]?=some k:=by rw[hr];simp
    have:l1.length=k:=by
      obtain⟨h3,h4⟩:=List.getElem?_eq_some_iff.1 h1;simpa using h4
    have h3:i∈l1:=by
      have h4:(List.range n)[i]?=some i:=by simp[h.1]
      rw[hr,List.getElem?_append_left oo]at h4;exact List.mem_of_getElem? h4
    simpa[h]using ha i h3
   ·rfl
   exact absurd hk (hm k hl)
def zw2(hi:i<n)(h:¬told i):tY n (AT way told i)<tY n told:=
 Vg (λj _ hj=>λhj'=>hj (.inl hj')) hi h λhj=>hj (.inr (.inl rfl))
theorem Tn(h:vV n way told=none):zE n way f told=[]:=by
 cases f with
 |zero=>rfl
 |succ f=>simp only[zE,h]
theorem u0(hf:tY n told<=f)(h:vV n way told=some i):∃f',zE n way f told=cC n (kY way i) :: zE n way f' (AT way told i)/\tY n (AT way told i)<=f'/\f=f'+1:=by
 have ho:=WM h;have:=zw2 (way:=way) ho.1 ho.2.1;cases f with
 |zero=>omega
 |succ f=>exact⟨f,by simp only[zE,h],oo,rfl⟩
def Qq:tY n told<=n:=pC
def wz(h:tY n told=0):vV n way told=none:=Bp.2 λi hi=>by
 have:=Hj (p:=λi=>¬told i) hi.1 hi.2.1;unfold tY at h;omega
def Whole.start:Whole way λ_=>False:=λ_ _ h _ _=>h
def Whole.more(ht:∀ i j k,way i j->way j k->way i k)(h:Whole way told):Whole way (AT way told i):=λa b hb h1 h2=>by
 rcases hb with hb|rfl|⟨h3,h4⟩
 ·exact .inl (h a b hb h1 h2)
 ·exact .inr (.inr ⟨h2,h1⟩)
 exact .inr (.inr ⟨ht _ _ _ h3 h2,ht _ _ _ h1 h4⟩)
def qs(h:Whole way told)(hi:¬told i):tY n told=tY n (AT way told i)+(cC n (kY way i)).length:=by
 have h1:=Ky (p:=λj=>¬told j) (q:=kY way i) n
 have h2:(cC n λj=>¬told j/\kY way i j)=cC n (kY way i):=Ew λj _=>⟨λh=>h.2,λhp=>⟨λhj=>by
   rcases hp with rfl|⟨h3,h4⟩
   ·exact hi hj
   exact hi (h i j hj h3 h4),hp⟩⟩
 have h3:(cC n λj=>¬told j/\¬kY way i j)=cC n λj=>¬AT way told i j:=Ew λj _=>by
   unfold AT;exact not_or.symm
 rw[h2,h3]at h1;unfold tY;omega
theorem T6(ht:∀ i j k,way i j->way j k->way i k):∀(m i:Nat),(cC n λj=>j=i\/way i j).length<=m->i<n->¬told i->∃j,vJ n way told j
 |0,i,hm,hi,hti=>by have:=Hj (p:=λj=>j=i\/way i j) hi (.inl rfl);omega
 | m+1,i,hm,hi,hti=>by
   by_cases ho:vJ n way told i
   ·exact⟨i,ho⟩
   have:∃j,j<n/\way i j/\¬way j i/\¬told j:=by
     refine QW λg0=>ho ⟨hi,hti,λj hj hw=>?_⟩;refine QW λhx=>g0 ⟨j,hj,hw,λh=>hx (.inl h),λh=>hx (.inr h)⟩
   obtain⟨j,hj,hw,hb,g1⟩:=this
   have hlt:(cC n λk=>k=j\/way j k).length<(cC n λk=>k=i\/way i k).length:=by
     refine Vg (x:=i) (λk _ hk=>?_) hi (.inl rfl) ?_
     ·rcases hk with rfl|hk
      ·exact .inr hw
      exact .inr (ht _ _ _ hw hk)
     rintro(rfl|h)
     ·exact hb hw
     exact hb h
   exact T6 ht m j oo hj g1
theorem xc(ht:∀ i j k,way i j->way j k->way i k)(h:0<tY n told):∃i,vV n way told=some i:=by
 unfold tY at h;obtain⟨i,hi⟩:=List.exists_mem_of_length_pos h;obtain⟨h1,h2⟩:=mG.1 hi;obtain⟨j,hj⟩:=T6 ht _ i (lr _) h1 h2;cases e:vV n way told with
 |none=>exact absurd hj (Bp.1 e j)
 |some k=>exact⟨k,rfl⟩
theorem Kn:∀{f:Nat}{told:Nat->Prop},Whole way told->(ht:∀i j k,way i j->way j k->way i k)->∀p∈zE n way f told,∃i,i<n/\¬told i/\p=cC n (kY way i)
 |0,_,_,_,p,hp=>by cases hp
 | f+1,told,hw,ht,p,hp=>by
   simp only[zE]at hp;cases e:vV n way told with
   |none=>rw[e]at hp;cases hp
   | some i=>
     rw[e]at hp;have ho:=WM e;rcases bF.1 hp with rfl|hp
     ·exact⟨i,ho.1,ho.2.1,rfl⟩
     obtain⟨j,h1,h2,h3⟩:=Kn (hw.more ht) ht p hp;exact⟨j,h1,λh=>h2 (.inl h),h3⟩
theorem O8:∀{f:Nat}{told:Nat->Prop},Whole way told->(ht:∀i j k,way i j->way j k->way i k)->(zE n way f told).Pairwise λa b=>∀x∈a,x∉b
 |0,_,_,_=>.nil
 | f+1,told,hw,ht=>by
   simp only[zE];cases e:vV n way told with
   |none=>exact .nil
   | some i=>
     refine AZ.2 ⟨λp hp x hx hxp=>?_,O8 (hw.more ht) ht⟩;obtain⟨j,h1,h2,rfl⟩:=Kn (hw.more ht) ht p hp;have h3:=(mG.1 hx).2;have h4:=(mG.1 hxp).2;rcases h4 with rfl|⟨h5,h6⟩
     ·exact h2 (.inr h3)
     exact h2 ((hw.more (i:=i) ht) j x (.inr h3) h5 h6)
theorem L2:∀{f:Nat}{told:Nat->Prop},(zE n way f told).length<=f
 |0,_=>iD _
 | f+1,told=>by
   simp only[zE];cases vV n way told with
   |none=>simp
   |some i=>simp only[dA];have:=L2 (f:=f) (told:=AT way told i);omega
def dp(h:i<n):cC n (kY way i)≠[]:=List.ne_nil_of_mem (mG.2 ⟨h,.inl rfl⟩)
end
end Go.Sh
namespace Go.Proofs.YtcaakhmhlfgogaaGreatDoor
open Go Go.Sh Go.Proofs
open Rep (rep)
variable {b n o:Nat}{w:wD}
structure dB where
 fr:Int
 to:Int
def dB.ext_iff{x y:dB}:x=y↔(x.fr=y.fr/\x.to=y.to):=⟨λh=>by rw[h];exact⟨rfl,rfl⟩,λh=>by obtain⟨h0,h1⟩:=h;cases x;cases y;simp only at h0 h1;simp only[h0,h1]⟩
instance:DecidableEq dB:=λx y=>decidable_of_iff (x.fr=y.fr/\x.to=y.to) dB.ext_iff.symm
instance:Rep dB:=Rep.via λx=>(x.fr,x.to)
def UV{x:dB}(h:At w b o x):At w b (o+0) x.fr:=qI (α:=Int) (β:=Int) (p:=(x.fr,x.to)) h
def VJ{x:dB}(h:At w b o x):At w b (o+1) x.to:=kE (α:=Int) (β:=Int) (p:=(x.fr,x.to)) h
instance:aV dB:=⟨⟨(aV.zv:Int),(aV.zv:Int)⟩,aV.zc (Int×Int),λw=>aV.zr (α:=Int×Int) w⟩
instance:dN dB:=⟨λh=>dN.flat (α:=Int×Int) h⟩
noncomputable def eD(n:Nat)(A:List dB)(i:Nat):List Nat:=cC n λj=>i<n/\(⟨i,j⟩:dB)∈A
def R7{A:List dB}:∀i j,j∈eD n A i->i<n/\j<n:=λi j h=>by
 obtain⟨h1,h2⟩:=mG.1 h;exact⟨h2.1,h1⟩
def zM(nx:Nat->List Nat)(p:List Nat):Prop:=∃x∈p,RP nx x x
end Go.Proofs.YtcaakhmhlfgogaaGreatDoor
namespace Go.Sh
open Rep (rep)
instance:Rep Nat where
 size:=1
 agg:=false
 rep F _ cs x:=F=[]/\cs=[.int .u64 (x:Int)]/\x<18446744073709551616
 pos:=by decide
 sz _:=rfl
 len:=by rintro _ _ _ _ ⟨_,rfl,_⟩;rfl
 one:=by rintro _ _ _ _ ⟨_,rfl,_⟩ v hv;simp at hv;subst hv;rfl
 keep:=by rintro _ _ _ _ _ h _;exact h
 lt:=by rintro _ _ _ _ ⟨rfl,_⟩ b hb;cases hb
instance:dN Nat:=⟨λh=>h.1⟩
instance:aV Nat:=⟨0,[.int .u64 0],λ_=>⟨rfl,rfl,by decide⟩⟩
section
variable {P:pG}{w w0:wD}{K:vL->Prop}{t:TypeId}{x y:Operand}
def wh{x:Nat}(h:x<18446744073709551616):aZ [] w (.int .u64 (x:Int)) x:=⟨⟨_,⟨rfl,rfl,h⟩,rfl⟩,kM,Wr.nil w⟩
def K5{t by_ b o:Nat}{x:Nat}(ht:cT P t=some (1,by_,false))(h:At w0 b o x)(hx:aB w0 w)(k:K (.int .u64 (x:Int))):RD P (Instr.loadAt t (pT b o)) w K:=
 aL (α:=Nat) ht h hx λv hv=>by
   obtain⟨F,cs,⟨_,rfl,_⟩,rfl⟩:=hv;exact k
def YO{n:Nat}(h:n<18446744073709551616):IntKind.u64.wrap (n:Int)=(n:Int):=by simp[IntKind.wrap,IntKind.signed,IntKind.bits];omega
def Dp{m n:Nat}(hm:m<4611686018427387904)(hn:n<4611686018427387904)(k:K (.int .u64 ((m ||| n:Nat):Int))):RD P (bin .or t x y (.int .u64 (m:Int)) (.int .u64 (n:Int))) w K:=by
 have:m ||| n<2^62:=zO hm hn;refine dY (λw' _=>?_) k
 have e2:((BitVec.ofInt 64 (m:Int)) ||| (BitVec.ofInt 64 (n:Int))).toNat=m ||| n:=by
   simp only[BitVec.toNat_or,BitVec.ofInt_natCast,BitVec.toNat_ofNat];rw[EF oo,EF oo]
 show(do eqGuard .or t x y (.int .u64 (m:Int)) (.int .u64 (n:Int));binOp .or t (.int .u64 (m:Int)) (.int .u64 (n:Int)):Sem vL).run P w'=_;simp only[eqGuard,binOp,Op.intBits];show Result.ok (Value.int .u64 (IntKind.u64.wrap (((BitVec.ofInt 64 (m:Int)) ||| (BitVec.ofInt 64 (n:Int))).toNat:Nat))) w'=_;rw[e2,YO oo]
def SK{m n:Nat}(hm:m<4611686018427387904)(hn:n<4611686018427387904)(k:K (.int .u64 ((m &&& n:Nat):Int))):RD P (bin .and t x y (.int .u64 (m:Int)) (.int .u64 (n:Int))) w K:=by
 refine dY (λw' _=>?_) k
 have e2:((BitVec.ofInt 64 (m:Int)) &&& (BitVec.ofInt 64 (n:Int))).toNat=m &&& n:=by
   simp only[BitVec.toNat_and,BitVec.ofInt_natCast,BitVec.toNat_ofNat];rw[EF oo,EF oo]
 show(do eqGuard .and t x y (.int .u64 (m:Int)) (.int .u64 (n:Int));binOp .and t (.int .u64 (m:Int)) (.int .u64 (n:Int)):Sem vL).run P w'=_;simp only[eqGuard,binOp,Op.intBits];show Result.ok (Value.int .u64 (IntKind.u64.wrap (((BitVec.ofInt 64 (m:Int)) &&& (BitVec.ofInt 64 (n:Int))).toNat:Nat))) w'=_;rw[e2,YO oo]
def W7{m n:Nat}(hm:m<4611686018427387904)(hn:n<4611686018427387904)(k:K (.int .u64 ((sH m n:Nat):Int))):RD P (bin .andNot t x y (.int .u64 (m:Int)) (.int .u64 (n:Int))) w K:=by
 refine dY (λw' _=>?_) k
 have e2:((BitVec.ofInt 64 (m:Int)) &&& ~~~(BitVec.ofInt 64 (n:Int))).toNat=sH m n:=by
   apply KW;intro i;have g0:m<2^64:=oo;simp only[BitVec.testBit_toNat,BitVec.getLsbD_and,BitVec.getLsbD_not,BitVec.ofInt_natCast,BitVec.getLsbD_ofNat,AE];by_cases hi:i<64
   ·simp[hi]
   have:m.testBit i=false:=PE (kP g0 (tX oo oo));simp[hi,this]
 show(do eqGuard .andNot t x y (.int .u64 (m:Int)) (.int .u64 (n:Int));binOp .andNot t (.int .u64 (m:Int)) (.int .u64 (n:Int)):Sem vL).run P w'=_;simp only[eqGuard,binOp,Op.intBits];show Result.ok (Value.int .u64 (IntKind.u64.wrap (((BitVec.ofInt 64 (m:Int)) &&& ~~~(BitVec.ofInt 64 (n:Int))).toNat:Nat))) w'=_;rw[e2,YO oo]
def TF{m n:Nat}{ku:IntKind}(hm:m<4611686018427387904)(k:K (.int .u64 ((m >>> n:Nat):Int))):RD P (bin .shr t x y (.int .u64 (m:Int)) (.int ku (n:Int))) w K:=by
 refine dY (λw' _=>?_) k;have e0:¬((n:Int)<0):=oo
 have e1:(m:Int).fdiv (2^(min n 64))=((m >>> n:Nat):Int):=by
   rw[QL];have h2:((2:Int)^(min n 64))=((2^(min n 64):Nat):Int):=by simp
   rw[h2,Vc _ (Int.natCast_nonneg _),<-Int.natCast_ediv];by_cases h:n<=64
   ·rw[GJ h]
   rw[Nat.min_eq_right oo,WP oo,WP (kP (by omega:m<2^64) (tX oo oo))]
 show(do eqGuard .shr t x y (.int .u64 (m:Int)) (.int ku (n:Int));binOp .shr t (.int .u64 (m:Int)) (.int ku (n:Int)):Sem vL).run P w'=_;simp only[eqGuard,binOp,Op.shift,e0,if_false,qM];show Result.ok (Value.int .u64 ((m:Int).fdiv (2^(min n 64)))) w'=_;rw[e1]
def Fx{n:Nat}{ku:IntKind}(hn:n<62)(k:K (.int .u64 ((2^n:Nat):Int))):RD P (bin .shl t x y (.int .u64 1) (.int ku (n:Int))) w K:=by
 refine dY (λw' _=>?_) k;have:(2^n:Nat)<4611686018427387904:=CX oo hn;have e1:IntKind.u64.wrap ((2^n:Nat):Int)=((2^n:Nat):Int):=YO oo;have e0:¬((n:Int)<0):=oo;have e2:min n 64=n:=oo;show(do eqGuard .shl t x y (.int .u64 1) (.int ku (n:Int));binOp .shl t (.int .u64 1) (.int ku (n:Int)):Sem vL).run P w'=_;simp only[eqGuard,binOp,Op.shift,e0,if_false,qM];show Result.ok (Value.int .u64 (IntKind.u64.wrap ((1:Int)*2^(min n 64)))) w'=_;rw[e2,<-e1];simp
end
end Go.Sh
namespace Go.Proofs.YtcaakhmhlfgogaaGreatDoor
open Go Go.Sh Go.Proofs
open Rep (rep)
variable {W1 w:wD}{i m n:Nat}{v1:vL}
section
variable {nx:Nat->List Nat}{n m i j k t:Nat}{A:List dB}{p q:Nat->Prop}
def kr:eZ nx (m+1) m j↔eZ nx m m j:=⟨eZ.old',.inl⟩
def Dr:eM p n ||| eM q n=eM (λi=>p i\/q i) n:=BO λi=>by
 rw[vA,vB,nW,nW];exact⟨λh=>h.elim (λh=>⟨h.1,.inl h.2⟩) λh=>⟨h.1,.inr h.2⟩,λ⟨h,h'⟩=>h'.elim (λh'=>.inl ⟨h,h'⟩) λh'=>.inr ⟨h,h'⟩⟩
def Hm(hi:i<n):2^i=eM (λj=>j=i) n:=BO λj=>by
 rw[AQ,lZ];exact⟨λh=>⟨h▸hi,h.symm⟩,λh=>h.2.symm⟩
def tn:0=eM (λ_=>False) n:=BO λj=>by simp
def DV(hn:n<=60):eM p n<4611686018427387904:=kP RJ (eH (tX (n:=2) oo hn) dD)
def uq(hn:n<=60):eM p n<18446744073709551616:=Nat.lt_trans (DV hn) dD
noncomputable def pZ(nx:Nat->List Nat)(n m k:Nat):List Nat:=(List.range n).map λi=>eM (eZ nx (if i<k then m+1 else m) i) n
def EV:(pZ nx n m k).length=n:=by simp[pZ]
def IC(h:i<(pZ nx n m k).length):(pZ nx n m k)[i]=eM (eZ nx (if i<k then m+1 else m) i) n:=by simp[pZ]
def zw5(h:m<(pZ nx n m k).length):(pZ nx n m k)[m]=eM (eZ nx m m) n:=by
 rw[IC];refine wN λ_ _=>?_;split
 ·exact kr
 exact .rfl
def qk:pZ nx n m n=pZ nx n (m+1) 0:=FU λi hi=>by
 rw[aP (rC.1 hi),aH oo]
def zw7(x:Nat)(hx:x=eM (eZ nx (m+1) k) n)(hk:k<n):(pZ nx n m k).set k x=pZ nx n m (k+1):=by
 subst hx;refine wE (by simp[pZ]) λi _ _=>?_;rw[XH,IC,IC];by_cases h:k=i
 ·subst h;rw[aP rfl,aP oo]
 rw[aH h];by_cases h3:i<k
 ·rw[aP h3,aP oo]
 rw[aH h3,aH oo]
def zt(h:¬eZ nx m k m):pZ nx n m k=pZ nx n m (k+1):=FU λi _=>by
 by_cases h3:i<k
 ·rw[aP h3,aP oo]
 rw[aH h3];by_cases h4:i<k+1
 ·have:i=k:=oo;subst this;rw[aP h4];exact wN λ_ _=>⟨.inl,λh'=>h'.elim id λh'=>absurd h'.1 h⟩
 rw[aH h4]
def zIz(h:eZ nx m k m):eM (eZ nx m k) n ||| eM (eZ nx m m) n=eM (eZ nx (m+1) k) n:=by
 rw[Dr];exact wN λ_ _=>⟨λh'=>h'.elim .inl λh'=>.inr ⟨h,h'⟩,λh'=>h'.elim .inl λh'=>.inr h'.2⟩
noncomputable def GB(nx:Nat->List Nat)(n:Nat):List Nat:=(List.range n).map λi=>eM (RP nx i) n
def Uw:(GB nx n).length=n:=by simp[GB]
def L3(h:i<(GB nx n).length):(GB nx n)[i]=eM (RP nx i) n:=by simp[GB]
def zAR(hn:∀ i j,j∈nx i->i<n/\j<n):pZ nx n n 0=GB nx n:=FU λi hi=>by
 rw[aH oo];exact wN λj _=>eZ.iff hn
def vd:eD n []=λ_=>[]:=by
 funext i;unfold eD cC;rw[U4];intro _ _ h;simp at h
def E8{a:dB}(hf:a.fr=(i:Int))(ht:a.to=(k:Int))(hi:i<n)(hk:k<n){x y:Nat}:y∈eD n (A++[a]) x↔y∈eD n A x\/(x=i/\y=k):=by
 unfold eD;simp only[mG,dF,oY,dB.ext_iff,hf,ht];constructor
 ·rintro⟨h1,h2,h3|⟨h3,h4⟩⟩
  ·exact .inl ⟨h1,h2,h3⟩
  exact .inr ⟨xC.1 h3,xC.1 h4⟩
 rintro(⟨h1,h2,h3⟩|⟨rfl,rfl⟩)
 ·exact⟨h1,h2,.inl h3⟩
 exact⟨hk,hi,.inr ⟨rfl,rfl⟩⟩
def nk:List.replicate n 0=pZ (eD n []) n 0 0:=by
 refine wE (by simp[pZ]) λ_ _ _=>?_;rw[IC,Im];refine BO λ_=>?_;rw[aH oo,vd];simp[eZ]
def sk{a:dB}(hf:a.fr=(i:Int))(ht:a.to=(k:Int))(hi:i<n)(hk:k<n)(h:i<(pZ (eD n A) n 0 0).length) :
   (pZ (eD n A) n 0 0).set i ((pZ (eD n A) n 0 0)[i] ||| 2^k)=pZ (eD n (A++[a])) n 0 0:=by
 refine wE (by simp[pZ]) λx _ _=>?_;rw[XH];simp only[IC,Hm hk,Dr];by_cases hx:i=x
 ·subst hx;rw[aP rfl,aH oo];refine wN λj _=>?_;show _↔j∈eD n (A++[a]) i;rw[E8 hf ht hi hk];exact⟨λh=>h.elim .inl λh=>.inr ⟨rfl,h⟩,λh=>h.elim .inl λh=>.inr h.2⟩
 rw[aH hx,aH oo];refine wN λj _=>?_;show j∈eD n A x↔j∈eD n (A++[a]) x;rw[E8 hf ht hi hk];exact⟨.inl,λh=>h.elim id λh=>absurd h.1.symm hx⟩
end
section
variable {n i j f:Nat}{way:Nat->Nat->Prop}{told:Nat->Prop}
def GQ(way:Nat->Nat->Prop)(i j x:Nat):Prop:=x=i\/(x<j/\way i x/\way x i)
def zxa(hi:i<n):2^i=eM (GQ way i 0) n:=by
 rw[Hm hi];exact wN λ_ _=>⟨.inl,λh=>h.elim id λh=>oo⟩
def zAT(hj:j<n)(h1:way i j)(h2:way j i):eM (GQ way i j) n ||| 2^j=eM (GQ way i (j+1)) n:=by
 rw[Hm hj,Dr];refine wN λ_ _=>?_;unfold GQ;constructor
 ·rintro((h|h)|rfl)
  ·exact .inl h
  ·exact .inr ⟨oo,h.2⟩
  exact .inr ⟨oo,h1,h2⟩
 rintro(h|⟨h3,h4⟩)
 ·exact .inl (.inl h)
 rcases FA (FD.1 h3)with h5|h5
 ·exact .inl (.inr ⟨h5,h4⟩)
 exact .inr h5
def Re(h:¬(way i j/\way j i)):eM (GQ way i j) n=eM (GQ way i (j+1)) n:=by
 refine wN λ_ _=>?_;unfold GQ;constructor
 ·rintro(h1|h1)
  ·exact .inl h1
  exact .inr ⟨oo,h1.2⟩
 rintro(h1|⟨h3,h4⟩)
 ·exact .inl h1
 rcases FA (FD.1 h3)with h5|h5
 ·exact .inr ⟨h5,h4⟩
 subst h5;exact absurd h4 h
def fa:eM (GQ way i n) n=eM (kY way i) n:=wN λx hx=>
 ⟨λh=>h.elim .inl λh=>.inr h.2,λh=>h.elim .inl λh=>.inr ⟨hx,h⟩⟩
def tg(hi:i<n)(ht:¬told i):sH (sH (eM (way i) n) (eM (kY way i) n)) (eM told n)=0↔vJ n way told i:=by
 constructor
 ·intro h;refine⟨hi,ht,λj hj hw=>?_⟩;have h1:(sH (sH (eM (way i) n) (eM (kY way i) n)) (eM told n)).testBit j=false:=by rw[h];simp
  rw[AE,AE]at h1;have h2:(eM (way i) n).testBit j=true:=nW.2 ⟨hj,hw⟩;rw[h2]at h1;by_cases h3:(eM told n).testBit j=true
  ·exact .inr (nW.1 h3).2
  have h4:(eM (kY way i) n).testBit j=true:=by
    cases e:(eM (kY way i) n).testBit j
    ·simp[e,h3]at h1
    rfl
  rcases(nW.1 h4).2 with rfl|h5
  ·exact .inl hw
  exact .inl h5.2
 rintro⟨_,_,h⟩;refine KW λj=>?_;rw[AE,AE,ZB];cases e:(eM (way i) n).testBit j
 ·simp
 obtain⟨hj,hw⟩:=nW.1 e;rcases h j hj hw with h1|h1
 ·have:(eM (kY way i) n).testBit j=true:=nW.2 ⟨hj,.inr ⟨hw,h1⟩⟩;simp[this]
 have:(eM told n).testBit j=true:=nW.2 ⟨hj,h1⟩;simp[this]
def rz(h:i<n):eM told n ||| eM (kY way i) n=eM (AT way told i) n:=Dr
end
def ib:kO tp 207=some [.int .u64 0]:=by kernel_rfl
structure RU(w0 w:wD)(v:vL)(l:List Nat):Prop where
 ext:aB w0 w
 own:eG w0.heap.size w v l
section
variable {w0 w w':wD}{v:vL}{l:List Nat}{i m n:Nat}
def RU.step(h:RU w0 w v l)(hx:aB w w'):RU w0 w' v l:=⟨h.ext.trans hx,h.own.ext hx⟩
def RU.get{K:vL->Prop}(h:RU w0 w v l)(hi:i<l.length)(k:K (.int .u64 (l[i]:Int))) :
   RD tp (Instr.indexAt 205 v (iV i)) w λa=>RD tp (Instr.loadAt 207 a) w K:=
 bC QX MO h.own.is hi λb o hA=>K5 MO hA xx k
def Ej{w1:wD}{K:vL->Prop}(h:Is w1 v l)(hx:aB w1 w)(hi:i<l.length)(k:K (.int .u64 (l[i]:Int))) :
   RD tp (Instr.indexAt 205 v (iV i)) w λa=>RD tp (Instr.loadAt 207 a) w K:=
 bC QX MO h hi λb o hA=>K5 MO hA hx k
def RU.set{K:wD->Prop}(h:RU w0 w v l)(hi:i<l.length)(hm:m<18446744073709551616)(k:∀ w',RU w0 w' v (l.set i m)->K w') :
   RD tp (Instr.indexAt 205 v (iV i)) w λa=>fA tp (Instr.storeAt 207 a (.int .u64 (m:Int))) w K:=by
 obtain⟨_,hM,hF⟩:=h.own;refine JN QX MO hM hi λb _ _ hL=>KU (upd:=λy=>l.set i y) (y':=m) MO hL (wh hm) λw2 F2 g0 g1 g2=>k w2 ⟨h.ext.chg_trans g0 hF,F2,g1,λb hb=>hF b (g2 b hb)⟩
def zCR{K:VW}(hn:n<=60)(k:∀ v w',RU w w' v (List.replicate n 0)->K v w'):OP tp (Instr.makeSlice 205 (iV n) (iV n)) w K:=
 SX (α:=Nat) QX MO rfl rfl ib oo oo λw2 hx2 hr2=>k _ w2 ⟨hx2,hr2.own.own⟩
end
def DG:(((m >>> i &&& 1:Nat):Int)=1)↔m.testBit i=true:=by
 have:=A4 m i;constructor
 ·intro h;rw[<-this,lZ];exact h
 intro h;rw[<-this,lZ]at h;exact h
def Ww{A:List dB}(h1:Is W1 v1 A)(e1:aB W1 w)(hn:n<=60)(hA:∀ a∈A,(0<=a.fr/\a.fr<n)/\0<=a.to/\a.to<n)(hl:A.length<=2000) :
   aJ tp 165 [iV n,v1] w λr w'=>aB w w'/\eG w.heap.size w' r (GB (eD n A) n):=by
 refine co (g:=kf [] [(3,1073725568,[14]),(8,2305843004918727424,[32]),(11,1152921367167894016,[37])] [(5,[0,1,2,3,4,5,6,7,8,9,10,11],0),(14,[0,1,2,3,4,5,6,7,8,9,10],0)]) Tryz.func165 ?_;refine zCR hn λvr _ gc=>aX uI h1<|bV A.length (λk us w'=>us=[iV k]/\k<=A.length/\RU w w' vr (pZ (eD n (A.take k)) n 0 0)) 0 (z0 _) ⟨rfl,z0 _,by rw[LA,<-nk];exact gc⟩ ?_;rintro k mk _ _ _ ⟨hu,_,D⟩;try replace hu:=cJ hu
 rw[hu];refine bM<|br (λ_=>?_) λ_=>?_
 ·have hk:k<A.length:=oo;refine bC uI rO h1 hk λ_ _ gd=>aL rO gd (e1.trans D.ext) λ_ gf=>mB Al rfl rO rfl gf (e1.trans D.ext) λw3 gg g0 _=>?_;have O:=cO w3;generalize World.drew1 w3=w4 at *;have C:=(D.step gg).step O;obtain⟨⟨_,_⟩,_,_⟩:=hA _ (cY hk);obtain⟨i,hi⟩:∃i:Nat,A[k].fr=(i:Int):=⟨A[k].fr.toNat,oo⟩;obtain⟨j,hj⟩:∃j:Nat,A[k].to=(j:Int):=⟨A[k].to.toNat,oo⟩;refine aE XA<|aS aG (UV g0) O λ_=>?_;rw[hi];refine C.get (by rw[EV];omega)<|aE WE<|aS aG (VJ g0) O λ_=>?_;rw[hj];refine sN kK sR oo<|Fx oo ?_;have g1:2^j<4611686018427387904:=uU (tX (n:=2) oo (show j<=60 by omega)) dD;refine Dp (by rw[IC];exact DV hn) g1 ?_;have hb:(pZ (eD n (A.take k)) n 0 0)[i]'(by rw[EV];omega) ||| 2^j<2^62:=zO (by rw[IC];exact DV hn) g1;refine C.set (by rw[EV];omega) oo λw5 M=>?_;rw[sk hi hj oo oo]at M;refine aU<|⟨mk-1,oo,k+1,oo,rfl,oo,?_⟩;rw[tk hk];exact M
 have gh:k=A.length:=oo;rw[gh,sF]at D;refine aX QX D.own.is ?_;rw[EV];refine bV n (λm us w'=>us=[iV m]/\m<=n/\RU w w' vr (pZ (eD n A) n m 0)) 0 (z0 _) ⟨rfl,z0 _,D⟩ ?_;rintro m mm _ w3 _ ⟨g2,_,V⟩;try replace g2:=cJ g2
 rw[g2];refine bM<|br (λ_=>?_) λ_=>?_
 case refine_2=>
   have gi:m=n:=oo;rw[gi,zAR R7]at V;exact⟨V.ext,V.own⟩
 have hm:m<n:=oo;refine aX QX V.own.is ?_;rw[EV];refine bV n (λk us w'=>us=[iV k]/\k<=n/\RU w w' vr (pZ (eD n A) n m k)) 0 (z0 _) ⟨rfl,z0 _,V⟩ ?_;rintro i mi _ w4 _ ⟨g3,_,C⟩;try replace g3:=cJ g3
 rw[g3];refine bM<|br (λ_=>?_) λ_=>?_
 case refine_2=>
   have gj:i=n:=oo;rw[gj,qk]at C;refine aU<|⟨mm-1,oo,m+1,oo,rfl,oo,C⟩
 have hi:i<n:=oo;refine C.get (by rw[EV];omega)<|sN kK sR oo<|TF (by rw[IC];exact DV hn) ?_;have g5:eM (eZ (eD n A) m i) n<4611686018427387904:=DV hn;have Z:(pZ (eD n A) n m i)[i]'(by rw[EV];omega)=eM (eZ (eD n A) m i) n:=by rw[IC,aH oo]
 have g9:(pZ (eD n A) n m i)[m]'(by rw[EV];omega)=eM (eZ (eD n A) m m) n:=zw5 _;refine SK (n:=1) (uU (by rw[QL];exact Io _ _) (show _<_ by rw[Z];exact g5)) oo<|bI<|br (λhb=>?_) (λhb=>?_)
 ·have g4:eZ (eD n A) m i m:=by
    rw[DG,Z,nW]at hb;exact hb.2
  have O:=cO w4;generalize World.drew1 w4=w5 at *;have M:=C.step O;refine M.get (by rw[EV];omega)<|M.get (by rw[EV];omega)<|Dp (by rw[Z];exact g5) (by rw[g9];exact DV hn) ?_;rw[Z,g9,zIz g4];refine M.set (by rw[EV];omega) (uq hn) λ_ gb=>?_;rw[zw7 _ rfl hi]at gb;refine aU<|⟨mi-1,oo,i+1,oo,rfl,oo,gb⟩
 have g4:¬eZ (eD n A) m i m:=λh=>hb (by rw[DG,Z,nW];exact⟨hm,h⟩);rw[zt g4]at C;refine aU<|⟨mi-1,oo,i+1,oo,rfl,oo,C⟩
end Go.Proofs.YtcaakhmhlfgogaaGreatDoor
