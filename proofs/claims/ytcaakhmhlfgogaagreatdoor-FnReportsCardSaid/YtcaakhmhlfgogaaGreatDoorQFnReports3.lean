/-
  Parts of the proof, put together by program.
-/
import Derived.Test.YtcaakhmhlfgogaaGreatDoorQFnReports2
set_option linter.defProp false
set_option linter.unusedVariables false
set_option maxRecDepth 100000
set_option linter.unusedSimpArgs false
set_option linter.unusedSectionVars false
open Go renaming Value→vL,World→wD,Program→pG
namespace Go.Proofs.YtcaakhmhlfgogaaGreatDoor
open Go Go.Sh Go.Proofs
open Rep (rep)
variable {F F1:List Nat}{W W0 W1 w w1 w2:wD}{a op:Int}{b i j k n o:Nat}{c:aF}{s:ByteArray}{ty:TypeId}{v v0 v1:vL}
def fK:Nat->aD->Bool
 | n,.mk k num s ks=>
   if k=1 then decide (0<=num/\num<=1000000000)&&decide (s=ByteArray.mk #[])&&decide ((ks.length:Int)=0)
   else if k=2 then decide (num=0)&&cK s&&decide ((ks.length:Int)=0)
   else decide (3<=k/\k<=9)&&decide (num=0)&&decide (s=ByteArray.mk #[])&&decide ((ks.length:Int)=if k=8 then 1 else 2) &&
     (match n with|0=>false|m+1=>ks.all (fK m))
def CV{t:aD}(h:t.kind=1):fK n t=(decide (0<=t.num/\t.num<=1000000000)&&decide (t.name=ByteArray.mk #[])&&decide ((t.kids.length:Int)=0)):=by
 obtain⟨k,_,_,_⟩:=t;have:k=1:=h;unfold fK;rw[aP this];rfl
def HS{t:aD}(h:t.kind=2):fK n t=(decide (t.num=0)&&cK t.name&&decide ((t.kids.length:Int)=0)):=by
 obtain⟨k,_,_,_⟩:=t;have:k=2:=h;unfold fK;rw[aH oo,aP this];rfl
def qH{t:aD}(h1:¬t.kind=1)(h2:¬t.kind=2):fK n t =
   (decide (3<=t.kind/\t.kind<=9)&&decide (t.num=0)&&decide (t.name=ByteArray.mk #[])&&decide ((t.kids.length:Int)=if t.kind=8 then 1 else 2)&&(match n with|0=>false|m+1=>t.kids.all (fK m))):=by
 obtain⟨k,_,_,_⟩:=t;have h1:¬k=1:=h1;have h2:¬k=2:=h2;unfold fK;rw[aH h1,aH h2];rfl
def Et{α:Type}{p:α->Bool}{l:List α}(hk:k<l.length)(h:(l.take k).all p=true)(hp:p l[k]=true):(l.take (k+1)).all p=true:=by
 rw[tk hk,By,h];simp[hp]
def Du{α:Type}{p:α->Bool}{l:List α}(hk:k<l.length)(hp:p l[k]=false):l.all p=false:=by
 rw[Ly];exact⟨_,cY hk,by simp[hp]⟩
def Ca{α:Type}{p:α->Bool}{l:List α}(hk:l.length<=k)(h:(l.take k).all p=true):l.all p=true:=by
 rwa[iO hk]at h
def YV(f:Nat)(n:Nat):Prop:=∀{w W:wD}{v:vL}{t:aD}{d:Int},Is W v t->aB W w->d=(n:Int) ->
 aJ tp f [v,iV d] w λr w'=>aB w w'/\r=.bool (fK n t)
def yu{t:aD}{d:Int}(h0:Is W0 v0 t)(e0:aB W0 w)(hd:d=(n:Int))(ih:∀ m,m+1=n->YV 252 m)(hn:n<=6) :
   aJ tp 252 [v0,iV d] w λr w'=>aB w w'/\(r=.bool (fK n t)):=by
 refine co (g:=kf [(18,9223372036854775696,[])] [(21,309182778366441411431104592,[78])] []) Tryz.func252 ?_;refine lA dK rfl h0 e0 λC y1 D _=>dJ.mk (λus w'=>us=[]/\aB C w'/\(3<=t.kind/\t.kind<=9/\(t.kids.length:Int)=(if t.kind=8 then 1 else 2))) ?_ ?_
 ·refine aE BK ?_;refine aS aG (EQ D) xx λ_=>bI<|br (λc1=>?_) λc1=>?_
  ·refine aE CC ?_;refine aS aG (DO D) xx λ_=>pD<|br (λc2=>?_) λc2=>?_
   ·refine aE CC ?_;refine aS aG (DO D) xx λ_=>tR<|br (λc3=>?_) λc3=>?_
    ·refine aE yZ ?_;refine eV cG (AU D) xx λ_=>eX<|br (λc4=>?_) λc4=>?_
     ·refine aE pF ?_;refine aL pE (sK D) xx λ_ gi=>aX mY gi<|bI<|⟨y1,?_⟩;rw[CV c1];simp only[c2,c3,c4,and_self,uN,KF]
     refine⟨y1,?_⟩;rw[CV c1];simp only[c4,eT,DW,BG]
    refine⟨y1,?_⟩;rw[CV c1];simp only[c3,and_false,eT,BG]
   refine⟨y1,?_⟩;rw[CV c1];simp only[c2,false_and,eT,BG]
  refine bI<|br (λc5=>?_) λc5=>?_
  ·refine aE CC ?_;refine aS aG (DO D) xx λ_=>bI<|br (λc6=>?_) λc6=>?_
   ·refine aE yZ ?_;refine eV cG (AU D) xx λ_=>(cI ).mM λ_ y3=>bW (λc7=>?_) λc7=>?_
    ·refine aE pF ?_;refine aL pE (sK D) y3 λ_ gj=>aX mY gj<|bI<|⟨xx,?_⟩;rw[HS c5];simp only[c6,c7,uN,KF]
    refine⟨xx,?_⟩;rw[HS c5];simp only[c6,c7,uN,KF,BG]
   refine⟨y1,?_⟩;rw[HS c5];simp only[c6,eT,BG]
  refine bI<|br (λc8=>?_) λc8=>?_
  ·refine aE pF ?_;refine aL pE (sK D) xx λV M=>aX mY M<|fP<|br (λc9=>?_) λc9=>?_
   ·refine⟨y1,?_⟩;rw[qH c1 c5];simp[show ¬t.kind=8 by omega,show ¬(t.kids.length:Int)=2 from c9]
   refine⟨ss,xx,?_⟩;split<;>omega
  refine bI<|br (λgl=>?_) λgl=>?_
  ·refine aE pF ?_;refine aL pE (sK D) xx λV M=>aX mY M<|fP<|br (λg4=>?_) λg4=>?_
   ·refine⟨y1,?_⟩;rw[qH c1 c5];simp[show ¬t.kind=8 by omega,show ¬(t.kids.length:Int)=2 from g4]
   refine⟨ss,xx,?_⟩;split<;>omega
  refine bI<|br (λgn=>?_) λgn=>?_
  ·refine aE pF ?_;refine aL pE (sK D) xx λV M=>aX mY M<|fP<|br (λg5=>?_) λg5=>?_
   ·refine⟨y1,?_⟩;rw[qH c1 c5];simp[show ¬t.kind=8 by omega,show ¬(t.kids.length:Int)=2 from g5]
   refine⟨ss,xx,?_⟩;split<;>omega
  refine bI<|br (λgp=>?_) λgp=>?_
  ·refine aE pF ?_;refine aL pE (sK D) xx λV M=>aX mY M<|fP<|br (λg9=>?_) λg9=>?_
   ·refine⟨y1,?_⟩;rw[qH c1 c5];simp[show ¬t.kind=8 by omega,show ¬(t.kids.length:Int)=2 from g9]
   refine⟨ss,xx,?_⟩;split<;>omega
  refine bI<|br (λgq=>?_) λgq=>?_
  ·refine aE pF ?_;refine aL pE (sK D) xx λV M=>aX mY M<|fP<|br (λgb=>?_) λgb=>?_
   ·refine⟨y1,?_⟩;rw[qH c1 c5];simp[show ¬t.kind=8 by omega,show ¬(t.kids.length:Int)=2 from gb]
   refine⟨ss,xx,?_⟩;split<;>omega
  refine bI<|br (λgr=>?_) λgr=>?_
  ·refine aE pF ?_;refine aL pE (sK D) xx λV M=>aX mY M<|fP<|br (λgc=>?_) λgc=>?_
   ·refine⟨y1,?_⟩;rw[qH c1 c5];simp[show ¬t.kind=8 by omega,show ¬(t.kids.length:Int)=2 from gc]
   refine⟨ss,xx,?_⟩;split<;>omega
  refine bI<|br (λgd=>?_) λgd=>?_
  ·refine aE pF ?_;refine aL pE (sK D) xx λ_ gs=>aX mY gs<|fP<|br (λgf=>?_) λgf=>?_
   ·refine⟨y1,?_⟩;rw[qH c1 c5];simp[gd,show ¬(t.kids.length:Int)=1 from gf]
   refine⟨ss,xx,?_⟩;split<;>omega
  refine⟨y1,?_⟩;rw[qH c1 c5];simp[show ¬(3<=t.kind/\t.kind<=9) by omega]
 rintro _ gg ⟨hu,y3,gt,gx,gy⟩;try replace hu:=cJ hu
 clear hu;refine aE CC<|aS aG (DO D) y3 λ_=>fP<|br (λg2=>?_) λg2=>?_
 ·refine⟨xx,?_⟩;rw[qH oo oo];simp[g2]
 refine aE yZ<|eV cG (AU D) y3 λ_=>GK<|br (λg3=>?_) λg3=>?_
 ·refine⟨xx,?_⟩;rw[qH oo oo];simp[g3]
 refine bI<|br (λgz=>?_) λgz=>?_
 ·refine⟨xx,?_⟩;rw[qH oo oo];simp[show n=0 by omega]
 refine aE pF<|aL pE (sK D) y3 λ_ g0=>?_;have:=fD g0;refine aX mY g0<|bV (t.kids.length) (λk us w'=>us=[iV k]/\aB gg w'/\((t.kids.take k).all (fK (n-1))=true)) (0) oo ⟨ss,xx,ss⟩ ?_;rintro k gA _ _ _ ⟨hu,y4,O⟩;try replace hu:=cJ hu
 try rw[hu]
 try clear hu
 refine bM<|br (λgB=>?_) λgB=>?_
 ·refine bC mY dK g0 oo λ_ _ gC=>?_;refine aL dK gC xx λ_ gh=>mB BZ rfl dK rfl gh xx λgD y5 _ gE=>pX gE xx<|kQ io<|(ih (n-1) oo gh xx oo).mM λ_ y6=>dG<|bW (λg1=>?_) λg1=>?_
  ·refine⟨xx,?_⟩;rw[qH oo oo];obtain⟨m,rfl⟩:∃m,n=m+1:=⟨n-1,oo⟩;rw[xX,ND]at g1;simp only[Du oo g1,DW]
  have:=fD g0;refine aU<|⟨gA-1,oo,k+1,oo,ss,xx,?_⟩;exact Et oo O (by simpa using g1)
 refine⟨xx,?_⟩;rw[qH oo oo];obtain⟨m,rfl⟩:∃m,n=m+1:=⟨n-1,oo⟩;rw[ND]at O;simp only[show 3<=t.kind/\t.kind<=9 from⟨gt,gx⟩,eK.1 g2,eK.1 g3,gy,Ca oo O,and_self,uN,Ip]
theorem Yu:∀(n:Nat),n<=6->YV 252 n
 |n,hn=>by intro h e hd;exact yu h e hd (λm hm=>Yu m oo) hn
def TJ{t:aD} (h0:Is W0 v0 t)(e0:aB W0 w)  :
   aJ tp 188 [v0] w λr w'=>aB w w'/\(r=.bool (fK 6 t)):=by
 refine co (g:=kf [] [] []) Tryz.func188 ?_;refine lA dK rfl h0 e0 λg0 y1 _ g1=>pX g1 xx<|((Yu 6 oo) h0 xx rfl).mM λ_ y2=>?_;refine⟨xx,?_⟩;rfl
def vi{t:aD}{d:Int}(h0:Is W0 v0 t)(e0:aB W0 w)(hd:d=(n:Int))(ih:∀ m,m+1=n->YV 230 m)(hn:n<=6) :
   aJ tp 230 [v0,iV d] w λr w'=>aB w w'/\(r=.bool (fK n t)):=by
 refine co (g:=kf [(9,15393162788896,[5])] [(12,38685035931857774884946000,[6])] []) Tryz.func230 ?_;refine lA dK rfl h0 e0 λM y1 C _=>aE BK<|aS aG (EQ C) xx λ_=>bI<|br (λc1=>?_) λc1=>?_
 ·refine aE CC ?_;refine aS aG (DO C) xx λ_=>(eS ).mM λ_ y2=>br (λc2=>?_) λc2=>?_
  ·refine aE yZ ?_;refine eV cG (AU C) y2 λ_=>eX<|br (λc3=>?_) λc3=>?_
   ·refine aE pF ?_;refine aL pE (sK C) y2 λ_ g9=>aX mY g9<|bI<|⟨xx,?_⟩;rw[CV c1];simp only[c2,c3,and_self,uN,KF]
   refine⟨xx,?_⟩;rw[CV c1];simp only[c3,eT,DW,BG]
  refine⟨xx,?_⟩;rw[CV c1];simp only[c2,eT,BG]
 refine bI<|br (λc4=>?_) λc4=>?_
 ·refine aE CC ?_;refine aS aG (DO C) xx λ_=>bI<|br (λc5=>?_) λc5=>?_
  ·refine aE yZ ?_;refine eV cG (AU C) xx λ_=>(LN ).mM λ_ y3=>bW (λc6=>?_) λc6=>?_
   ·refine aE pF ?_;refine aL pE (sK C) y3 λ_ gb=>aX mY gb<|bI<|⟨xx,?_⟩;rw[HS c4];simp only[c5,c6,uN,KF]
   refine⟨xx,?_⟩;rw[HS c4];simp only[c5,c6,uN,KF,BG]
  refine⟨y1,?_⟩;rw[HS c4];simp only[c5,eT,BG]
 refine dJ.mk (λus w'=>us=[iV (if t.kind=8 then 1 else 2)]/\aB M w'/\(True)) ?_ ?_
 ·refine aE BK ?_;refine aS aG (EQ C) xx λ_=>bI<|br (λc7=>?_) λc7=>?_
  ·refine⟨by rw[aP c7],xx,?_⟩;trivial
  refine⟨by rw[aH c7],xx,?_⟩;trivial
 rintro _ _ ⟨hu,y4,D⟩;try replace hu:=cJ hu
 try rw[hu]
 try clear hu
 refine aE BK<|aS aG (EQ C) y4 λ_=>(eS ).mM λg3 y5=>mL<|br (λc8=>?_) λc8=>?_
 ·refine⟨xx,?_⟩;rw[qH c1 c4];simp only[c8,eT,BG]
 refine aE CC<|aS aG (DO C) xx λ_=>fP<|br (λc9=>?_) λc9=>?_
 ·refine⟨xx,?_⟩;rw[qH c1 c4];simp only[show ¬t.num=0 from c9,eT,BG,DW]
 refine aE yZ<|eV cG (AU C) xx λ_=>GK<|br (λg1=>?_) λg1=>?_
 ·refine⟨xx,?_⟩;rw[qH c1 c4];simp only[show ¬t.name=_ from g1,eT,BG,DW]
 refine aE pF<|aL pE (sK C) xx λ_ g4=>?_;have:=fD g4;refine aX mY g4<|fP<|br (λg2=>?_) λg2=>?_
 ·refine⟨xx,?_⟩;rw[qH c1 c4];simp only[show ¬(t.kids.length:Int)=_ from g2,eT,BG,DW]
 refine bI<|br (λgc=>?_) λgc=>?_
 ·refine⟨xx,?_⟩;rw[qH c1 c4];simp[show n=0 by omega]
 refine bV (t.kids.length) (λk us w'=>us=[iV k]/\aB g3 w'/\((t.kids.take k).all (fK (n-1))=true)) (0) oo ⟨ss,xx,ss⟩ ?_;rintro k gd _ _ _ ⟨hu,y6,D⟩;try replace hu:=cJ hu
 try rw[hu]
 try clear hu
 refine aE pF<|aL pE (sK C) xx λ_ g5=>aX mY g5<|bM<|br (λgf=>?_) λgf=>?_
 ·refine aE pF ?_;refine aL pE (sK C) xx λ_ gg=>bC mY dK gg oo λ_ _ gh=>aL dK gh xx λ_ gi=>kQ io<|(ih (n-1) oo gi xx oo).mM λ_ y7=>dG<|bW (λg0=>?_) λg0=>?_
  ·refine⟨xx,?_⟩;rw[qH c1 c4];obtain⟨m,rfl⟩:∃m,n=m+1:=⟨n-1,oo⟩;rw[xX,ND]at g0;simp only[Du oo g0,DW]
  have:=fD g5;refine aU<|⟨gd-1,oo,k+1,oo,ss,xx,?_⟩;exact Et oo D (by simpa using g0)
 refine⟨xx,?_⟩;rw[qH c1 c4];obtain⟨m,rfl⟩:∃m,n=m+1:=⟨n-1,oo⟩;rw[ND]at D;simp only[eK.1 c8,eK.1 c9,eK.1 g1,eK.1 g2,Ca oo D,and_self,uN,Ip]
theorem X8:∀(n:Nat),n<=6->YV 230 n
 |n,hn=>by intro h e hd;exact vi h e hd (λm hm=>X8 m oo) hn
def SC{t:aD} (h0:Is W0 v0 t)(e0:aB W0 w)  :
   aJ tp 170 [v0] w λr w'=>aB w w'/\(r=.bool (fK 6 t)):=by
 refine co (g:=kf [] [] []) Tryz.func170 ?_;refine lA dK rfl h0 e0 λg0 y1 _ g1=>pX g1 xx<|((X8 6 oo) h0 xx rfl).mM λ_ y2=>?_;refine⟨xx,?_⟩;rfl
def bA:aD:=.mk 0 0 (ByteArray.mk #[]) []
def PW{t:aD} (h0:Is W0 v0 t)(e0:aB W0 w)  :
   aJ tp 189 [v0] w λr w'=>aB w w'/\(r=.bool (decide (t=bA))):=by
 refine co (g:=kf [] [] []) Tryz.func189 ?_;refine lA dK rfl h0 e0 λg0 y1 g1 _=>aE BK<|aS aG (EQ g1) xx λ_=>bI<|br (λc1=>?_) λc1=>?_
 ·refine aE CC ?_;refine aS aG (DO g1) xx λ_=>bI<|br (λc2=>?_) λc2=>?_
  ·refine aE yZ ?_;refine eV cG (AU g1) xx λ_=>eX<|br (λc3=>?_) λc3=>?_
   ·refine aE pF ?_;refine aL pE (sK g1) xx λ_ g2=>aX mY g2<|bI<|⟨y1,?_⟩;congr 1;rw[decide_eq_decide,aD.ext_iff];exact⟨λh=>⟨c1,c2,c3,qC oo⟩,λh=>by rw[h.2.2.2];rfl⟩
   refine⟨y1,?_⟩;have:t≠bA:=λe=>c3 (by rw[e];rfl);simp[this]
  refine⟨y1,?_⟩;have:t≠bA:=λe=>c2 (by rw[e];rfl);simp[this]
 refine⟨y1,?_⟩;have:t≠bA:=λe=>c1 (by rw[e];rfl);simp[this]
def Zl{t:aD}{t2:aD} (h0:Is W0 v0 t)(e0:aB W0 w)(h1:Is W1 v1 t2)(e1:aB W1 w)(ht:t2=bA) :
   aJ tp 172 [v0,v1] w λr w'=>aB w w'/\(r=.bool (decide (t=bA))):=by
 refine co (g:=kf [] [(4,9007182074871856,[5])] [(6,[0,1,2,3,4,5,6,7,8,9,10,11],0)]) Tryz.func172 ?_;subst ht;refine lA dK rfl h0 e0 λ_ y1 D _=>lA dK rfl h1 (e1.trans y1) λC y2 g0 _=>aE BK<|aS aG (EQ D) y2 λ_=>aE BK<|aS aG (EQ g0) xx λ_=>fP<|br (λc1=>?_) λc1=>?_
 ·refine⟨xx,?_⟩;have:t≠bA:=λe=>c1 (by rw[e]);simp[this]
 refine aE CC<|aS aG (DO D) y2 λ_=>aE CC<|aS aG (DO g0) xx λ_=>fP<|br (λc2=>?_) λc2=>?_
 ·refine⟨xx,?_⟩;have:t≠bA:=λe=>c2 (by rw[e]);simp[this]
 refine aE yZ<|eV cG (AU D) y2 λ_=>aE yZ<|eV cG (AU g0) xx λ_=>GK<|br (λc3=>?_) λc3=>?_
 ·refine⟨xx,?_⟩;have:t≠bA:=λe=>c3 (by rw[e]);simp[this]
 refine aE pF<|aL pE (sK D) y2 λ_ g1=>aX mY g1<|aE pF<|aL pE (sK g0) xx λ_ g2=>aX mY g2<|fP<|br (λc4=>?_) λc4=>?_
 ·refine⟨xx,?_⟩;have:t≠bA:=λe=>c4 (by rw[e]);simp[this]
 refine bV (0) (λk us w'=>us=[iV k]/\aB C w'/\(True)) (0) oo ⟨ss,xx,trivial⟩ ?_;rintro k _ _ g3 _ ⟨hu,y3,_⟩;try replace hu:=cJ hu
 try rw[hu]
 try clear hu
 refine aE pF<|aL pE (sK D) xx λ_ g4=>aX mY g4<|bM<|br (λc5=>?_) λc5=>?_
 ·have y4:=cO g3;exact absurd c5 (by have:(bA.kids.length:Int)=0:=rfl;omega)
 refine⟨xx,?_⟩;have:t=bA:=aD.ext_iff.2 ⟨eK.1 c1,eK.1 c2,eK.1 c3,qC (by have:(bA.kids.length:Int)=0:=rfl;omega)⟩;simp[this]
def plc(s:ByteArray):List ByteArray->Int
 |[]=>-1
 |x :: l=>if x=s then 0 else if plc s l<0 then -1 else plc s l+1
theorem Oc{l:List ByteArray}(h:s∉l):plc s l=-1:=by
 induction l with
 |nil=>rfl
 | cons x l ih=>
   simp only[bF,not_or]at h;rw[plc,aH (λe=>h.1 e.symm),ih h.2];rfl
theorem Bs{s:ByteArray}:∀{l:List ByteArray}{k:Nat}(hk:k<l.length),s∉l.take k->l[k]=s->plc s l=k
 |x :: l,0,_,_,h=>by simp only[Cm]at h;rw[plc,aP h];rfl
 | x :: l,k+1,hk,hn,h=>by
   simp only[Oz,bF,not_or]at hn;have ih:=Bs (by simpa using hk) hn.2 (by simpa using h);rw[plc,aH (λe=>hn.1 e.symm),ih,aH oo];omega
theorem JE{l:List ByteArray}:-1<=plc s l/\plc s l<l.length:=by
 induction l with
 |nil=>simp[plc]
 | cons x l ih=>
   rw[plc];split
   ·simp only[dA];omega
   split<;>simp only[dA]<;>omega
theorem HQ{l:List ByteArray}:0<=plc s l↔s∈l:=by
 induction l with
 |nil=>simp[plc]
 | cons x l ih=>
   rw[plc];split
   ·rename_i h;simp[h]
   rename_i h;rw[bF,<-ih];have:¬s=x:=λe=>h e.symm;simp only[this,false_or];split<;>omega
def WJ{l:List ByteArray}{y:ByteArray}(hk:k<l.length)(h:y∉l.take k)(c:¬l[k]=y):y∉l.take (k+1):=by
 rw[tk hk];simp only[dF,bF,dL,dI,not_or];exact⟨h,λe=>c e.symm⟩
def NZ{l:(List ByteArray)} (h0:Is W0 v0 l)(e0:aB W0 w)  :
   aJ tp 73 [v0,.string s] w λr w'=>aB w w'/\(r=iV (plc s l)):=by
 refine co (g:=kf [] [(2,524272,[5])] []) Tryz.func73 ?_;refine bV (l.length) (λk us w'=>us=[iV k]/\aB w w'/\(s∉l.take k)) (0) oo ⟨ss,xx,ss⟩ ?_;rintro k m2 _ _ _ ⟨hu,y1,C⟩;try replace hu:=cJ hu
 try rw[hu]
 try clear hu
 have:=fD h0;refine aX cL h0<|bM<|br (λc1=>?_) λc1=>?_
 ·refine bC cL cG h0 oo λ_ _ g0=>?_;refine eV cG g0 xx λ_=>eX<|br (λc2=>?_) λc2=>?_
  ·refine⟨y1,?_⟩;rw[Bs oo C c2]
  refine aU<|⟨m2-1,oo,k+1,oo,ss,y1,?_⟩;exact WJ oo C c2
 refine⟨y1,?_⟩;rw[iO oo]at C;rw[Oc C]
def Mk{l:(List ByteArray)} (h0:Is W0 v0 l)(e0:aB W0 w)  :
   aJ tp 138 [v0,.string s] w λr w'=>aB w w'/\(r=iV (plc s l)):=by
 refine co (g:=kf [] [(2,524080,[8])] []) Tryz.func138 ?_;have:=fD h0;refine aX cL h0<|bV (l.length) (λk us w'=>us=[iV k]/\aB w w'/\(s∉l.take k)) (0) oo ⟨ss,xx,ss⟩ ?_;rintro k m2 _ _ _ ⟨hu,y1,C⟩;try replace hu:=cJ hu
 try rw[hu]
 try clear hu
 refine bM<|br (λc1=>?_) λc1=>?_
 ·refine bC cL cG h0 oo λ_ _ g0=>?_;refine eV cG g0 xx λ_=>eX<|br (λc2=>?_) λc2=>?_
  ·refine⟨y1,?_⟩;rw[Bs oo C c2.symm]
  refine aU<|⟨m2-1,oo,k+1,oo,ss,y1,?_⟩;exact WJ oo C (λe=>c2 e.symm)
 refine⟨y1,?_⟩;rw[iO oo]at C;rw[Oc C]
def LY{l:(List ByteArray)} (h0:Is W0 v0 l)(e0:aB W0 w)  :
   aJ tp 66 [v0,.string s] w λr w'=>aB w w'/\(r=.bool (decide (s∈l))):=by
 refine co (g:=kf [] [] []) Tryz.func66 ?_;refine(Mk h0 e0).mM λ_ y1=>pD<|⟨y1,?_⟩;simp[HQ]
def ZY{l:(List ByteArray)} (h0:Is W0 v0 l)(e0:aB W0 w)  :
   aJ tp 119 [v0,.string s] w λr w'=>aB w w'/\(r=.bool (decide (s∈l))):=by
 refine co (g:=kf [] [(2,262128,[5])] []) Tryz.func119 ?_;refine bV (l.length) (λk us w'=>us=[iV k]/\aB w w'/\(s∉l.take k)) (0) oo ⟨ss,xx,ss⟩ ?_;rintro k m2 _ _ _ ⟨hu,y1,C⟩;try replace hu:=cJ hu
 try rw[hu]
 try clear hu
 have g0:=fD h0;refine aX cL h0<|bM<|br (λc1=>?_) λc1=>?_
 ·refine bC cL cG h0 oo λ_ _ g1=>?_;refine eV cG g1 xx λ_=>eX<|br (λc2=>?_) λc2=>?_
  ·refine⟨y1,?_⟩;have:s∈l:=c2▸cY _;simp[this]
  refine aU<|⟨m2-1,oo,k+1,oo,ss,y1,?_⟩;exact WJ oo C c2
 refine⟨y1,?_⟩;rw[iO oo]at C;simp[C]
def UW{l:(List ByteArray)}{m:Int} (h0:Is W0 v0 l)(e0:aB W0 w)  :
   aJ tp 130 [v0,iV m] w λr w'=>aB w w'/\(r=.bool (decide ((l.length:Int)<=m)&&l.all cK)):=by
 refine co (g:=kf [] [(4,2089040,[13])] []) Tryz.func130 ?_;have:=fD h0;refine aX cL h0<|oN<|br (λc1=>?_) λc1=>?_
 ·refine⟨xx,?_⟩;simp[show ¬(l.length:Int)<=m by omega]
 have:=fD h0;refine aX cL h0<|bV (l.length) (λk us w'=>us=[iV k]/\aB w w'/\((l.take k).all cK=true)) (0) oo ⟨ss,xx,ss⟩ ?_;rintro k m4 _ _ _ ⟨hu,y1,g0⟩;try replace hu:=cJ hu
 try rw[hu]
 try clear hu
 refine bM<|br (λc2=>?_) λc2=>?_
 ·refine bC cL cG h0 oo λ_ _ g1=>?_;refine eV cG g1 xx λ_=>(cI ).mM λ_ y2=>dG<|bW (λc3=>?_) λc3=>?_
  ·refine⟨xx,?_⟩;simp only[Du (p:=cK) (l:=l) (k:=k) oo (by simpa using c3),DW]
  have:=fD h0;refine aU<|⟨m4-1,oo,k+1,oo,ss,xx,?_⟩;exact Et oo g0 (by simpa using c3)
 refine⟨y1,?_⟩;simp[Ca (p:=cK) (l:=l) oo g0,show(l.length:Int)<=m by omega]
def VE{l:(List ByteArray)}{m:Int} (h0:Is W0 v0 l)(e0:aB W0 w)  :
   aJ tp 100 [v0,iV m] w λr w'=>aB w w'/\(r=.bool (decide ((l.length:Int)<=m)&&l.all cK)):=by
 refine co (g:=kf [] [(4,4193328,[5])] []) Tryz.func100 ?_;have:=fD h0;refine aX cL h0<|oN<|br (λc1=>?_) λc1=>?_
 ·refine⟨xx,?_⟩;simp[show ¬(l.length:Int)<=m by omega]
 refine bV (l.length) (λk us w'=>us=[iV k]/\aB w w'/\((l.take k).all cK=true)) (0) oo ⟨ss,xx,ss⟩ ?_;rintro k m4 _ _ _ ⟨hu,y1,g0⟩;try replace hu:=cJ hu
 try rw[hu]
 try clear hu
 refine aX cL h0<|bM<|br (λc2=>?_) λc2=>?_
 ·refine bC cL cG h0 oo λ_ _ g1=>?_;refine eV cG g1 xx λ_=>(LN ).mM λ_ y2=>dG<|bW (λc3=>?_) λc3=>?_
  ·refine⟨xx,?_⟩;simp only[Du (p:=cK) (l:=l) (k:=k) oo (by simpa using c3),DW]
  refine aU<|⟨m4-1,oo,k+1,oo,ss,xx,?_⟩;exact Et oo g0 (by simpa using c3)
 refine⟨y1,?_⟩;simp[Ca (p:=cK) (l:=l) oo g0,show(l.length:Int)<=m by omega]
instance decNodup:∀(l:List ByteArray),Decidable l.Nodup
 |[]=>isTrue kM
 | x :: l=>match decMemBA x l,decNodup l with
   |isFalse h,isTrue h'=>isTrue (tZ.2 ⟨h,h'⟩)
   |isTrue h,_=>isFalse λe=>(tZ.1 e).1 h
   |_,isFalse h=>isFalse λe=>h (tZ.1 e).2
def fx{l:List ByteArray}(hk:k<l.length)(h:l[k]∈l.drop (k+1)):¬l.Nodup:=λhn=>by
 have e:l=l.take k++(l[k] :: l.drop (k+1)):=by simp
 rw[e,oE]at hn;exact(tZ.1 hn.2.1).1 h
def ke{l:List ByteArray}(hk:k<l.length)(h:l[k]∈l.take k):¬l.Nodup:=λhn=>by
 have e:l=l.take k++(l[k] :: l.drop (k+1)):=by simp
 rw[e,oE]at hn;exact hn.2.2 _ h _ List.mem_cons_self rfl
def ly{l:List ByteArray}(hk:k<l.length)(h:(l.take k).Nodup)(c:l[k]∉l.take k):(l.take (k+1)).Nodup:=by
 rw[tk hk,oE];refine⟨h,ss,λ_ ha _ hb e=>?_⟩;simp only[bF,dL,dI]at hb;subst e;subst hb;exact c ha
theorem W4:∀{l:List ByteArray},(∀(k:Nat)(hk:k<l.length),l[k]∉l.drop (k+1))->l.Nodup
 |[],_=>kM
 |x :: l,h=>tZ.2 ⟨h 0 ss,W4 λk hk=>h (k+1) (by simpa using hk)⟩
def TW{l:(List ByteArray)} (h0:Is W0 v0 l)(e0:aB W0 w)  :
   aJ tp 64 [v0] w λr w'=>aB w w'/\(r=.bool (decide (¬l.Nodup))):=by
 refine co (g:=kf [] [(2,524188,[7])] []) Tryz.func64 ?_;have:=fD h0;refine aX cL h0<|bV (l.length) (λk us w'=>us=[iV k]/\aB w w'/\(∀(j:Nat)(hj:j<l.length),j<k->l[j]∉l.drop (j+1))) (0) oo ⟨ss,xx,λj hj h=>oo⟩ ?_;rintro k m2 _ _ _ ⟨hu,y1,g0⟩;try replace hu:=cJ hu
 try rw[hu]
 try clear hu
 refine bM<|br (λc1=>?_) λc1=>?_
 ·refine bC cL cG h0 oo λ_ _ g1=>?_;refine eV cG g1 xx λ_=>aU<|Ka cL cG h0 oo oo λ_ g2=>(LY g2 xx).mM λ_ y2=>br (λc2=>?_) λc2=>?_
  ·refine⟨xx,?_⟩;simp[fx oo c2]
  refine aU<|⟨m2-1,oo,k+1,oo,ss,xx,?_⟩;intro j hj _;by_cases h:j=k
  ·subst h;exact c2
  exact g0 j hj oo
 refine⟨y1,?_⟩;simp[W4 λj hj=>g0 j hj oo]
def QM{l:(List ByteArray)} (h0:Is W0 v0 l)(e0:aB W0 w)  :
   aJ tp 53 [v0] w λr w'=>aB w w'/\(r=.bool (decide (¬l.Nodup))):=by
 refine co (g:=kf [] [(2,262140,[3])] [(4,[0,1,2,3,4,5,6,7],0)]) Tryz.func53 ?_;refine bV (l.length) (λk us w'=>us=[iV k]/\aB w w'/\((l.take k).Nodup)) (0) oo ⟨ss,xx,ss⟩ ?_;rintro k m2 _ g0 _ ⟨hu,y1,C⟩;try replace hu:=cJ hu
 try rw[hu]
 try clear hu
 have:=fD h0;refine aX cL h0<|bM<|br (λc1=>?_) λc1=>?_
 ·have y2:=cO g0;refine Xi cL cG h0 oo oo λ_ g1=>bC cL cG h0 oo λ_ _ g2=>eV cG g2 xx λ_=>(ZY g1 xx).mM λ_ y3=>br (λc2=>?_) λc2=>?_
  ·refine⟨xx,?_⟩;simp[ke oo c2]
  refine aU<|⟨m2-1,oo,k+1,oo,ss,xx,?_⟩;exact ly oo C c2
 refine⟨y1,?_⟩;rw[iO oo]at C;simp[C]
def yX(l:List ByteArray)(s:ByteArray):List ByteArray:=if s∈l then l else l++[s]
def Q7(l:List ByteArray)(s:ByteArray):(yX l s).length<=l.length+1:=by unfold yX;split<;>simp
def dR:Nat->aD->List ByteArray->List ByteArray
 |n,t,l=>if t.kind=2 then yX l t.name else match n with|0=>l|m+1=>t.kids.foldl (λl k=>dR m k l) l
def OM(n:Nat)(t:aD)(l:List ByteArray):dR n t l=if t.kind=2 then yX l t.name else match n with|0=>l|m+1=>t.kids.foldl (λl k=>dR m k l) l:=dR.eq_def n t l
def D7{α β:Type}(f:β->α->β)(b:β){l:List α}{k:Nat}(hk:k<l.length):(l.take (k+1)).foldl f b=f ((l.take k).foldl f b) l[k]:=by
 rw[tk hk,Om];rfl
theorem Gz{t:aD}(h:fK n t=true)(h2:¬t.kind=2):t.kids=[]\/∃m,n=m+1/\t.kids.length<=2/\∀k∈t.kids,fK m k=true:=by
 by_cases h1:t.kind=1
 ·rw[CV h1]at h;simp only[iA,lZ]at h;exact .inl (qC oo)
 rw[qH h1 h2]at h;simp only[iA,lZ]at h;obtain⟨⟨_,h3⟩,h4⟩:=h;cases n with
 |zero=>simp at h4
 | succ m=>
   refine .inr ⟨m,rfl,?_,λk hk=>nG.1 h4 k hk⟩;split at h3<;>omega
theorem Ma:∀(n:Nat)(t:aD)(l:List ByteArray),fK n t=true->(dR n t l).length<=l.length+2^n
 | n,t,l,h=>by
   rw[OM];have:1<=2^n:=YC;split
   ·have:=Q7 l t.name;omega
   rename_i h2;rcases Gz h h2 with hk|⟨m,rfl,hk,hall⟩
   ·cases n with
    |zero=>simp
    |succ m=>simp[hk]
   show(t.kids.foldl (λl k=>dR m k l) l).length<=_
   have key:∀(ks:List aD)(l:List ByteArray),(∀k∈ks,fK m k=true)->(ks.foldl (λl k=>dR m k l) l).length<=l.length+ks.length*2^m:=by
     intro ks
     induction ks with
     |nil=>intro l _;simp
     | cons k ks ih=>
       intro l g0;rw[HR,dA,xM,GL];have h1:=ih (dR m k l) λx hx=>g0 x (by simp[hx]);have h2:=Ma m k l (g0 k ss);omega
   have h1:=key t.kids l hall;have h2:t.kids.length*2^m<=2*2^m:=IK _ hk;rw[QI];omega
def Ut{l:List ByteArray}{K:VW}(hr:fL F 9 w v l)(hn:F.Nodup)(hs:s.size<=maxLen)(hl:l.length<=1000000)
   (k:∀v' w',cH F w w'->(∃F',fL F' 9 w' v' (l++[s])/\F'.Nodup/\∀b∈F',b∈F\/w.heap.size<=b)->K v' w') :
   OP tp (Instr.buildSlice 26 1 #[(0,.string s)]) w λx w1=>OP tp (Builtin.append_ #[26,26] ty [v,x].toArray) w1 K:=by
 refine ZF (α:=ByteArray) (x:=s) (F:=[]) cL cG z9 dD ⟨⟨_,⟨rfl,rfl,hs⟩,rfl⟩,kM,Wr.nil _⟩ λw1 g0 g2=>?_;obtain⟨_,_,Fi,xs,he,_,_,hc,h4⟩:=xD g2.is;have g3:=aO.flat (xs:=xs) hc;subst g3;refine UK (α:=ByteArray) (m:=[s]) cL cG JP (hr.ext g0) hn he hc (.inr ?_) (Wr.nil _) (by simpa using hn) (by simp only[dA,eU,eB];omega) (by simp only[dA,eU];omega) λv' w' F' g4 _ g5 g9 gb=>?_
 ·rcases h4 with h4|⟨b,o,ha,gc,_⟩
  ·simp at h4
  exact⟨b,o,ha,gc⟩
 have g1:∀c∈v.ownBlock.toList,c∈F:=λc hc=>by
   obtain⟨xs,Fi,_,_,rfl,_⟩:=hr;simp only[dF];exact .inl hc
 refine k v' w' ((aB.chg F g0).trans (g4.mono g1)) ⟨F',g5,g9,λb hb=>?_⟩;rcases gb b hb with h|h|h
 ·exact .inl h
 ·simp at h
 exact .inr (eH g0.size h)
def Zp{l:List ByteArray}(hr:fL F 9 w v l)(hn:F.Nodup)(hs:s.size<=maxLen)(hl:l.length<=1000000) :
   aJ tp 134 [v,.string s] w λr w'=>cH F w w'/\∃F',fL F' 9 w' r (yX l s)/\F'.Nodup/\∀b∈F',b∈F\/w.heap.size<=b:=by
 refine co (g:=kf [] [] []) Tryz.func134 ?_;refine(LY hr.own.is xx).mM λ_ C=>br (λc1=>?_) λc1=>?_
 ·exact⟨aB.chg F C,F,by unfold yX;rw[aP c1];exact hr.ext C,hn,λb hb=>.inl hb⟩
 refine Ut (hr.ext C) hn hs hl λ_ w' hc ⟨F',h1,h2,h3⟩=>⟨(aB.chg F C).trans hc,F',by unfold yX;rw[aH c1];exact h1,h2,λb hb=>?_⟩;rcases h3 b hb with h|h
 ·exact .inl h
 exact .inr (eH C.size h)
def ZR(F:List Nat)(w:wD)(l:List ByteArray)(r:vL)(w':wD):Prop:=cH F w w'/\∃F',fL F' 9 w' r l/\F'.Nodup/\∀b∈F',b∈F\/w.heap.size<=b
def Gw(n:Nat):Prop:=∀{w W:wD}{v u:vL}{t:aD}{l:List ByteArray}{F:List Nat},Is W v t->aB W w->fL F 9 w u l->F.Nodup->(∀b∈F,W.heap.size<=b)->fK n t=true->l.length+2^n<=1000 ->
 aJ tp 205 [u,v] w (ZR F w (dR n t l))
def Kl(n:Nat):Prop:=∀{w W:wD}{v u:vL}{t:aD}{l:List ByteArray}{F:List Nat},Is W v t->aB W w->fL F 9 w u l->F.Nodup->(∀b∈F,W.heap.size<=b)->fK n t=true->l.length+2^n<=1000 ->
 aJ tp 231 [v,u] w (ZR F w (dR n t l))
def Cv{t:aD}{l:List ByteArray}(h:t.kind=2):dR n t l=yX l t.name:=by rw[OM,aP h]
def N7{t:aD}{l:List ByteArray}(h:fK n t=true)(h2:¬t.kind=2)(hl:l.length+2^n<=1000) :
   ∃m,(t.kids=[]\/n=m+1)/\dR n t l=t.kids.foldl (λl k=>dR m k l) l/\(∀k∈t.kids,fK m k=true)/\∀k,k<t.kids.length->((t.kids.take k).foldl (λl k=>dR m k l) l).length+2^m<=1000:=by
 rcases Gz h h2 with hk|⟨m,rfl,hk,g0⟩
 ·refine⟨0,.inl hk,?_,by simp[hk],by simp[hk]⟩;rw[OM,aH h2,hk];cases n<;>rfl
 refine⟨m,.inr rfl,by rw[OM,aH h2],g0,λk _=>?_⟩;rw[QI]at hl
 have g2:∀(ks:List aD)(l:List ByteArray),(∀k∈ks,fK m k=true)->(ks.foldl (λl k=>dR m k l) l).length<=l.length+ks.length*2^m:=by
   intro ks
   induction ks with
   |nil=>intro l _;simp
   | cons k ks ih=>
     intro l g1;rw[HR,dA,xM,GL];have h1:=ih (dR m k l) λx hx=>g1 x (by simp[hx]);have h2:=Ma m k l (g1 k ss);omega
 have h1:=g2 (t.kids.take k) l λx hx=>g0 x (PM hx);have h3:(t.kids.take k).length<=1:=by simp;omega
 have:(t.kids.take k).length*2^m<=1*2^m:=IK _ h3;omega
def X5{t:aD}(h:iS W w b o t):iS W w b (o+3) t.kids:=by
 have h':iS W w b o t.tup:=by obtain⟨F,cs,hr,ha⟩:=h;exact⟨F,cs,LU.1 hr,ha⟩
 exact h'.snd.snd.snd
def ic(ih:∀ m,m+1=n->Gw m):Gw n:=by
 intro w W _ u t l F h e hr hn hF ht hl;refine co (g:=kf [] [(4,33423425,[0,17])] []) Tryz.func205 ?_;refine lA dK rfl h e λw1 M hA hV=>aE BK<|aS aG (EQ hA) xx λ_=>bI<|br (λc1=>?_) λc1=>?_
 ·refine aE yZ ?_;refine eV cG (AU hA) xx λhS=>?_;have:1<=2^n:=YC;refine(Zp (hr.ext M) hn hS oo).mono ?_;rintro r w2 ⟨hc,F',h1,h2,h3⟩;refine⟨(aB.chg F M).trans hc,F',by rw[Cv c1];exact h1,h2,λb hb=>?_⟩;rcases h3 b hb with h|h
  ·exact .inl h
  exact .inr (eH M.size h)
 obtain⟨m,hm,he,gg,g1⟩:=N7 ht c1 hl;refine aE pF<|rI pE (X5 (uT h hV rfl)) (e.trans M) xx λ_ g2=>aX mY g2 ?_;have:=fD g2;refine bV t.kids.length (λk us w'=>∃q,us=[q,iV k]/\ZR F w ((t.kids.take k).foldl (λl k=>dR m k l) l) q w') 0 (z0 _) ⟨u,rfl,aB.chg F M,F,by simpa using hr.ext M,hn,λb hb=>.inl hb⟩ ?_;rintro k mm _ w2 _ ⟨q,hu,C,F2,g3,gb,g0⟩;obtain⟨gh,gi⟩:=dQ hu;try rw[gh]
 try rw[gi]
 have gj:∀b∈F2,W.heap.size<=b:=λb hb=>by
   rcases g0 b hb with h|h
   ·exact hF b h
   exact eH e.size h
 have g4:aB W w2:=e.chg_trans C hF;refine bM<|br (λc2=>?_) λc2=>?_
 ·have hk:k<t.kids.length:=oo
  obtain⟨m',rfl⟩:∃m',n=m'+1:=by
    rcases hm with h|h
    ·rw[h]at hk;simp at hk
    exact⟨m,h⟩
  have gl:m'=m:=by
    rcases hm with h|h
    ·rw[h]at hk;simp at hk
    omega
  subst gl;refine bC mY dK g2 hk λb _ gn=>aL dK gn g4 λ_ gc=>mB BZ rfl dK rfl gc g4 λw3 D _ gp=>pX gp xx<|(ih m' rfl gc xx (g3.ext D) gb gj (gg _ (cY hk)) (g1 k hk)).mono λr _⟨O,F4,gq,gr,gs⟩=>aU<|⟨mm-1,oo,k+1,oo,r,rfl,?_⟩;refine⟨?_,F4,by rw[D7 _ _ hk];exact gq,gr,λb hb=>?_⟩
  · -- the blocks of F alone have g5
   refine⟨O.os.trans (D.os.trans C.os),O.tape.trans (D.tape.trans C.tape),O.output.trans (D.output.trans C.output),eH C.size (eH D.size O.size),λb hb gd=>?_⟩;have gf:b<w2.heap.size:=kP hb C.size
   have g9:b∉F2:=λhm=>by
     rcases g0 b hm with h|h
     ·exact gd h
     omega
   rw[O.block b (kP gf D.size) g9,D.heap gf,C.block b hb gd]
  rcases gs b hb with h|h
  ·exact g0 b h
  have:=D.size;have:=C.size;exact .inr oo
 rw[iO oo,<-he]at g3;exact⟨C,F2,g3,gb,g0⟩
theorem Qz:∀n,Gw n
  |n=>ic λm hm=>Qz m
termination_by n=>n
decreasing_by omega
def yx(ih:∀ m,m+1=n->Kl m):Kl n:=by
 intro w W _ u t l F h e hr hn hF ht hl;refine co (g:=kf [] [(3,16776240,[5]),(9,8795556151362,[1,6])] [(5,[0,1,2,3,4,5,6],0)]) Tryz.func231 ?_;have g0:=fD hr.own.is;have:1<=2^n:=YC;refine lA dK rfl h e λw1 D hA hV=>?_;have gg:w.heap.size<w1.heap.size:=hV.lt;have gh:w.heap.size∉F:=λhm=>by have:=hr.lt _ hm;omega
 refine aE BK<|aS aG (EQ hA) xx λ_=>bI<|br (λc1=>?_) λc1=>?_
 ·have g1:=hr.ext D;refine bV l.length (λk us w'=>us=[iV k]/\aB w1 w'/\t.name∉l.take k) 0 (z0 _) ⟨rfl,xx,ss⟩ ?_;rintro k mm uu w2 gi ⟨hu,O,M⟩;try replace hu:=cJ hu
  rw[hu];refine aX cL g1.own.is<|bM<|br (λc2=>?_) λc2=>?_
  ·have hk:k<l.length:=oo;have V:=O.t (cO w2);refine bC cL cG g1.own.is hk λb o g4=>eV cG g4 V λ_=>aE yZ<|eV cG (AU hA) V λ_=>eX<|br (λc3=>?_) λc3=>?_
   ·have hm:t.name∈l:=c3▸cY hk;refine⟨aB.chg F xx,F,?_,hn,λb hb=>.inl hb⟩;rw[Cv c1,yX,aP hm];exact g1.ext V
   refine aU<|⟨mm-1,oo,k+1,oo,rfl,V,WJ hk M c3⟩
  rw[iO oo]at M;have V:=O.t (cO w2)
  first
    |refine aE yZ ?_
    |skip
  refine eV cG (AU hA) O λhS=>Ut (g1.ext O) hn hS oo λ_ w' hc ⟨F',h1,h2,h3⟩=>⟨(aB.chg F xx).trans hc,F',by rw[Cv c1,yX,aH M];exact h1,h2,λb hb=>?_⟩;rcases h3 b hb with h|h
  ·exact .inl h
  exact .inr (eH (D.t O).size h)
 obtain⟨m,hm,he,gj,g0⟩:=N7 ht c1 hl;refine bV t.kids.length (λk us w'=>∃q,us=[q,iV k]/\ZR F w1 ((t.kids.take k).foldl (λl k=>dR m k l) l) q w') 0 (z0 _) ⟨u,rfl,cH.refl F w1,F,by simpa using hr.ext D,hn,λb hb=>.inl hb⟩ ?_;rintro k mm uu w2 gi ⟨q,hu,C,F2,g5,gb,g2⟩;obtain⟨gl,gn⟩:=dQ hu;try rw[gl]
 try rw[gn]
 have gp:∀b∈F2,W.heap.size<=b:=λb hb=>by
   rcases g2 b hb with h|h
   ·exact hF b h
   have:=e.size;have:=D.size;omega
 have g3:aB W w2:=(e.trans D).chg_trans C hF;have gc:iS W w2 w.heap.size 0 t:=(uT h hV rfl).keep (C.block _ gg gh);refine aE pF<|aL pE (sK (gc.at g3)) xx λ_ gd=>aX mY gd ?_;have:=fD gd;refine bM<|br (λc2=>?_) λc2=>?_
 ·have hk:k<t.kids.length:=oo
  obtain⟨m',rfl⟩:∃m',n=m'+1:=by
    rcases hm with h|h
    ·rw[h]at hk;simp at hk
    exact⟨m,h⟩
  have gq:m'=m:=by
    rcases hm with h|h
    ·rw[h]at hk;simp at hk
    omega
  subst gq;refine aE pF<|rI pE (X5 gc) g3 xx λ_ gr=>bC mY dK gr hk λb o gs=>aL dK gs g3 λ_ gt=>(ih m' rfl gt g3 g5 gb gp (gj _ (cY hk)) (g0 k hk)).mono λr _⟨Z,F4,gx,gy,gz⟩=>aU<|⟨mm-1,oo,k+1,oo,r,rfl,?_⟩;refine⟨?_,F4,by rw[D7 _ _ hk];exact gx,gy,λb hb=>?_⟩
  ·refine⟨Z.os.trans C.os,Z.tape.trans C.tape,Z.output.trans C.output,eH C.size Z.size,λb hb gf=>?_⟩;have gA:b<w2.heap.size:=kP hb C.size
   have g9:b∉F2:=λhm=>by
     rcases g2 b hm with h|h
     ·exact gf h
     omega
   rw[Z.block b gA g9,C.block b hb gf]
  rcases gz b hb with h|h
  ·exact g2 b h
  have:=C.size;exact .inr oo
 rw[iO oo,<-he]at g5;refine⟨(aB.chg F D).trans C,F2,g5,gb,λb hb=>?_⟩;rcases g2 b hb with h|h
 ·exact .inl h
 exact .inr (eH D.size h)
theorem Sy:∀n,Kl n
  |n=>yx λm hm=>Sy m
termination_by n=>n
decreasing_by omega
def mN(t:aD):List ByteArray:=if fK 6 t=true then dR 6 t []else[]
def s7(t:aD):(mN t).length<=64:=by
 unfold mN;split
 ·have:=Ma 6 t [] (by assumption);simpa using this
 simp
def V2{α:Type}[Rep α](e:TypeId)(w:wD):fL (α:=α) [] e w (.slice none 0 0) []:=⟨[],[],⟨ss,.inl ⟨rfl,rfl⟩⟩,⟨rfl,rfl⟩,rfl,Wr.nil _⟩
def Z6{t:aD}(h:Is W v t)(e:aB W w):aJ tp 137 [v] w λr w'=>aB w w'/\eG w.heap.size w' r (mN t):=by
 refine co (g:=kf [] [] []) Tryz.func137 ?_;refine lA dK rfl h e λw1 C _ hV=>pX hV xx<|(TJ h (e.trans C)).mM λ_ D=>dG<|bW (λc=>?_) λc=>?_
 ·refine⟨xx,?_⟩;unfold mN;rw[aH (by simpa using c)];exact XO rfl
 have c:fK 6 t=true:=by simpa using c
 refine pX hV D<|(Qz 6 h ((e.trans C).trans D) (V2 _ _) kM ss c dD).mono ?_;rintro r _ ⟨hc,F',hr,hn,hs⟩;refine⟨(C.t D).trans (cH.ext hc),?_⟩;unfold mN;rw[aP c];exact⟨F',⟨hr.own,hn,hr.wr⟩,λb hb=>(hs b hb).elim (λh=>by cases h) λh=>eH (C.t D).size h⟩
def Ht{t:aD}(h:Is W v t)(e:aB W w):aJ tp 137 [v] w λr w'=>aB w w'/\Is w' r (mN t):=(Z6 h e).mono λr w' h=>⟨h.1,h.2.is⟩
def D0{t:aD}(h:Is W v t)(e:aB W w):aJ tp 171 [v] w λr w'=>aB w w'/\eG w.heap.size w' r (mN t):=by
 refine co (g:=kf [] [] []) Tryz.func171 ?_;refine lA dK rfl h e λw1 g0 _ hV=>pX hV xx<|(SC h (e.trans g0)).mM λ_ g1=>dG<|bW (λc=>?_) λc=>?_
 ·refine Ex (α:=ByteArray) cL cG λa w3 D g2=>?_;refine⟨(g0.t g1).trans D,?_⟩;unfold mN;rw[aH (by simpa using c)];exact g2.toI.own.own.mono (eH g0.size g1.size)
 have c:fK 6 t=true:=by simpa using c
 refine pX hV g1<|Ex (α:=ByteArray) cL cG λa w3 D g2=>?_;obtain⟨_,hr,hn,hl⟩:=g2;have C:=(g0.t g1);refine(Sy 6 h ((e.trans C).trans D) hr hn (λb hb=>eH (e.trans C).size (hl b hb)) c dD).mono ?_;rintro r _ ⟨hc,F',g3,g4,g5⟩;refine⟨(C.t D).chg_trans hc (λb hb=>eH C.size (hl b hb)),?_⟩;unfold mN;rw[aP c];exact⟨F',⟨g3.own,g4,g3.wr⟩,λb hb=>(g5 b hb).elim (λh=>eH C.size (hl b h)) λh=>eH (C.t D).size h⟩
def Ns{t:aD}(h:Is W v t)(e:aB W w):aJ tp 171 [v] w λr w'=>aB w w'/\Is w' r (mN t):=(D0 h e).mono λr w' h=>⟨h.1,h.2.is⟩
mutual
def wT:aD->Nat
  |.mk _ _ s ks=>s.size+TY ks
def TY:List aD->Nat
  |[]=>0
  |t :: r=>1+wT t+TY r
end
theorem WY(l:List aD):TY l=l.length+sm wT l:=by
 induction l with
 |nil=>simp[TY,sm]
 |cons t l ih=>rw[TY,ih];simp[sm];omega
def VK(t:aD):wT t=t.name.size+TY t.kids:=by cases t;rw[wT];rfl
def zJc:bH:=⟨0,0,bA,0⟩
def en(c:aF)(i:Nat):Int:=c.E.getD i 0
def bO(c:aF)(j:Nat):bH:=c.I.getD j zJc
def mP(h:i<c.E.length):c.E[i]=en c i:=by unfold en;rw[List.getD_eq_getElem?_getD,List.getElem?_eq_getElem h];rfl
def oM(h:i<c.I.length):c.I[i]=bO c i:=by unfold bO;rw[List.getD_eq_getElem?_getD,List.getElem?_eq_getElem h];rfl
def prc(c:aF)(a:Int):Nat->Int
 |0=>-1
 |n+1=>if en c n<=a then n else prc c a n
def eC(c:aF)(a:Int):Int:=prc c a c.E.length
theorem Bd{c:aF}{a:Int}{m:Nat}:∀{n:Nat},m<=n->(∀j,m<=j->j<n->a<en c j)->prc c a n=prc c a m
 |0,h,_=>by rw[Nat.le_zero.1 h]
 | n+1,h,hj=>by
   by_cases e:m=n+1
   ·rw[e]
   rw[prc,aH (by have:=hj n oo oo;omega)];exact Bd oo λj h1 h2=>hj j h1 oo
theorem Tf{c:aF}{a:Int}:∀(n:Nat),-1<=prc c a n/\prc c a n<n
 |0=>by simp[prc]
 | n+1=>by
   have:=Tf (c:=c) (a:=a) n;rw[prc];split<;>omega
def Jr:-1<=eC c a/\eC c a<c.E.length:=Tf _
def uK(c:aF)(p:Int):Int:=if p+1<c.E.length then en c (p+1).toNat-1 else(c.I.length:Int)-1
def iF(c:aF)(i:Nat):Int:=if i+1<c.E.length then en c (i+1)else c.I.length
def JF(c:aF)(i:Nat):uK c i=iF c i-1:=by
 unfold uK iF;have e:((i:Int)+1).toNat=i+1:=oo;by_cases h:i+1<c.E.length
 ·rw[aP oo,aP h,e]
 rw[aH oo,aH h]
def VP (h0:Is W0 v0 c)(e0:aB W0 w)  :
   aJ tp 95 [v0,iV a] w λr w'=>aB w w'/\(r=iV (eC c a)):=by
 refine co (g:=kf [] [(2,4193328,[5])] []) Tryz.func95 ?_;refine lA cP rfl h0 e0 λg0 y1 g2 _=>aE kJ<|aL dT (lJ g2) xx λ_ h7=>?_;have:=fD h7;refine aX bG h7<|kQ io<|bV (c.E.length) (λk us w'=>us=[iV ((c.E.length:Int)-1-(k:Int))]/\aB g0 w'/\(∀j,c.E.length-k<=j->j<c.E.length->a<en c j)) (0) oo ⟨ss,xx,λj h1 h2=>oo⟩ ?_;rintro k m2 _ _ _ ⟨hu,y2,C⟩;try replace hu:=cJ hu
 try rw[hu]
 try clear hu
 refine pD<|br (λc1=>?_) λc1=>?_
 ·refine aE kJ ?_;refine aL dT (lJ g2) y2 λ_ g4=>wR bG aG g4 oo oo λ_ _ g3=>?_;have g1:((c.E.length:Int)-1-(k:Int)).toNat=c.E.length-k-1:=oo;simp only[g1]at g3;refine aS aG g3 y2 λ_=>tR<|br (λc2=>?_) λc2=>?_
  ·refine⟨xx,?_⟩;rw[mP]at c2;unfold eC;rw[Bd (m:=c.E.length-k) oo C,show c.E.length-k=(c.E.length-k-1)+1 by omega,prc,aP c2];congr 1;omega
  refine kQ io<|⟨m2-1,oo,k+1,oo,by simp;omega,y2,?_⟩;intro j h1 h2;by_cases hj:j=c.E.length-k-1
  ·subst hj;rw[mP]at c2;omega
  exact C j oo h2
 refine⟨xx,?_⟩;unfold eC;rw[Bd (m:=c.E.length-k) oo C,show c.E.length-k=0 by omega];rfl
def NU{p:Int} (h0:Is W0 v0 c)(e0:aB W0 w)(hp0:-1<=p)(hp1:p<1000000000000)(hE:∀ i,i<c.E.length->0<=en c i) :
   aJ tp 169 [v0,iV p] w λr w'=>aB w w'/\(r=iV (uK c p)):=by
 refine co (g:=kf [] [] []) Tryz.func169 ?_;refine lA cP rfl h0 e0 λg0 y1 g1 _=>rQ io<|aE kJ<|aL dT (lJ g1) xx λ_ h8=>?_;have:=fD h8;refine aX bG h8<|bM<|br (λc1=>?_) λc1=>?_
 ·refine aE kJ ?_;refine aL dT (lJ g1) xx λ_ g3=>rQ io<|wR bG aG g3 oo oo λ_ _ g4=>aS aG g4 xx λ_=>?_;have g5:=hE (p+1).toNat oo;rw[<-mP oo]at g5;refine kQ (by unfold bR at *;omega)<|⟨y1,?_⟩;unfold uK;rw[aP c1,mP]
 refine aE eW<|aL eJ (fV g1) xx λ_ g2=>?_;have:=fD g2;refine aX eQ g2<|kQ (by unfold bR;have:=fD g2;omega)<|⟨y1,?_⟩;unfold uK;rw[aH c1]
def uR:ByteArray:=ByteArray.mk #[109,97,105,110]
def cF(c:aF):Prop:=(decide ((c.B.length:Int)<=6)&&c.B.all cK)=true/\(decide ((c.L.length:Int)<=6)&&c.L.all cK)=true/\(decide ((c.P.length:Int)<=8)&&c.P.all cK)=true /\
 c.B.Nodup/\c.L.Nodup/\c.P.Nodup/\uR∈c.P
instance(c:aF):Decidable (cF c):=by unfold cF;infer_instance
def iQ(c:aF):Prop:=c.E.length=c.P.length/\c.I.length<=1500/\(∀i,i<c.E.length->(i=0->en c 0=0)/\(0<i->en c (i-1)<en c i)/\en c i<c.I.length) /\
 ∀j,j<c.I.length->((bO c j).op=9↔uK c (eC c j)=j)
instance(c:aF):Decidable (iQ c):=by unfold iQ;infer_instance
def VG{P:Nat->Prop}(h:∀ i,i<k->P i)(hk:P k):∀i,i<k+1->P i:=λi hi=>by
 by_cases e:i=k
 ·rw[e];exact hk
 exact h i oo
theorem Gs{c:aF}{n:Nat}{m:Int}(h:∀ i,i<n->(i=0->en c 0=0)/\(0<i->en c (i-1)<en c i)/\en c i<m):∀i,i<n->0<=en c i
 |0,hi=>by rw[(h 0 hi).1 rfl];omega
 | i+1,hi=>by
   have h1:=Gs h i oo;have h2:=(h (i+1) hi).2.1 oo;simp only[ND]at h2;omega
def zw (h0:Is W0 v0 c)(e0:aB W0 w)  :
   aJ tp 91 [v0] w λr w'=>aB w w'/\(r=.bool (decide (cF c/\iQ c))):=by
 refine co (g:=kf [] [(4,5070602400912773490798736965644,[3]),(9,21267642861956253053543306977672691732,[4])] [(6,[0,1,2,3,4,5,6,7,8,9,10,11,12,13,14,15,16,17,18,19,20,21,22,23,24,25,26,27,28,29,30,31,32,33,34,35,36,37],0),(11,[0,1,2,3,4,5,6,7,8,9,12,10,11,13,14],3072)]) Tryz.func91 ?_;refine lA cP rfl h0 e0 λgD y1 D gE=>aE vU<|aL dC (wF D) xx λ_ h6=>(VE h6 xx).mM λ_ y2=>dG<|bW (λc1=>?_) λc1=>?_
 ·refine⟨xx,?_⟩;have:¬(cF c/\iQ c):=λh=>by rw[h.1.1]at c1;cases c1
  simp only[this,eT]
 refine aE uP<|aL dC (vX D) y2 λ_ gK=>(VE gK y2).mM λ_ y3=>dG<|bW (λc2=>?_) λc2=>?_
 ·refine⟨xx,?_⟩;have:¬(cF c/\iQ c):=λh=>by rw[h.1.2.1]at c2;cases c2
  simp only[this,eT]
 refine aE lQ<|aL dC (nF D) xx λ_ gL=>(VE gL xx).mM λ_ y4=>dG<|bW (λc3=>?_) λc3=>?_
 ·refine⟨xx,?_⟩;have:¬(cF c/\iQ c):=λh=>by rw[h.1.2.2.1]at c3;cases c3
  simp only[this,eT]
 refine aE vU<|aL dC (wF D) xx λ_ gM=>(QM gM xx).mM λ_ y5=>br (λc4=>?_) λc4=>?_
 ·refine⟨xx,?_⟩;have:¬(cF c/\iQ c):=λh=>c4 h.1.2.2.2.1;simp only[this,eT]
 refine aE uP<|aL dC (vX D) xx λ_ gN=>(QM gN xx).mM λ_ y6=>br (λc5=>?_) λc5=>?_
 ·refine⟨xx,?_⟩;have:¬(cF c/\iQ c):=λh=>c5 h.1.2.2.2.2.1;simp only[this,eT]
 refine aE lQ<|aL dC (nF D) xx λ_ gO=>(QM gO xx).mM λ_ y7=>br (λc6=>?_) λc6=>?_
 ·refine⟨xx,?_⟩;have:¬(cF c/\iQ c):=λh=>c6 h.1.2.2.2.2.2.1;simp only[this,eT]
 refine aE kJ<|aL dT (lJ D) xx λ_ gF=>?_;have gG:=fD gF;refine aX bG gF<|aE lQ<|aL dC (nF D) xx λ_ gP=>aX cL gP<|fP<|br (λc7=>?_) λc7=>?_
 ·refine⟨xx,?_⟩;have:¬(cF c/\iQ c):=λh=>c7 (by rw[h.2.1]);simp only[this,eT]
 refine aE eW<|aL eJ (fV D) xx λ_ gH=>?_;have gI:=fD gH;refine aX eQ gH<|oN<|br (λc8=>?_) λc8=>?_
 ·refine⟨xx,?_⟩;have:¬(cF c/\iQ c):=λh=>by have:=h.2.2.1;omega
  simp only[this,eT]
 refine aE lQ<|aL dC (nF D) xx λ_ gQ=>(NZ gQ xx).mM λgJ y8=>bM<|br (λc9=>?_) λc9=>?_
 ·refine⟨xx,?_⟩;have:¬(cF c/\iQ c):=λh=>by have:=HQ.2 h.1.2.2.2.2.2.2;unfold uR at this;omega
  simp only[this,eT]
 refine bV (c.E.length) (λk us w'=>us=[iV k]/\aB gJ w'/\(∀i,i<k->(i=0->en c 0=0)/\(0<i->en c (i-1)<en c i)/\en c i<c.I.length)) (0) oo ⟨ss,xx,λi h=>oo⟩ ?_;rintro k m4 _ gf _ ⟨hu,y9,O⟩;try replace hu:=cJ hu
 try rw[hu]
 try clear hu
 refine aE kJ<|aL dT (lJ D) xx λ_ gR=>aX bG gR<|bM<|br (λgS=>?_) λgS=>?_
 ·have C:=cO gf;refine bI<|br (λg4=>?_) λg4=>?_
  ·refine aE kJ ?_;refine aL dT (lJ D) xx λ_ gT=>wR bG aG gT oo oo λ_ _ gU=>aS aG gU xx λ_=>fP<|br (λg5=>?_) λg5=>?_
   ·refine⟨xx,?_⟩;rw[mP]at g5;have:¬(cF c/\iQ c):=λh=>g5 ((h.2.2.2.1 0 oo).1 rfl);simp only[this,eT]
   refine oN<|gbr (λgV=>?_) λgV=>?_
   ·refine aE kJ ?_;refine aL dT (lJ D) xx λgW gg=>bC bG aG gg oo λgX gY gh=>aS aG gh xx λgi=>aE kJ<|aL dT (lJ D) xx λgZ gj=>kQ io<|wR bG aG gj oo oo λh4 h5 gl=>aS aG gl xx λgn=>?_;have Z:((k:Int)-1).toNat=k-1:=oo;refine tR<|br (λh9=>?_) λh9=>?_
    ·refine⟨xx,?_⟩;exact absurd g4 oo
    refine aE kJ<|aL dT (lJ D) xx λgp g0=>bC bG aG g0 oo λgq gr g1=>aS aG g1 xx λg2=>aE eW<|aL eJ (fV D) xx λgs g3=>aX eQ g3<|pD<|br (λha=>?_) λha=>?_
    ·refine⟨xx,?_⟩;exact absurd g4 oo
    refine aU<|⟨m4-1,oo,k+1,oo,ss,xx,?_⟩;exact absurd g4 oo
   refine aE kJ<|aL dT (lJ D) xx λgp g0=>bC bG aG g0 oo λgq gr g1=>aS aG g1 xx λg2=>aE eW<|aL eJ (fV D) xx λgs g3=>aX eQ g3<|pD<|br (λgt=>?_) λgt=>?_
   ·refine⟨xx,?_⟩;rw[mP]at gt;have:¬(cF c/\iQ c):=λh=>by have:=(h.2.2.2.1 k oo).2.2;omega
    simp only[this,eT]
   refine aU<|⟨m4-1,oo,k+1,oo,ss,xx,?_⟩;rw[mP]at gt g5;have hb:k=0:=oo;subst hb;exact VG O ⟨λ_=>eK.1 g5,λh=>oo,oo⟩
  refine oN<|gbr (λhc=>?_) λhc=>?_
  ·refine aE kJ ?_;refine aL dT (lJ D) xx λgW gg=>bC bG aG gg oo λgX gY gh=>aS aG gh xx λgi=>aE kJ<|aL dT (lJ D) xx λgZ gj=>kQ io<|wR bG aG gj oo oo λh4 h5 gl=>aS aG gl xx λgn=>?_;have Z:((k:Int)-1).toNat=k-1:=oo;refine tR<|br (λg9=>?_) λg9=>?_
   ·refine⟨xx,?_⟩;rw[mP,mP]at g9;simp only[Z]at g9;have:¬(cF c/\iQ c):=λh=>by have:=(h.2.2.2.1 k oo).2.1 oo;omega
    simp only[this,eT]
   refine aE kJ<|aL dT (lJ D) xx λgp g0=>bC bG aG g0 oo λgq gr g1=>aS aG g1 xx λg2=>aE eW<|aL eJ (fV D) xx λgs g3=>aX eQ g3<|pD<|br (λgx=>?_) λgx=>?_
   ·refine⟨xx,?_⟩;rw[mP]at gx;have:¬(cF c/\iQ c):=λh=>by have:=(h.2.2.2.1 k oo).2.2;omega
    simp only[this,eT]
   refine aU<|⟨m4-1,oo,k+1,oo,ss,xx,?_⟩;rw[mP]at gx;rw[mP,mP]at g9;simp only[Z]at g9;exact VG O ⟨λh=>oo,λ_=>oo,oo⟩
  refine aE kJ<|aL dT (lJ D) xx λgp g0=>bC bG aG g0 oo λgq gr g1=>aS aG g1 xx λg2=>aE eW<|aL eJ (fV D) xx λgs g3=>aX eQ g3<|pD<|br (λhd=>?_) λhd=>?_
  ·refine⟨xx,?_⟩;exact absurd g4 oo
  refine aU<|⟨m4-1,oo,k+1,oo,ss,xx,?_⟩;exact absurd g4 oo
 refine bV (c.I.length) (λk us w'=>us=[iV k]/\aB gf w'/\(∀j,j<k->((bO c j).op=9↔uK c (eC c j)=j))) (0) oo ⟨ss,xx,λi h=>oo⟩ ?_;rintro k m9 _ gy _ ⟨hu,M,gb⟩;try replace hu:=cJ hu
 try rw[hu]
 try clear hu
 refine aE eW<|aL eJ (fV D) xx λ_ gz=>aX eQ gz<|bM<|br (λhe=>?_) λhe=>?_
 ·have V:=cO gy;refine aE eW<|aL eJ (fV D) xx λ_ gA=>bC eQ fE gA oo λ_ _ gB=>aE lV<|aS aG (lW gB) xx λ_=>bI<|pX gE xx<|pX gE xx ?_
  have h8:c.E.length<=8:=by
    simp only[WR,iA,lZ]at c3;omega
  refine(VP h0 xx).mM λ_ gd=>?_;refine⟨gd,?_⟩;refine(NU h0 xx (by have:=Jr (c:=c) (a:=k);omega) (by have:=Jr (c:=c) (a:=k);omega) (Gs λi hi=>O i oo)).mono ?_;rintro _ _ ⟨gC,rfl⟩;refine⟨gC,?_⟩;refine bI<|zy u4<|br (λgc=>?_) λgc=>?_
  ·refine⟨xx,?_⟩;rw[oM]at gc;have:¬(cF c/\iQ c):=λh=>gc (decide_eq_decide.2 (h.2.2.2.2 k oo));simp only[this,eT]
  refine aU<|⟨m9-1,oo,k+1,oo,ss,xx,?_⟩;rw[oM]at gc;exact VG gb (decide_eq_decide.1 (eK.1 gc))
 refine⟨xx,?_⟩
 have:cF c/\iQ c:=by
   refine⟨⟨by simpa using c1,by simpa using c2,by simpa using c3,eK.1 c4,eK.1 c5,eK.1 c6,HQ.1 (by unfold uR;omega)⟩,oo,oo,λi hi=>O i oo,λj _=>gb j oo⟩
 simp only[this,and_self,uN]
def tU(c:aF)(op:Int):Int:=if op=1 then c.B.length else if op=4\/op=5 then c.P.length else if op=6\/op=7 then c.L.length else 1
def oX(c:aF)(a:bH)(b e:Int):Prop:=(1<=a.op/\a.op<=9)/\(0<=a.arg/\a.arg<tU c a.op) /\
 (if a.op=1\/a.op=2 then fK 6 a.term=true/\(∀s∈mN a.term,s∈c.B)else a.term=bA)/\(if a.op=2\/a.op=3 then b<=a.to/\a.to<e else a.to=0)
instance(c:aF)(a:bH)(b e:Int):Decidable (oX c a b e):=by unfold oX;infer_instance
def zi (h0:Is W0 v0 c)(e0:aB W0 w)(hj:j<c.I.length)(hE:∀ i,i<c.E.length->0<=en c i)(h8:c.E.length<=8)(hp:0<=eC c j) :
   aJ tp 92 [v0,iV j] w λr w'=>aB w w'/\(r=.bool (decide (oX c (bO c j) (en c (eC c j).toNat) (uK c (eC c j)+1)))):=by
 refine co (g:=kf [(12,137438920768,[6]),(25,4835703278177041722114448,[]),(27,9898684611004583682494169104,[])] [(19,151106504079791792062736,[8])] [(21,[0,1,2,3,4,5,6,7],0),(28,[0,1,2,3,4,5,6,7,8,9,10,11],512)]) Tryz.func92 ?_;have hpl:=Jr (c:=c) (a:=j);refine lA cP rfl h0 e0 λgn y1 O gH=>aE eW<|aL eJ (fV O) xx λ_ gP=>bC eQ fE gP oo λ_ _ gQ=>aL fE gQ xx λ_ gp=>?_;rw[oM]at gp;obtain⟨a,ha⟩:∃a,a=bO c j:=⟨_,rfl⟩;rw[<-ha]at gp ⊢;refine mB zL rfl fE rfl gp xx λV y2 M _=>dJ.mk (λus w'=>us=[iV (tU c a.op-1)]/\aB V w'/\(True)) ?_ ?_
 ·refine aE lV ?_;refine aS aG (lW M) xx λ_=>bI<|br (λc1=>?_) λc1=>?_
  ·refine aE vU ?_;refine aL dC (wF O) y2 λ_ gq=>?_;have gI:=fD gq;refine aX cL gq<|kQ (by unfold bR;have:=fD gq;omega)<|⟨by unfold tU;rw[aP c1],xx,?_⟩;trivial
  refine bI<|br (λc2=>?_) λc2=>?_
  ·refine aE uP ?_;refine aL dC (vX O) y2 λgR g0=>?_;have gb:=fD g0;refine aX cL g0<|kQ (by unfold bR;have:=fD g0;omega)<|⟨by unfold tU;rw[aH oo,aH oo,aP oo],xx,?_⟩;trivial
  refine bI<|br (λc3=>?_) λc3=>?_
  ·refine aE uP ?_;refine aL dC (vX O) y2 λgR g0=>?_;have gb:=fD g0;refine aX cL g0<|kQ (by unfold bR;have:=fD g0;omega)<|⟨by unfold tU;rw[aH oo,aH oo,aP oo],xx,?_⟩;trivial
  refine bI<|br (λc4=>?_) λc4=>?_
  ·refine aE lQ ?_;refine aL dC (nF O) y2 λgS g1=>?_;have gc:=fD g1;refine aX cL g1<|kQ (by unfold bR;have:=fD g1;omega)<|⟨by unfold tU;rw[aH oo,aP oo],xx,?_⟩;trivial
  refine bI<|br (λc5=>?_) λc5=>?_
  ·refine aE lQ ?_;refine aL dC (nF O) y2 λgS g1=>?_;have gc:=fD g1;refine aX cL g1<|kQ (by unfold bR;have:=fD g1;omega)<|⟨by unfold tU;rw[aH oo,aP oo],xx,?_⟩;trivial
  refine⟨by unfold tU;rw[aH oo,aH oo,aH oo];rfl,xx,?_⟩;trivial
 rintro _ _ ⟨hu,y3,C⟩;try replace hu:=cJ hu
 try rw[hu]
 try clear hu
 refine aE lV<|aS aG (lW M) y3 λ_=>(eS ).mM λ_ y4=>mL<|br (λc6=>?_) λc6=>?_
 ·refine⟨xx,?_⟩;have:¬oX c a (en c (eC c j).toNat) (uK c (eC c j)+1):=λh=>c6 h.1;simp only[this,eT]
 refine aE mE<|aS aG (mF M) xx λ_=>(eS ).mM λgJ y5=>mL<|br (λc7=>?_) λc7=>?_
 ·refine⟨xx,?_⟩;have:¬oX c a (en c (eC c j).toNat) (uK c (eC c j)+1):=λh=>c7 (by have:=h.2.1;omega);simp only[this,eT]
 refine dJ.mk (λus w'=>us=[]/\aB gJ w'/\(if a.op=1\/a.op=2 then fK 6 a.term=true/\(∀s∈mN a.term,s∈c.B)else a.term=bA)) ?_ ?_
 ·refine aE lV ?_;refine aS aG (lW M) xx λ_=>bI<|br (λc8=>?_) λc8=>?_
  ·refine aE DA ?_;refine aL dK (DB M) xx λgT gr=>(SC gr xx).mM λ_ y7=>dG<|bW (λc9=>?_) λc9=>?_
   ·refine⟨xx,?_⟩;have:¬oX c a (en c (eC c j).toNat) (uK c (eC c j)+1):=λh=>by have:=h.2.2.1;rw[aP (.inl c8)]at this;rw[this.1]at c9;cases c9
    simp only[this,eT]
   refine aE DA<|aL dK (DB M) xx λgU gs=>(Ns gs xx).mono λgV gK⟨y8,g2⟩=>bV ((mN a.term).length) (λk us w'=>us=[iV k]/\aB gK w'/\(∀s∈(mN a.term).take k,s∈c.B)) (0) oo ⟨ss,xx,ss⟩ ?_;rintro k gt gx gW gy ⟨hu,y9,C⟩;try replace hu:=cJ hu
   try rw[hu]
   try clear hu
   have gd:=fD g2;refine aX cL g2<|bM<|br (λgX=>?_) λgX=>?_
   ·have gf:=cO gW;refine aE vU<|aL dC (wF O) xx λgY gz=>bC cL cG g2 oo λgZ h4 gA=>eV cG gA xx λgB=>(NZ gz xx).mM λ_ gL=>bM<|br (λh5=>?_) λh5=>?_
    ·refine⟨xx,?_⟩
     have:¬oX c a (en c (eC c j).toNat) (uK c (eC c j)+1):=λh=>by
       have:=h.2.2.1;rw[aP (.inl c8)]at this;have:=HQ.2 (this.2 _ (cY (n:=k) oo));omega
     simp only[this,eT]
    refine aU<|⟨gt-1,oo,k+1,oo,ss,xx,?_⟩;intro s hs;rw[tk oo]at hs;rcases dF.1 hs with hs|hs
    ·exact C s hs
    simp only[bF,dL,dI]at hs;subst hs;exact HQ.1 oo
   refine⟨ss,xx,?_⟩;rw[aP (.inl c8)];rw[iO oo]at C;exact⟨by simpa using c9,C⟩
  refine aE lV<|aS aG (lW M) xx λ_=>bI<|br (λgi=>?_) λgi=>?_
  ·refine aE DA ?_;refine aL dK (DB M) xx λgT gr=>(SC gr xx).mM λ_ g3=>dG<|bW (λgj=>?_) λgj=>?_
   ·refine⟨xx,?_⟩;have:¬oX c a (en c (eC c j).toNat) (uK c (eC c j)+1):=λh=>by have:=h.2.2.1;rw[aP (.inr gi)]at this;rw[this.1]at gj;cases gj
    simp only[this,eT]
   refine aE DA<|aL dK (DB M) xx λgU gs=>(Ns gs xx).mono λgV gg⟨gl,g2⟩=>bV ((mN a.term).length) (λk us w'=>us=[iV k]/\aB gg w'/\(∀s∈(mN a.term).take k,s∈c.B)) (0) oo ⟨ss,xx,ss⟩ ?_;rintro k gt gx gC gy ⟨hu,g4,C⟩;try replace hu:=cJ hu
   try rw[hu]
   try clear hu
   have gd:=fD g2;refine aX cL g2<|bM<|br (λh6=>?_) λh6=>?_
   ·have gh:=cO gC;refine aE vU<|aL dC (wF O) xx λgY gz=>bC cL cG g2 oo λgZ h4 gA=>eV cG gA xx λgB=>(NZ gz xx).mM λ_ gM=>bM<|br (λh9=>?_) λh9=>?_
    ·refine⟨xx,?_⟩
     have:¬oX c a (en c (eC c j).toNat) (uK c (eC c j)+1):=λh=>by
       have:=h.2.2.1;rw[aP (.inr gi)]at this;have:=HQ.2 (this.2 _ (cY (n:=k) oo));omega
     simp only[this,eT]
    refine aU<|⟨gt-1,oo,k+1,oo,ss,xx,?_⟩;intro s hs;rw[tk oo]at hs;rcases dF.1 hs with hs|hs
    ·exact C s hs
    simp only[bF,dL,dI]at hs;subst hs;exact HQ.1 oo
   refine⟨ss,xx,?_⟩;rw[aP (.inr gi)];rw[iO oo]at C;exact⟨by simpa using gj,C⟩
  refine aE DA<|aL dK (DB M) xx λ_ hb=>ek (α:=aD) zJa BZ kK rfl λ_ hc=>(Zl hb xx hc xx rfl).mM λ_ D=>mL<|br (λgD=>?_) λgD=>?_
  ·refine⟨xx,?_⟩;have:¬oX c a (en c (eC c j).toNat) (uK c (eC c j)+1):=λh=>by have:=h.2.2.1;rw[aH oo]at this;exact gD this
   simp only[this,eT]
  refine⟨ss,D,?_⟩;rw[aH oo];exact eK.1 gD
 rintro _ gE ⟨hu,D,hT⟩;try replace hu:=cJ hu
 clear hu;refine dJ.mk (λus w'=>us=[]/\aB gE w'/\(a.op=2\/a.op=3)) ?_ ?_
 ·refine aE lV ?_;refine aS aG (lW M) xx λ_=>fP<|br (λhd=>?_) λhd=>?_
  ·refine aE lV ?_;refine aS aG (lW M) xx λ_=>fP<|br (λhe=>?_) λhe=>?_
   ·refine aE yU ?_;refine aS aG (CD M) xx λ_=>bI<|⟨xx,?_⟩;congr 1;rw[decide_eq_decide];constructor
    ·exactλh=>⟨eK.1 c6,oo,hT,by rw[aH oo];exact h⟩
    intro h;have:=h.2.2.2;rw[aH oo]at this;exact this
   refine⟨ss,xx,?_⟩;omega
  refine⟨ss,xx,?_⟩;omega
 rintro _ _ ⟨hu,Z,gN⟩;try replace hu:=cJ hu
 clear hu;refine pX gH xx<|(VP h0 xx).mM λgF g5=>?_;have g9:=cO gF;refine aE yU<|aS aG (CD M) xx λ_=>aE kJ<|aL dT (lJ O) xx λ_ hf=>wR bG aG hf oo oo λ_ _ gG=>aS aG gG xx λ_=>pX gH xx<|(NU h0 xx oo oo (by assumption)).mM λ_ gO=>?_;refine⟨gO,?_⟩;refine(eS ).mM λ_ hg=>?_;refine⟨xx,?_⟩;congr 1;rw[decide_eq_decide,mP];constructor
 ·exactλh=>⟨eK.1 c6,oo,hT,by rw[aP gN];omega⟩
 intro h;have:=h.2.2.2;rw[aP gN]at this;omega
def aM(c:aF):Prop:=cF c/\iQ c/\∀j,j<c.I.length->oX c (bO c j) (en c (eC c j).toNat) (uK c (eC c j)+1)
instance(c:aF):Decidable (aM c):=by unfold aM;infer_instance
def iQ.nonneg(h:iQ c):∀i,i<c.E.length->0<=en c i:=Gs h.2.2.1
def cF.p8(h:cF c):c.P.length<=8/\0<c.P.length:=by
 have h1:=h.2.2.1;simp only[iA,lZ]at h1;have:=Cx h.2.2.2.2.2.2;omega
theorem Um{c:aF}{a:Int}(h0:en c 0<=a):∀{n:Nat},0<n->0<=prc c a n
 |1,_=>by rw[prc,aP h0];omega
 | n+2,_=>by
   rw[prc];split
   ·omega
   exact Um h0 oo
def oh(hn:cF c)(h:iQ c){a:Int}(ha:0<=a):0<=eC c a:=by
 have:=hn.p8;have:=h.1;exact Um (by have:=(h.2.2.1 0 oo).1 rfl;omega) oo
def XW (h0:Is W0 v0 c)(e0:aB W0 w)  :
   aJ tp 35 [v0] w λr w'=>aB w w'/\(r=.bool (decide (aM c))):=by
 refine co (g:=kf [] [(4,262028,[3])] []) Tryz.func35 ?_;refine lA cP rfl h0 e0 λg4 y1 g5 g1=>pX g1 xx<|(zw h0 xx).mono ?_;rintro _ g2 ⟨y2,rfl⟩
 skip
 refine mL<|br (λc1=>?_) λc1=>?_
 ·refine⟨xx,?_⟩;have:¬aM c:=λh=>c1 ⟨h.1,h.2.1⟩;simp only[this,eT]
 refine bV (c.I.length) (λk us w'=>us=[iV k]/\aB g2 w'/\(∀j,j<k->oX c (bO c j) (en c (eC c j).toNat) (uK c (eC c j)+1))) (0) oo ⟨ss,xx,λ_ h=>oo⟩ ?_;rintro k m4 _ _ _ ⟨hu,y3,g0⟩;try replace hu:=cJ hu
 try rw[hu]
 try clear hu
 replace c1:=eK.1 c1;refine aE eW<|aL eJ (fV g5) xx λ_ h9=>?_;have g3:=fD h9;refine aX eQ h9<|bM<|br (λc2=>?_) λc2=>?_
 ·refine pX g1 xx<|(zi h0 xx oo c1.2.nonneg (by have:=c1.1.p8;have:=c1.2.1;omega) (oh c1.1 c1.2 oo)).mono ?_;rintro _ _ ⟨y4,rfl⟩;refine mL<|br (λc3=>?_) λc3=>?_
  ·refine⟨xx,?_⟩;have:¬aM c:=λh=>c3 (h.2.2 k oo);simp only[this,eT]
  refine aU<|⟨m4-1,oo,k+1,oo,ss,xx,?_⟩;exact VG g0 (eK.1 c3)
 refine⟨xx,?_⟩;have:aM c:=⟨c1.1,c1.2,λj _=>g0 j oo⟩;simp only[this,uN]
def zpT (h0:Is W0 v0 c)(e0:aB W0 w)  :
   aJ tp 111 [v0] w λr w'=>aB w w'/\(r=.bool (decide (cF c))):=by
 refine co (g:=kf [] [] []) Tryz.func111 ?_;refine lA cP rfl h0 e0 λg0 y1 C _=>aE vU<|aL dC (wF C) xx λ_ h4=>(UW h4 xx).mM λ_ y2=>dG<|bW (λc1=>?_) λc1=>?_
 ·refine⟨xx,?_⟩;have:¬cF c:=λh=>by rw[h.1]at c1;cases c1
  simp only[this,eT]
 refine aE uP<|aL dC (vX C) y2 λ_ h9=>(UW h9 y2).mM λ_ y3=>dG<|bW (λc2=>?_) λc2=>?_
 ·refine⟨xx,?_⟩;have:¬cF c:=λh=>by rw[h.2.1]at c2;cases c2
  simp only[this,eT]
 refine aE lQ<|aL dC (nF C) xx λ_ g1=>(UW g1 xx).mM λ_ y4=>dG<|bW (λc3=>?_) λc3=>?_
 ·refine⟨xx,?_⟩;have:¬cF c:=λh=>by rw[h.2.2.1]at c3;cases c3
  simp only[this,eT]
 refine aE vU<|aL dC (wF C) xx λ_ g2=>(TW g2 xx).mM λ_ y5=>br (λc4=>?_) λc4=>?_
 ·refine⟨xx,?_⟩;have:¬cF c:=λh=>c4 h.2.2.2.1;simp only[this,eT]
 refine aE uP<|aL dC (vX C) xx λ_ g3=>(TW g3 xx).mM λ_ y6=>br (λc5=>?_) λc5=>?_
 ·refine⟨xx,?_⟩;have:¬cF c:=λh=>c5 h.2.2.2.2.1;simp only[this,eT]
 refine aE lQ<|aL dC (nF C) xx λ_ g4=>(TW g4 xx).mM λ_ y7=>br (λc6=>?_) λc6=>?_
 ·refine⟨xx,?_⟩;have:¬cF c:=λh=>c6 h.2.2.2.2.2.1;simp only[this,eT]
 refine aE lQ<|aL dC (nF C) xx λ_ g5=>(LY g5 xx).mM λ_ y8=>?_;refine⟨xx,?_⟩;congr 1;rw[decide_eq_decide];exact⟨λh=>⟨by simpa using c1,by simpa using c2,by simpa using c3,eK.1 c4,eK.1 c5,eK.1 c6,h⟩,λh=>h.2.2.2.2.2.2⟩
def vK(c:aF):Nat->Nat
 |0=>0
 |k+1=>vK c k+if (bO c k).op=9 then 1 else 0
theorem Rf(c:aF):∀k,vK c k<=k
 |0=>iD _
 |k+1=>by have:=Rf c k;rw[vK];split<;>omega
def oR(c:aF):Prop:=c.I.length<=1500/\c.E.length=c.P.length/\en c 0=0/\vK c c.I.length=c.E.length /\
 ∀i,i<c.E.length->en c i<iF c i/\iF c i<=c.I.length/\(bO c (iF c i-1).toNat).op=9
instance(c:aF):Decidable (oR c):=by unfold oR;infer_instance
theorem Lv{c:aF}(h0:en c 0=0):∀{q:Nat},q<c.E.length->(∀i,i<q->en c i<iF c i)->0<=en c q
 |0,_,_=>oo
 | q+1,hq,h=>by
   have h1:=Lv h0 (q:=q) oo λi hi=>h i oo;have h2:=h q oo;unfold iF at h2;rw[aP hq]at h2;omega
def zmJ (h0:Is W0 v0 c)(e0:aB W0 w)(hp:0<c.P.length) :
   aJ tp 112 [v0] w λr w'=>aB w w'/\(r=.bool (decide (oR c))):=by
 refine co (g:=kf [(18,9442427122730076733696,[8])] [(5,4393751543848,[3,32]),(13,19807040628564958498479145412,[50])] [(15,[0,1,2,3,4,5,6,7,8,9],0)]) Tryz.func112 ?_;refine lA cP rfl h0 e0 λD y1 C _=>aE eW<|aL eJ (fV C) xx λ_ g2=>?_;have g3:=fD g2;refine aX eQ g2<|oN<|br (λc1=>?_) λc1=>?_
 ·refine⟨y1,?_⟩;have:¬oR c:=λh=>by have:=h.1;omega
  simp only[this,eT]
 refine aE kJ<|aL dT (lJ C) xx λ_ gg=>aX bG gg<|aE lQ<|aL dC (nF C) xx λ_ g4=>?_;have g5:=fD g4;refine aX cL g4<|fP<|br (λc2=>?_) λc2=>?_
 ·refine⟨y1,?_⟩;have:¬oR c:=λh=>by have:=h.2.1;omega
  simp only[this,eT]
 refine aE kJ<|aL dT (lJ C) xx λ_ gh=>wR bG aG gh oo oo λ_ _ gi=>aS aG gi xx λ_=>fP<|br (λc3=>?_) λc3=>?_
 ·refine⟨y1,?_⟩;rw[mP]at c3;have:¬oR c:=λh=>c3 h.2.2.1;simp only[this,eT]
 refine aE eW<|aL eJ (fV C) xx λ_ g9=>aX eQ g9<|bV (c.I.length) (λk us w'=>us=[iV (vK c k:Int),iV k]/\aB D w'/\(True)) (0) oo ⟨rfl,xx,trivial⟩ ?_;rintro k m5 _ gb _ ⟨hu,y2,g1⟩;obtain⟨gc,gd⟩:=dQ hu;clear hu;try rw[gc]
 try rw[gd]
 try clear gc gd
 have hel:=Rf c k;refine bM<|br (λc4=>?_) λc4=>?_
 ·refine bC eQ fE g9 oo λ_ _ gj=>?_;refine aL fE gj y2 λ_ gf=>?_;rw[oM]at gf;refine mB zL rfl fE rfl gf y2 λgl y3 gn _=>aE lV<|aS aG (lW gn) xx λ_=>bI<|br (λc5=>?_) λc5=>?_
  ·refine aU ?_;refine aU<|⟨m5-1,oo,k+1,oo,by rw[vK,aP c5],xx,?_⟩;trivial
  refine aU<|⟨m5-1,oo,k+1,oo,by rw[vK,aH c5];rfl,xx,?_⟩;trivial
 refine aE kJ<|aL dT (lJ C) y2 λ_ gp=>aX bG gp<|fP<|br (λc6=>?_) λc6=>?_
 ·refine⟨xx,?_⟩;have:¬oR c:=λh=>c6 (by rw[show k=c.I.length by omega,h.2.2.2.1]);simp only[this,eT]
 refine aE kJ<|aL dT (lJ C) y2 λ_ gq=>aX bG gq<|bV (c.E.length) (λq us w'=>us=[iV q]/\aB gb w'/\(∀i,i<q->en c i<iF c i/\iF c i<=c.I.length/\(bO c (iF c i-1).toNat).op=9)) (0) oo ⟨ss,xx,λi h=>oo⟩ ?_;rintro q gr _ g0 _ ⟨hu,y4,M⟩;try replace hu:=cJ hu
 try rw[hu]
 try clear hu
 refine bM<|br (λc7=>?_) λc7=>?_
 ·have y5:=cO g0;refine aE kJ<|aL dT (lJ C) xx λ_ gs=>bC bG aG gs oo λ_ _ gt=>aS aG gt xx λ_=>aE eW<|aL eJ (fV C) xx λ_ gx=>aX eQ gx<|dJ.mk (λus w'=>us=[iV (iF c q)]/\aB (World.drew1 g0) w'/\(True)) ?_ ?_
  ·refine aU ?_;refine aE kJ<|aL dT (lJ C) xx λ_ gy=>aX bG gy<|bM<|br (λc8=>?_) λc8=>?_
   ·refine aE kJ ?_;refine aL dT (lJ C) xx λ_ gz=>aU<|bC bG aG gz oo λ_ _ gA=>aS aG gA xx λ_=>⟨by unfold iF;rw[aP oo,mP],aC (World.drew1 g0),?_⟩;trivial
   refine⟨by unfold iF;rw[aH oo],aC (World.drew1 g0),?_⟩;trivial
  rintro _ _ ⟨hu,y6,g1⟩;try replace hu:=cJ hu
  try rw[hu]
  try clear hu
  refine tR<|br (λc9=>?_) λc9=>?_
  ·refine⟨xx,?_⟩;rw[mP]at c9;have:¬oR c:=λh=>by have:=(h.2.2.2.2 q oo).1;omega
   simp only[this,eT]
  refine aE eW<|aL eJ (fV C) xx λ_ gB=>aX eQ gB<|oN<|br (λgC=>?_) λgC=>?_
  ·refine⟨xx,?_⟩;have:¬oR c:=λh=>by have:=(h.2.2.2.2 q oo).2.1;omega
   simp only[this,eT]
  refine aE eW<|aL eJ (fV C) xx λ_ gD=>?_;rw[mP]at c3 c9;have hq0:=Lv (eK.1 c3) (q:=q) oo λi hi=>(M i hi).1;refine kQ io<|wR eQ fE gD oo oo λ_ _ gE=>aE lV<|aS aG (lW gE) xx λ_=>fP<|br (λO=>?_) λO=>?_
  ·refine⟨xx,?_⟩;rw[oM]at O;have:¬oR c:=λh=>O (h.2.2.2.2 q oo).2.2;simp only[this,eT]
  refine aU<|⟨gr-1,oo,q+1,oo,ss,xx,?_⟩;rw[oM]at O;exact VG M ⟨oo,oo,eK.1 O⟩
 refine⟨xx,?_⟩;rw[mP]at c3;have:oR c:=⟨oo,oo,eK.1 c3,by rw[show c.I.length=k by omega];omega,λi hi=>M i oo⟩;simp only[this,uN]
def zwl (h0:Is W0 v0 c)(e0:aB W0 w)  :
   aJ tp 187 [v0,iV op] w λr w'=>aB w w'/\(r=iV (tU c op)):=by
 refine co (g:=kf [] [] []) Tryz.func187 ?_;refine lA cP rfl h0 e0 λC y1 D _=>bI<|br (λc1=>?_) λc1=>?_
 ·refine aE vU ?_;refine aL dC (wF D) xx λ_ h9=>aX cL h9<|⟨y1,?_⟩;unfold tU;rw[aP c1]
 refine bI<|br (λc2=>?_) λc2=>?_
 ·refine aE lQ ?_;refine aL dC (nF D) xx λg2 g0=>aX cL g0<|⟨y1,?_⟩;unfold tU;rw[aH oo,aP oo]
 refine bI<|br (λc3=>?_) λc3=>?_
 ·refine aE lQ ?_;refine aL dC (nF D) xx λg2 g0=>aX cL g0<|⟨y1,?_⟩;unfold tU;rw[aH oo,aP oo]
 refine bI<|br (λc4=>?_) λc4=>?_
 ·refine aE uP ?_;refine aL dC (vX D) xx λg3 g1=>aX cL g1<|⟨y1,?_⟩;unfold tU;rw[aH oo,aH oo,aP oo]
 refine bI<|br (λc5=>?_) λc5=>?_
 ·refine aE uP ?_;refine aL dC (vX D) xx λg3 g1=>aX cL g1<|⟨y1,?_⟩;unfold tU;rw[aH oo,aH oo,aP oo]
 refine⟨y1,?_⟩;unfold tU;rw[aH oo,aH oo,aH oo]
def ff{a:bH}{b:Int}{e:Int} (h0:Is W0 v0 c)(e0:aB W0 w)(h1:Is W1 v1 a)(e1:aB W1 w)  :
   aJ tp 114 [v0,v1,iV b,iV e] w λr w'=>aB w w'/\(r=.bool (decide (oX c a b e))):=by
 refine co (g:=kf [(14,9223372028264842496,[])] [(7,575897802350003456,[49])] [(1,[0,1,2,3,4,5,6,7,8,9,10,11,12,13,14,15,16,17,18,19,20,21],524288)]) Tryz.func114 ?_;refine lA cP rfl h0 e0 λ_ y1 gi gn=>lA fE rfl h1 (e1.trans y1) λgp y2 C _=>?_;have y3:=cO gp;refine aE lV<|aS aG (lW C) y3 λ_=>bM<|br (λc1=>?_) λc1=>?_
 ·refine⟨xx,?_⟩;have:¬oX c a b e:=λh=>by have:=h.1;omega
  simp only[this,eT]
 refine aE lV<|aS aG (lW C) y3 λ_=>oN<|br (λc2=>?_) λc2=>?_
 ·refine⟨xx,?_⟩;have:¬oX c a b e:=λh=>by have:=h.1;omega
  simp only[this,eT]
 refine aE mE<|aS aG (mF C) y3 λ_=>bM<|br (λc3=>?_) λc3=>?_
 ·refine⟨xx,?_⟩;have:¬oX c a b e:=λh=>by have:=h.2.1;omega
  simp only[this,eT]
 refine aE mE<|aS aG (mF C) y3 λ_=>pX gn xx<|aE lV<|aS aG (lW C) y3 λ_=>(zwl h0 xx).mM λgq y4=>?_;refine⟨y4,?_⟩;refine pD<|br (λc4=>?_) λc4=>?_
 ·refine⟨xx,?_⟩;have:¬oX c a b e:=λh=>by have:=h.2.1;omega
  simp only[this,eT]
 refine dJ.mk (λus w'=>us=[]/\aB gq w'/\(if a.op=1\/a.op=2 then fK 6 a.term=true/\(∀s∈mN a.term,s∈c.B)else a.term=bA)) ?_ ?_
 ·refine aE lV ?_;refine aS aG (lW C) xx λ_=>bI<|br (λc5=>?_) λc5=>?_
  ·refine aE DA ?_;refine aL dK (DB C) xx λgr g4=>(TJ g4 xx).mM λ_ y6=>dG<|bW (λc6=>?_) λc6=>?_
   ·refine⟨xx,?_⟩;have:¬oX c a b e:=λh=>by have:=h.2.2.1;rw[aP (.inl c5)]at this;rw[this.1]at c6;cases c6
    simp only[this,eT]
   refine aE DA<|aL dK (DB C) xx λgs g5=>(Ht g5 xx).mono ?_;rintro gt gj ⟨y7,O⟩;have g0:=fD O;refine aX cL O<|bV ((mN a.term).length) (λk us w'=>us=[iV k]/\aB gj w'/\(∀s∈(mN a.term).take k,s∈c.B)) (0) oo ⟨ss,xx,ss⟩ ?_;rintro k m7 gx _ gy ⟨hu,y8,D⟩;try replace hu:=cJ hu
   try rw[hu]
   try clear hu
   refine bM<|br (λc7=>?_) λc7=>?_
   ·refine bC cL cG O oo λgz gA g9=>?_;refine eV cG g9 y8 λgb=>aE vU<|aL dC (wF gi) xx λgB gc=>(LY gc xx).mM λ_ y9=>mL<|br (λc8=>?_) λc8=>?_
    ·refine⟨xx,?_⟩
     have:¬oX c a b e:=λh=>by
       have:=h.2.2.1;rw[aP (.inl c5)]at this;exact c8 (this.2 _ (cY (n:=k) oo))
     simp only[this,eT]
    refine aU<|⟨m7-1,oo,k+1,oo,ss,xx,?_⟩;intro s hs;rw[tk oo]at hs;rcases dF.1 hs with hs|hs
    ·exact D s hs
    simp only[bF,dL,dI]at hs;subst hs;exact eK.1 c8
   refine⟨ss,xx,?_⟩;rw[aP (.inl c5)];rw[iO oo]at D;exact⟨by simpa using c6,D⟩
  refine aE lV<|aS aG (lW C) xx λ_=>bI<|br (λc9=>?_) λc9=>?_
  ·refine aE DA ?_;refine aL dK (DB C) xx λgr g4=>(TJ g4 xx).mM λ_ V=>dG<|bW (λg2=>?_) λg2=>?_
   ·refine⟨xx,?_⟩;have:¬oX c a b e:=λh=>by have:=h.2.2.1;rw[aP (.inr c9)]at this;rw[this.1]at g2;cases g2
    simp only[this,eT]
   refine aE DA<|aL dK (DB C) xx λgs g5=>(Ht g5 xx).mono ?_;rintro gt g1 ⟨g3,O⟩;have g0:=fD O;refine aX cL O<|bV ((mN a.term).length) (λk us w'=>us=[iV k]/\aB g1 w'/\(∀s∈(mN a.term).take k,s∈c.B)) (0) oo ⟨ss,xx,ss⟩ ?_;rintro k m7 gx _ gy ⟨hu,Z,D⟩;try replace hu:=cJ hu
   try rw[hu]
   try clear hu
   refine bM<|br (λgC=>?_) λgC=>?_
   ·refine bC cL cG O oo λgz gA g9=>?_;refine eV cG g9 Z λgb=>aE vU<|aL dC (wF gi) xx λgB gc=>(LY gc xx).mM λ_ gl=>mL<|br (λgd=>?_) λgd=>?_
    ·refine⟨xx,?_⟩
     have:¬oX c a b e:=λh=>by
       have:=h.2.2.1;rw[aP (.inr c9)]at this;exact gd (this.2 _ (cY (n:=k) oo))
     simp only[this,eT]
    refine aU<|⟨m7-1,oo,k+1,oo,ss,xx,?_⟩;intro s hs;rw[tk oo]at hs;rcases dF.1 hs with hs|hs
    ·exact D s hs
    simp only[bF,dL,dI]at hs;subst hs;exact eK.1 gd
   refine⟨ss,xx,?_⟩;rw[aP (.inr c9)];rw[iO oo]at D;exact⟨by simpa using g2,D⟩
  refine aE DA<|aL dK (DB C) xx λ_ gD=>(PW gD xx).mM λ_ M=>mL<|br (λgf=>?_) λgf=>?_
  ·refine⟨xx,?_⟩;have:¬oX c a b e:=λh=>by have:=h.2.2.1;rw[aH oo]at this;exact gf this
   simp only[this,eT]
  refine⟨ss,M,?_⟩;rw[aH oo];exact eK.1 gf
 rintro _ _ ⟨hu,M,hT⟩;try replace hu:=cJ hu
 clear hu;refine aE lV<|aS aG (lW C) xx λ_=>bI<|br (λgE=>?_) λgE=>?_
 ·refine aE yU ?_;refine aS aG (CD C) xx λgg=>pD<|br (λgF=>?_) λgF=>?_
  ·refine aE yU ?_;refine aS aG (CD C) xx λgh=>bM<|⟨xx,?_⟩
   first
     | (have no:¬oX c a b e:=λh=>by
         have h4:=h.2.2.2;rw[aP oo]at h4;omega
        simp only[no,eT]
        done)
     | (congr 1
        rw[decide_eq_decide];constructor
        ·exactλh=>⟨oo,oo,hT,by first|(rw[aP oo];omega)|(rw[aH oo];omega)⟩
        intro h;have h4:=h.2.2.2
        first|(rw[aP oo]at h4;omega)|(rw[aH oo]at h4;omega))
  refine⟨xx,?_⟩
  first
    | (have no:¬oX c a b e:=λh=>by
        have h4:=h.2.2.2;rw[aP oo]at h4;omega
       simp only[no,eT]
       done)
    | (congr 1
       rw[decide_eq_decide];constructor
       ·exactλh=>⟨oo,oo,hT,by first|(rw[aP oo];omega)|(rw[aH oo];omega)⟩
       intro h;have h4:=h.2.2.2
       first|(rw[aP oo]at h4;omega)|(rw[aH oo]at h4;omega))
 refine aE lV<|aS aG (lW C) xx λ_=>bI<|br (λgG=>?_) λgG=>?_
 ·refine aE yU ?_;refine aS aG (CD C) xx λgg=>pD<|br (λgH=>?_) λgH=>?_
  ·refine aE yU ?_;refine aS aG (CD C) xx λgh=>bM<|⟨xx,?_⟩
   first
     | (have no:¬oX c a b e:=λh=>by
         have h4:=h.2.2.2;rw[aP oo]at h4;omega
        simp only[no,eT]
        done)
     | (congr 1
        rw[decide_eq_decide];constructor
        ·exactλh=>⟨oo,oo,hT,by first|(rw[aP oo];omega)|(rw[aH oo];omega)⟩
        intro h;have h4:=h.2.2.2
        first|(rw[aP oo]at h4;omega)|(rw[aH oo]at h4;omega))
  refine⟨xx,?_⟩
  first
    | (have no:¬oX c a b e:=λh=>by
        have h4:=h.2.2.2;rw[aP oo]at h4;omega
       simp only[no,eT]
       done)
    | (congr 1
       rw[decide_eq_decide];constructor
       ·exactλh=>⟨oo,oo,hT,by first|(rw[aP oo];omega)|(rw[aH oo];omega)⟩
       intro h;have h4:=h.2.2.2
       first|(rw[aP oo]at h4;omega)|(rw[aH oo]at h4;omega))
 refine aE yU<|aS aG (CD C) xx λ_=>bI<|⟨xx,?_⟩
 first
   | (have no:¬oX c a b e:=λh=>by
       have h4:=h.2.2.2;rw[aP oo]at h4;omega
      simp only[no,eT]
      done)
   | (congr 1
      rw[decide_eq_decide];constructor
      ·exactλh=>⟨oo,oo,hT,by first|(rw[aP oo];omega)|(rw[aH oo];omega)⟩
      intro h;have h4:=h.2.2.2
      first|(rw[aP oo]at h4;omega)|(rw[aH oo]at h4;omega))
def PX (h0:Is W0 v0 c)(e0:aB W0 w)(hi:i<1000000000000) :
   aJ tp 113 [v0,iV i] w λr w'=>aB w w'/\(r=iV (iF c i)):=by
 refine co (g:=kf [] [] []) Tryz.func113 ?_;refine lA cP rfl h0 e0 λg0 y1 g1 _=>aU<|aE kJ<|aL dT (lJ g1) xx λ_ h8=>aX bG h8<|bM<|br (λc1=>?_) λc1=>?_
 ·refine aE kJ ?_;refine aL dT (lJ g1) xx λ_ g2=>aU<|bC bG aG g2 oo λ_ _ g3=>aS aG g3 xx λ_=>⟨y1,?_⟩;unfold iF;rw[aP oo,mP]
 refine aE eW<|aL eJ (fV g1) xx λ_ g4=>aX eQ g4<|⟨y1,?_⟩;unfold iF;rw[aH oo]
structure lK(c:aF):Prop where
 len:c.E.length=c.P.length
 I:c.I.length<=1500
 zero:en c 0=0
 lt:∀i,i<c.E.length->en c i<iF c i/\iF c i<=c.I.length
def lK.nonneg(h:lK c){i:Nat}(hi:i<c.E.length):0<=en c i:=Lv h.zero hi λj hj=>(h.lt j oo).1
def lK.step(h:lK c){i:Nat}(hi:i+1<c.E.length):iF c i=en c (i+1):=by unfold iF;rw[aP hi]
def lK.last(h:lK c){i:Nat}(hi:i+1=c.E.length):iF c i=c.I.length:=by unfold iF;rw[aH oo]
theorem lK.mono(h:lK c):∀{i j:Nat},i<j->j<c.E.length->iF c i<=en c j
 | i,j+1,hij,hj=>by
   by_cases e:i=j
   ·subst e;rw[h.step hj];exact Fv _
   have h1:=h.mono (i:=i) (j:=j) oo oo;have h2:=(h.lt j oo).1;rw[h.step hj]at h2;omega
def lK.proc(h:lK c){i:Nat}{a:Int}(hi:i<c.E.length)(h1:en c i<=a)(h2:a<iF c i):eC c a=i:=by
 unfold eC;rw[Bd (m:=i+1) oo λj _ g0=>by have:=h.mono (i:=i) (j:=j) oo g0;omega];rw[prc,aP h1]
def lK.find(h:lK c)(hp:0<c.P.length){a:Int}(h0:0<=a)(h1:a<c.I.length):∃i,i<c.E.length/\en c i<=a/\a<iF c i/\eC c a=i:=by
 have:=h.len
 have g1:∀n,n<=c.E.length->(∀j,n<=j->j<c.E.length->a<en c j)->0<n->∃i,i<n/\en c i<=a/\a<iF c i:=by
   intro n
   induction n with
   |zero=>intro _ _ h;omega
   | succ n ih=>
     intro _ hj _;by_cases hle:en c n<=a
     ·refine⟨n,oo,hle,?_⟩;by_cases hl:n+1<c.E.length
      ·rw[h.step hl];exact hj (n+1) oo hl
      rw[h.last oo];exact h1
     by_cases h0n:n=0
     ·subst h0n;rw[h.zero]at hle;omega
     obtain⟨i,hi,hx⟩:=ih oo (λj g2 g0=>by
       by_cases e:j=n
       ·subst e;omega
       exact hj j oo g0) oo
     exact⟨i,oo,hx⟩
 obtain⟨i,hi,hx,hy⟩:=g1 c.E.length (lr _) (λj g2 g0=>oo) oo;exact⟨i,hi,hx,hy,h.proc hi hx hy⟩
def iQ.f(h:iQ c)(hp:0<c.P.length):lK c:=by
 obtain⟨h1,h2,h3,_⟩:=h;refine⟨h1,h2,(h3 0 oo).1 rfl,λi hi=>?_⟩;unfold iF;split
 ·rename_i hl;have:=h3 (i+1) hl;have h5:=this.2.1 oo;simp only[ND]at h5;exact⟨h5,oo⟩
 exact⟨(h3 i hi).2.2,Fv _⟩
def oR.f(h:oR c):lK c:=⟨h.2.1,h.1,h.2.2.1,λi hi=>⟨(h.2.2.2.2 i hi).1,(h.2.2.2.2 i hi).2.1⟩⟩
theorem Wy(c:aF)(a:Nat):∀(d:Nat),vK c a<=vK c (a+d)/\(vK c (a+d)=vK c a↔∀j,a<=j->j<a+d->¬(bO c j).op=9)
 |0=>⟨iD _,⟨λ_ j h1 h2=>oo,λ_=>rfl⟩⟩
 | d+1=>by
   obtain⟨h1,h2⟩:=Wy c a d;rw[<-DU,vK];refine⟨oo,?_⟩;split
   ·rename_i h9;exact⟨λh=>oo,λh=>absurd h9 (h (a+d) oo oo)⟩
   rename_i h9;rw[JY,h2];constructor
   ·intro h j hj1 hj2;by_cases e:j=a+d
    ·subst e;exact h9
    exact h j hj1 oo
   exactλh j hj1 hj2=>h j hj1 oo
def eb(c:aF)(n:Nat):Nat:=if n=0 then 0 else(iF c (n-1)).toNat
def lK.eb_en(h:lK c){n:Nat}(hn:n<c.E.length):(eb c n:Int)=en c n:=by
 unfold eb;split
 ·rename_i h0;subst h0;rw[h.zero];rfl
 have h1:=h.nonneg hn
 have h2:iF c (n-1)=en c n:=by
   have:=h.step (i:=n-1) oo;rwa[show n-1+1=n by omega]at this
 rw[h2];omega
def lK.eb_succ(h:lK c){n:Nat}(hn:n<c.E.length):(eb c (n+1):Int)=iF c n:=by
 unfold eb;rw[aH oo,ND];have:=(h.lt n hn).1;have:=h.nonneg hn;omega
theorem Ng{c:aF}(h:lK c)(he:∀ i,i<c.E.length->(bO c (iF c i-1).toNat).op=9):∀n,n<=c.E.length ->
   n<=vK c (eb c n)/\(vK c (eb c n)=n↔∀j:Nat,j<eb c n->(bO c j).op=9->∃i,i<n/\iF c i=j+1)
 |0,_=>⟨vS _,⟨λ_ j hj=>by simp[eb]at hj,λ_=>rfl⟩⟩
 | n+1,hn=>by
   obtain⟨_,h2⟩:=Ng h he n oo;have:=h.eb_en (n:=n) oo;have:=h.eb_succ (n:=n) oo;have:=(h.lt n oo).1;have h9:=he n oo;have e9:(iF c n-1).toNat=eb c (n+1)-1:=oo;rw[e9]at h9;obtain⟨d,hd⟩:∃d,eb c (n+1)=eb c n+d+1:=⟨eb c (n+1)-eb c n-1,oo⟩;have g1:eb c (n+1)-1=eb c n+d:=oo;rw[g1]at h9;obtain⟨_,h4⟩:=Wy c (eb c n) d;rw[hd,vK,aP h9];refine⟨oo,?_⟩;have g0:vK c (eb c n+d)+1=n+1↔(vK c (eb c n)=n/\vK c (eb c n+d)=vK c (eb c n)):=oo;rw[g0,h2,h4];constructor
   ·rintro⟨p1,p2⟩ j hj C;by_cases hja:j<eb c n
    ·obtain⟨i,hi,hx⟩:=p1 j hja C;exact⟨i,oo,hx⟩
    by_cases hje:j=eb c n+d
    ·exact⟨n,oo,oo⟩
    exact absurd C (p2 j oo oo)
   intro p;constructor
   ·intro j hj C;obtain⟨i,hi,hx⟩:=p j oo C;by_cases hin:i=n
    ·subst hin;omega
    exact⟨i,oo,hx⟩
   intro j _ _ C;obtain⟨i,hi,hx⟩:=p j oo C;by_cases hin:i=n
   ·subst hin;omega
   have:=h.mono (i:=i) (j:=n) oo oo;omega
def Uy(hp:0<c.P.length):oR c↔iQ c:=by
 constructor
 ·intro h;have hf:=h.f;obtain⟨_,_,_,hc,g0⟩:=h;have g1:=hf.len;have he:∀i,i<c.E.length->(bO c (iF c i-1).toNat).op=9:=λi hi=>(g0 i hi).2.2;obtain⟨_,h2⟩:=Ng hf he c.E.length (lr _)
  have hb:eb c c.E.length=c.I.length:=by
    have:=hf.eb_succ (n:=c.E.length-1) oo;rw[hf.last oo,show c.E.length-1+1=c.E.length by omega]at this;omega
  rw[hb]at h2;have h3:=h2.1 hc;refine⟨hf.len,hf.I,λi hi=>⟨λ_=>hf.zero,λh0=>?_,?_⟩,λj hj=>?_⟩
  ·have h4:=(hf.lt (i-1) oo).1;have h5:=hf.step (i:=i-1) oo;rw[show i-1+1=i by omega]at h5;omega
  ·have:=hf.lt i hi;omega
  obtain⟨i,hi,hx,hy,g2⟩:=hf.find hp (a:=j) oo oo;rw[g2,JF];constructor
  ·intro h9;obtain⟨i',g3,_⟩:=h3 j hj h9;have:=hf.lt i' g3;have g4:=hf.proc (a:=j) g3 oo oo;have:i'=i:=oo;subst this;omega
  intro h9;have:=he i hi;rwa[show(iF c i-1).toNat=j by omega]at this
 intro h;have hf:=h.f hp;have g1:=hf.len;have h4:=h.2.2.2
 have he:∀i,i<c.E.length->(bO c (iF c i-1).toNat).op=9:=λi hi=>by
   have h1:=hf.lt i hi;have h0:=hf.nonneg hi;have:=(h4 (iF c i-1).toNat oo).2;refine this ?_;rw[hf.proc (i:=i) hi oo oo,JF];omega
 obtain⟨_,h2⟩:=Ng hf he c.E.length (lr _)
 have hb:eb c c.E.length=c.I.length:=by
   have:=hf.eb_succ (n:=c.E.length-1) oo;rw[hf.last oo,show c.E.length-1+1=c.E.length by omega]at this;omega
 rw[hb]at h2;refine⟨hf.I,hf.len,hf.zero,h2.2 λj hj h9=>?_,λi hi=>⟨(hf.lt i hi).1,(hf.lt i hi).2,he i hi⟩⟩;obtain⟨i,hi,hx,hy,g2⟩:=hf.find hp (a:=j) oo oo;have:=(h4 j hj).1 h9;rw[g2,JF]at this;exact⟨i,hi,oo⟩
def bg(hn:cF c)(he:oR c):aM c↔∀i,i<c.E.length->∀j:Nat,en c i<=j->(j:Int)<iF c i->oX c (bO c j) (en c i) (iF c i):=by
 have hf:=he.f;have hp:=hn.p8.2;constructor
 ·intro h i hi j h1 h2;have h3:=hf.lt i hi;have:=h.2.2 j oo;rw[hf.proc hi h1 h2,JF,qM]at this;rwa[Int.sub_add_cancel]at this
 intro h;refine⟨hn,(Uy hp).1 he,λj _=>?_⟩;obtain⟨i,hi,hx,hy,g0⟩:=hf.find hp (a:=j) oo oo;rw[g0,JF,qM,Int.sub_add_cancel];exact h i hi j hx hy
def Ij (h0:Is W0 v0 c)(e0:aB W0 w)  :
   aJ tp 44 [v0] w λr w'=>aB w w'/\(r=.bool (decide (aM c))):=by
 refine co (g:=kf [] [(4,35184371564732,[19]),(8,17583596109956,[33])] []) Tryz.func44 ?_;refine lA cP rfl h0 e0 λgg y1 g9 g2=>pX g2 xx<|(zpT h0 xx).mM λ_ y2=>mL<|br (λc1=>?_) λc1=>?_
 ·refine⟨xx,?_⟩;have:¬aM c:=λh=>c1 h.1;simp only[this,eT]
 refine pX g2 y2<|(zmJ h0 xx (eK.1 c1).p8.2).mM λgb y3=>mL<|br (λc2=>?_) λc2=>?_
 ·refine⟨xx,?_⟩;have:¬aM c:=λh=>c2 ((Uy h.1.p8.2).2 h.2.1);simp only[this,eT]
 refine aE kJ<|aL dT (lJ g9) xx λ_ g3=>?_;have gc:=fD g3;refine aX bG g3<|bV (c.E.length) (λq us w'=>us=[iV q]/\aB gb w'/\(∀i,i<q->∀j:Nat,en c i<=j->(j:Int)<iF c i->oX c (bO c j) (en c i) (iF c i))) (0) oo ⟨ss,xx,λi h=>oo⟩ ?_;rintro q m4 _ _ _ ⟨hu,y4,g0⟩;try replace hu:=cJ hu
 try rw[hu]
 try clear hu
 replace c1:=eK.1 c1;replace c2:=eK.1 c2;have gh:=fD g3;refine bM<|br (λc3=>?_) λc3=>?_
 ·refine bC bG aG g3 oo λ_ _ gi=>?_;refine aS aG gi xx λ_=>?_;rw[mP];have h8:=c1.p8;have hlq:=c2.f.lt q oo;have hnq:=c2.f.nonneg (i:=q) oo;have gj:=c2.f.len;refine pX g2 xx<|(PX h0 xx oo).mM λgd y5=>aE eW<|aL eJ (fV g9) xx λ_ gl=>zpz eQ fE gl oo oo oo λ_ g4=>?_;have gf:=fD g4;refine aX eQ g4<|bV ((iF c q).toNat-(en c q).toNat) (λk us w'=>us=[iV k]/\aB gd w'/\(∀j:Nat,en c q<=j->(j:Int)<en c q+k->oX c (bO c j) (en c q) (iF c q))) (0) oo ⟨ss,xx,λj h1 h2=>oo⟩ ?_;rintro k m8 _ _ _ ⟨hu,y6,g1⟩;try replace hu:=cJ hu
  try rw[hu]
  try clear hu
  have gn:((c.I.take (iF c q).toNat).drop (en c q).toNat).length=(iF c q).toNat-(en c q).toNat:=by rw[wL,fY];omega
  refine bM<|br (λc4=>?_) λc4=>?_
  ·refine bC eQ fE g4 oo λ_ _ gp=>?_;refine aL fE gp xx λ_ g5=>?_;rw[List.getElem_drop,List.getElem_take,oM]at g5;refine mB zL rfl fE rfl g5 xx λgq y7 _ gr=>pX g2 xx<|pX gr xx<|(ff h0 xx g5 xx).mM λ_ y8=>mL<|br (λc5=>?_) λc5=>?_
   ·refine⟨xx,?_⟩;have:¬aM c:=λh=>c5 ((bg c1 c2).1 h q oo _ oo oo);simp only[this,eT]
   refine aU<|⟨m8-1,oo,k+1,oo,ss,xx,?_⟩;intro j h1 h2;by_cases hj:j=(en c q).toNat+k
   ·subst hj;exact eK.1 c5
   exact g1 j h1 oo
  refine aU<|⟨m4-1,oo,q+1,oo,ss,xx,?_⟩;intro i hi j h1 h2;by_cases hiq:i=q
  ·subst hiq;exact g1 j h1 oo
  exact g0 i oo j h1 h2
 refine⟨xx,?_⟩;have:aM c:=(bg c1 c2).2 λi hi=>g0 i oo;simp only[this,uN]
structure cR where
 i:Nat
 h:Int
def QP(h:Int):Int:=xQ (xQ (h*6364136223846793005)+1442695040888963407)
def YW(h:Int):Int:=CE (Oi (YB h 33) (YB h 45)) 255
def BE(bs:List UInt8)(s:cR):Int:=match bs[s.i]? with
 |some b=>CE (YW (QP s.h)+(b.toNat:Int)) 255
 |none=>YW (QP s.h)
def pS(bs:List UInt8)(s:cR):cR:=⟨if s.i<bs.length then s.i+1 else s.i,QP s.h⟩
def LQ(bs:List UInt8)(s:cR):0<=BE bs s/\BE bs s<=255:=by
 unfold BE YW;split
 ·exact Cq _ (n:=255) oo
 exact Cq _ (n:=255) oo
def R9(a b c d:Int):Int:=a*16777216+b*65536+c*256+d
def mW(bs:List UInt8)(n:Int)(s:cR):Int:=
 if n<=0 then 0 else if n<=256 then(BE bs s).tmod n
 else(R9 (BE bs s) (BE bs (pS bs s)) (BE bs (pS bs (pS bs s))) (BE bs (pS bs (pS bs (pS bs s))))).tmod n
def cU(bs:List UInt8)(n:Int)(s:cR):cR:=
 if n<=0 then s else if n<=256 then pS bs s else pS bs (pS bs (pS bs (pS bs s)))
def EU(bs:List UInt8){n:Int}(hn:0<n)(s:cR):0<=mW bs n s/\mW bs n s<n:=by
 have h1:=LQ bs s;have:=LQ bs (pS bs s);have:=LQ bs (pS bs (pS bs s));have:=LQ bs (pS bs (pS bs (pS bs s)));unfold mW;rw[aH oo];split
 ·exact Y8 h1.1 hn
 exact Y8 (by unfold R9;omega) hn
def Su(bs:List UInt8){n:Nat}(hn:0<n)(s:cR):(mW bs (n:Int) s).toNat<n:=by
 have:=EU bs (n:=(n:Int)) oo s;omega
def nT(bs:List UInt8)(l:List ByteArray)(s:cR):ByteArray:=l.getD (mW bs (l.length:Int) s).toNat (ByteArray.mk #[])
def BT(bs:List UInt8)(l:List Int)(s:cR):Int:=l.getD (mW bs (l.length:Int) s).toNat 0
def On{α:Type}{l:List α}{d:α}(h:i<l.length):l.getD i d∈l:=by
 rw[List.getD_eq_getElem?_getD,List.getElem?_eq_getElem h];exact cY h
def LO(bs:List UInt8){l:List ByteArray}(h:0<l.length)(s:cR):nT bs l s∈l:=On (Su bs h s)
def Iz(bs:List UInt8){l:List Int}(h:0<l.length)(s:cR):BT bs l s∈l:=On (Su bs h s)
def nX:ByteArray:=ByteArray.mk #[120]
def nY:ByteArray:=ByteArray.mk #[121]
def nZ:ByteArray:=ByteArray.mk #[122]
def nU:ByteArray:=ByteArray.mk #[117]
def nA:ByteArray:=ByteArray.mk #[97]
def nB:ByteArray:=ByteArray.mk #[98]
def nM:ByteArray:=ByteArray.mk #[109]
def nP:ByteArray:=ByteArray.mk #[112]
def nQ:ByteArray:=ByteArray.mk #[113]
def nR:ByteArray:=ByteArray.mk #[114]
def nO:ByteArray:=ByteArray.mk #[]
def MP:List Int:=[0,1,2,3,7,999,1000,1000000000]
def DD:List ByteArray:=[nX,nY,nZ,nX,nU]
def LH:List Int:=[3,4,5,6,7,9]
def glb:List ByteArray:=[nX,nY,nZ,nU]
def lks:List ByteArray:=[nA,nB,nM]
def WT:List ByteArray:=[nX,nY,nZ]
def wP:List ByteArray:=[nP,nQ,nR]
def nE:List ByteArray:=[uR,nP,nQ,nR]
def sO(bs:List UInt8)(d:Nat)(s:cR):Int:=if d=0/\6<=mW bs 12 s then mW bs 12 s-6 else mW bs 12 s
def iJ(bs:List UInt8):Nat->cR->aD×cR
 | 0,s=>
   if sO bs 0 s<3 then(.mk 1 (BT bs MP (cU bs 12 s)) nO [],cU bs 8 (cU bs 12 s))
   else(.mk 2 0 (nT bs DD (cU bs 12 s)) [],cU bs 5 (cU bs 12 s))
 | d+1,s=>
   if sO bs (d+1) s<3 then(.mk 1 (BT bs MP (cU bs 12 s)) nO [],cU bs 8 (cU bs 12 s))
   else if sO bs (d+1) s<6 then(.mk 2 0 (nT bs DD (cU bs 12 s)) [],cU bs 5 (cU bs 12 s))
   else if sO bs (d+1) s=6 then(.mk 8 0 nO [(iJ bs d (cU bs 12 s)).1],(iJ bs d (cU bs 12 s)).2)
   else(.mk (BT bs LH (cU bs 12 s)) 0 nO [(iJ bs d (cU bs 6 (cU bs 12 s))).1,(iJ bs d (iJ bs d (cU bs 6 (cU bs 12 s))).2).1],
     (iJ bs d (iJ bs d (cU bs 6 (cU bs 12 s))).2).2)
def zFn(bs:List UInt8)(s:cR):0<=sO bs 0 s/\sO bs 0 s<6:=by
 have:=EU bs (n:=12) oo s;unfold sO;split<;>omega
def Zi{x:ByteArray}(h:x∈DD):x∈glb:=by
 simp only[DD,bF,dL,dI]at h;rcases h with rfl|rfl|rfl|rfl|rfl<;>decide
def im{x:ByteArray}(h:x∈glb):cK x=true:=by
 simp only[glb,bF,dL,dI]at h;rcases h with rfl|rfl|rfl|rfl<;>decide
def zFo{n:Int}(h:n∈MP):0<=n/\n<=1000000000:=by
 simp only[MP,bF,dL,dI]at h;omega
def Wu{n:Int}(h:n∈LH):3<=n/\n<=9/\n≠8:=by
 simp only[LH,bF,dL,dI]at h;omega
def Pk(bs:List UInt8)(n:Nat)(s:cR):fK n (.mk 1 (BT bs MP s) nO [])=true:=by
 rw[CV rfl];have:=zFo (Iz bs (l:=MP) dD s);simp[aD.num,aD.name,aD.kids,this,nO]
def Sa(bs:List UInt8)(n:Nat)(s:cR):fK n (.mk 2 0 (nT bs DD s) [])=true:=by
 rw[HS rfl];have:=im (Zi (LO bs (l:=DD) dD s));simp[aD.num,aD.name,aD.kids,this]
theorem Lm(bs:List UInt8):∀(d n:Nat)(s:cR),d<=n->fK n (iJ bs d s).1=true
 | 0,n,s,_=>by
   rw[iJ];split
   ·exact Pk bs n _
   exact Sa bs n _
 |d+1,0,s,h=>absurd h oo
 | d+1,n+1,s,h=>by
   rw[iJ];split
   ·exact Pk bs _ _
   split
   ·exact Sa bs _ _
   split
   ·rw[qH (by show ¬(8:Int)=1;omega) (by show ¬(8:Int)=2;omega)];simp[aD.kind,aD.num,aD.name,aD.kids,nO,Lm bs d n _ oo]
   have:=Wu (Iz bs (l:=LH) dD (cU bs 12 s));generalize BT bs LH (cU bs 12 s)=k at *;rw[qH (by simp only[aD.kind];omega) (by simp only[aD.kind];omega)];simp[aD.kind,aD.num,aD.name,aD.kids,nO,Lm bs d n _ (by omega:d<=n),this.1,this.2.1,this.2.2]
def kh{l:List ByteArray}{s x:ByteArray}(h:x∈yX l s):x∈l\/x=s:=by
 unfold yX at h;split at h
 ·exact .inl h
 simpa using h
theorem zn8(bs:List UInt8):∀(d n:Nat)(s:cR)(l:List ByteArray)(x:ByteArray),d<=n->x∈dR n (iJ bs d s).1 l->x∈l\/x∈glb:=by
 have h1:∀n k l x,x∈dR n (.mk 1 k nO []) l->x∈l:=by
   intro n k l x h;rw[OM,aH (by show ¬(1:Int)=2;omega)]at h;cases n with
   |zero=>exact h
   |succ n=>exact h
 have h2:∀n s l x,x∈dR n (.mk 2 0 (nT bs DD s) []) l->x∈l\/x∈glb:=by
   intro n s l x h;rw[Cv rfl]at h;rcases kh h with h|rfl
   ·exact .inl h
   exact .inr (Zi (LO bs dD s))
 intro d
 induction d with
 | zero=>
   intro n s l x _ h;rw[iJ]at h;split at h
   ·exact .inl (h1 _ _ _ _ h)
   exact h2 _ _ _ _ h
 | succ d ih=>
   intro n s l x _ h;obtain⟨n,rfl⟩:∃m,n=m+1:=⟨n-1,oo⟩;rw[iJ]at h;split at h
   ·exact .inl (h1 _ _ _ _ h)
   split at h
   ·exact h2 _ _ _ _ h
   split at h
   ·rw[OM,aH (by show ¬(8:Int)=2;omega)]at h;simp only[aD.kids,HR,List.foldl_nil]at h;exact ih n _ _ _ oo h
   have:=Wu (Iz bs (l:=LH) dD (cU bs 12 s));generalize BT bs LH (cU bs 12 s)=k at *;rw[OM,aH (by show ¬k=2;omega)]at h;simp only[aD.kids,HR,List.foldl_nil]at h;rcases ih n _ _ _ oo h with h|h
   ·exact ih n _ _ _ oo h
   exact .inr h
def PC(k n:Int)(s:ByteArray)(l:List aD):wT (.mk k n s l)=s.size+(l.length+sm wT l):=by
 rw[VK,WY];rfl
theorem fj(bs:List UInt8):∀(d:Nat)(s:cR),wT (iJ bs d s).1+2<=3*2^d:=by
 have h0:nO.size=0:=rfl
 have h2:∀s,(nT bs DD s).size<=1:=λs=>by
   have:=LO bs (l:=DD) dD s;generalize nT bs DD s=x at *;simp only[DD,bF,dL,dI]at this;rcases this with rfl|rfl|rfl|rfl|rfl<;>decide
 intro d
 induction d with
 | zero=>
   intro s;rw[iJ];split
   ·rw[PC];simp[h0,sm]
   rw[PC];have:=h2 (cU bs 12 s);simp[sm];omega
 | succ d ih=>
   intro s;have hp:1<=2^d:=YC;rw[iJ,QI];split
   ·rw[PC];simp[h0,sm];omega
   split
   ·rw[PC];have:=h2 (cU bs 12 s);simp[sm];omega
   split
   ·rw[PC];have:=ih (cU bs 12 s);simp[sm,h0];omega
   rw[PC];have:=ih (cU bs 6 (cU bs 12 s));have:=ih (iJ bs d (cU bs 6 (cU bs 12 s))).2;simp[sm,h0];omega
def BX(gl:List ByteArray)(t:aD):Prop:=fK 6 t=true/\(∀s∈mN t,s∈gl)/\wT t<=1000
def Fq(bs:List UInt8){d:Nat}(hd:d<=3)(s:cR):BX glb (iJ bs d s).1:=by
 have h:=Lm bs d 6 s oo;refine⟨h,λx hx=>?_,?_⟩
 ·unfold mN at hx;rw[aP h]at hx;rcases zn8 bs d 6 s [] x oo hx with h|h
  ·cases h
  exact h
 have:=fj bs d s;have:2^d<=2^3:=tX oo hd;omega
def uO(bs:List UInt8)(d:Nat)(s:cR):Int:=if d=0/\11<=mW bs 14 s then mW bs 14 s-6 else mW bs 14 s
def EC(bs:List UInt8)(k:Int)(s:cR):aA×cR:=
 if k<4 then(.mk 1 (nT bs WT s) (iJ bs 2 (cU bs 3 s)).1 [] [],(iJ bs 2 (cU bs 3 s)).2)
 else if k<6 then(.mk 6 (nT bs lks s) bA [] [],cU bs 3 s)
 else if k<8 then(.mk 7 (nT bs lks s) bA [] [],cU bs 3 s)
 else if k=8 then(.mk 4 (nT bs wP s) bA [] [],cU bs 3 s)
 else if k=9 then(.mk 5 (nT bs wP s) bA [] [],cU bs 3 s)
 else(.mk 8 nO bA [] [],s)
def qK(f:cR->aA×cR)(bs:List UInt8):Nat->Nat->cR->List aA×cR
 |0,_,s=>([],s)
 | n+1,i,s=>
   if (i:Int)<mW bs 4 s then((f (cU bs 4 s)).1 :: (qK f bs n (i+1) (f (cU bs 4 s)).2).1,(qK f bs n (i+1) (f (cU bs 4 s)).2).2)
   else([],cU bs 4 s)
def RF(bs:List UInt8)(f:cR->aA×cR)(k:Int)(s:cR):aA×cR:=
 if k=11 then(.mk 3 nO (iJ bs 1 s).1 (qK f bs 4 0 (iJ bs 1 s).2).1 [],(qK f bs 4 0 (iJ bs 1 s).2).2)
 else if mW bs 2 (qK f bs 4 0 (iJ bs 1 s).2).2=0 then
   (.mk 2 nO (iJ bs 1 s).1 (qK f bs 4 0 (iJ bs 1 s).2).1 (qK f bs 4 0 (cU bs 2 (qK f bs 4 0 (iJ bs 1 s).2).2)).1,
     (qK f bs 4 0 (cU bs 2 (qK f bs 4 0 (iJ bs 1 s).2).2)).2)
 else(.mk 2 nO (iJ bs 1 s).1 (qK f bs 4 0 (iJ bs 1 s).2).1 [],cU bs 2 (qK f bs 4 0 (iJ bs 1 s).2).2)
def uS(bs:List UInt8):Nat->cR->aA×cR
 |0,s=>EC bs (uO bs 0 s) (cU bs 14 s)
 |d+1,s=>if uO bs (d+1) s<11 then EC bs (uO bs (d+1) s) (cU bs 14 s)else RF bs (uS bs d) (uO bs (d+1) s) (cU bs 14 s)
def rF(bs:List UInt8)(d:Nat)(s:cR):List aA×cR:=qK (uS bs d) bs 4 0 s
def zFp(bs:List UInt8)(s:cR):0<=uO bs 0 s/\uO bs 0 s<11:=by
 have:=EU bs (n:=14) oo s;unfold uO;split<;>omega
structure qG where
 gl:List ByteArray
 lk:List ByteArray
 pr:List ByteArray
abbrev dS(pr:List ByteArray):qG:=⟨glb,lks,pr⟩
def uD(c:qG)(t:aA):Prop:=(t.kind=1/\t.name∈c.gl/\BX c.gl t.term/\t.body=[]/\t.els=[])\/((t.kind=4\/t.kind=5)/\t.name∈c.pr/\t.term=bA/\t.body=[]/\t.els=[]) \/
   ((t.kind=6\/t.kind=7)/\t.name∈c.lk/\t.term=bA/\t.body=[]/\t.els=[])\/(t.kind=8/\t.name=nO/\t.term=bA/\t.body=[]/\t.els=[])
def dH(c:qG):Nat->aA->Prop
 |0,t=>uD c t
 |n+1,t=>uD c t\/((t.kind=2\/t.kind=3/\t.els=[])/\t.name=nO/\BX c.gl t.term/\(∀x∈t.body,dH c n x)/\∀x∈t.els,dH c n x)
theorem dH.base{c:qG}:∀{n:Nat}{t:aA},uD c t->dH c n t
 |0,t,h=>by rw[dH];exact h
 |n+1,t,h=>by rw[dH];exact .inl h
def dH.more{c:qG}{t:aA}(h1:t.kind=2\/t.kind=3/\t.els=[])(h2:t.name=nO)(h3:BX c.gl t.term)(h4:∀ x∈t.body,dH c n x)(h5:∀ x∈t.els,dH c n x):dH c (n+1) t:=by
 rw[dH];exact .inr ⟨h1,h2,h3,h4,h5⟩
def dH.zero{c:qG}{t:aA}(h:dH c 0 t):uD c t:=by rw[dH]at h;exact h
def dH.succ{c:qG}{t:aA}(h:dH c (n+1) t):uD c t\/((t.kind=2\/t.kind=3/\t.els=[])/\t.name=nO/\BX c.gl t.term/\(∀x∈t.body,dH c n x)/\∀x∈t.els,dH c n x):=by
 rw[dH]at h;exact h
theorem dH.mono{c:qG}:∀{n m:Nat}{t:aA},n<=m->dH c n t->dH c m t
 |0,m,_,_,h=>dH.base h.zero
 |n+1,0,_,h,_=>absurd h oo
 | n+1,m+1,t,hn,h=>by
   rcases h.succ with h|⟨h1,h2,h3,h4,h5⟩
   ·exact dH.base h
   exact dH.more h1 h2 h3 (λx hx=>(h4 x hx).mono oo) λx hx=>(h5 x hx).mono oo
def N5(bs:List UInt8)(k:Int)(s:cR):uD (dS wP) (EC bs k s).1:=by
 unfold EC;have hs:=LO bs (l:=WT) dD s;have hl:=LO bs (l:=lks) dD s;have hp:=LO bs (l:=wP) dD s
 have hg:nT bs WT s∈glb:=by
   generalize nT bs WT s=x at *;simp only[WT,bF,dL,dI]at hs;rcases hs with rfl|rfl|rfl<;>decide
 split
 ·exact .inl ⟨rfl,hg,Fq bs oo _,rfl,rfl⟩
 split
 ·exact .inr (.inr (.inl ⟨.inl rfl,hl,rfl,rfl,rfl⟩))
 split
 ·exact .inr (.inr (.inl ⟨.inr rfl,hl,rfl,rfl,rfl⟩))
 split
 ·exact .inr (.inl ⟨.inl rfl,hp,rfl,rfl,rfl⟩)
 split
 ·exact .inr (.inl ⟨.inr rfl,hp,rfl,rfl,rfl⟩)
 exact .inr (.inr (.inr ⟨rfl,rfl,rfl,rfl,rfl⟩))
theorem QZ{f:cR->aA×cR}{bs:List UInt8}{p:aA->Prop}(hf:∀ s,p (f s).1):∀(n i:Nat)(s:cR),∀x∈(qK f bs n i s).1,p x
 |0,_,_,x,h=>by rw[qK]at h;cases h
 | n+1,i,s,x,h=>by
   rw[qK]at h;split at h
   ·rcases bF.1 h with rfl|h
    ·exact hf _
    exact QZ hf n _ _ x h
   cases h
theorem Na{f:cR->aA×cR}{bs:List UInt8}:∀(n i:Nat)(s:cR),(qK f bs n i s).1.length<=n
 |0,_,_=>by rw[qK];exact iD _
 | n+1,i,s=>by
   rw[qK];split
   ·have:=Na (f:=f) (bs:=bs) n (i+1) (f (cU bs 4 s)).2;simp only[dA];omega
   simp
theorem W8(bs:List UInt8):∀(d:Nat)(s:cR),dH (dS wP) d (uS bs d s).1
 |0,s=>by rw[uS];exact dH.base (N5 bs _ _)
 | d+1,s=>by
   rw[uS];split
   ·exact dH.base (N5 bs _ _)
   have ih:=W8 bs d;unfold RF;split
   ·exact dH.more (.inr ⟨rfl,rfl⟩) rfl (Fq bs oo _) (QZ ih _ _ _) λx hx=>by cases hx
   split
   ·exact dH.more (.inl rfl) rfl (Fq bs oo _) (QZ ih _ _ _) (QZ ih _ _ _)
   exact dH.more (.inl rfl) rfl (Fq bs oo _) (QZ ih _ _ _) λx hx=>by cases hx
def L5(bs:List UInt8)(d:Nat)(s:cR):∀x∈(rF bs d s).1,dH (dS wP) d x:=QZ (W8 bs d) _ _ _
mutual
def fU:aA->Nat
  |.mk _ _ _ b e=>1+cM b+cM e
def cM:List aA->Nat
  |[]=>0
  |x :: l=>fU x+cM l
end
mutual
def CK:aA->Int->Int
  |.mk _ _ _ b e,n=>rE e (rE b (n-1))
def rE:List aA->Int->Int
  |[],n=>n
  |x :: l,n=>if 0<=n then rE l (CK x n)else n
end
mutual
theorem X2:∀(x:aA)(n:Int),0<=n->((fU x:Int)<=n->CK x n=n-fU x)/\(n<fU x->CK x n<0)
  | .mk k s t b e,n,hn=>by
    rw[fU,CK];have h1:=QF b (n-1);have h2:=QF e (rE b (n-1));refine⟨λh=>?_,λh=>?_⟩
    ·rw[h2.1 (by rw[h1.1 oo];omega),h1.1 oo];omega
    by_cases hb:(cM b:Int)<=n-1
    ·exact h2.2.1 (by rw[h1.1 hb];omega)
    have:=h1.2.1 oo;by_cases h0:rE b (n-1)<0
    ·exact h2.2.2 h0
    omega
theorem QF:∀(l:List aA)(n:Int),((cM l:Int)<=n->rE l n=n-cM l)/\(n<cM l->rE l n<0)/\(n<0->rE l n<0)
  | [],n=>by
    rw[cM,rE];exact⟨λ_=>oo,λh=>oo,λh=>h⟩
  | x :: l,n=>by
    rw[cM,rE];refine⟨λh=>?_,λh=>?_,λh=>?_⟩
    ·have h1:=X2 x n oo;have h2:=QF l (CK x n);rw[aP oo,h2.1 (by rw[h1.1 oo];omega),h1.1 oo];omega
    ·split
     ·rename_i h0;have h1:=X2 x n h0;have h2:=QF l (CK x n);by_cases hx:(fU x:Int)<=n
      ·exact h2.2.1 (by rw[h1.1 hx];omega)
      exact h2.2.2 (h1.2 oo)
     omega
    rw[aH oo];exact h
end
theorem Dh:∀(l m:List aA),cM (l++m)=cM l+cM m
 |[],m=>by simp[cM]
 |x :: l,m=>by rw[sZ,cM,cM,Dh l m];omega
theorem Dd:∀(l:List aA),l.length<=cM l
 |[]=>by simp
 |.mk k s t b e :: l=>by have:=Dd l;rw[cM,fU,dA];omega
mutual
def zK(bs:List UInt8)(pr:List ByteArray):aA->cR->aA×cR
  | .mk k n t b e,s=>
    if k=4\/k=5 then
      (.mk k (nT bs pr s) t (kA bs pr b (cU bs (pr.length:Int) s)).1 (kA bs pr e (kA bs pr b (cU bs (pr.length:Int) s)).2).1,(kA bs pr e (kA bs pr b (cU bs (pr.length:Int) s)).2).2)
    else(.mk k n t (kA bs pr b s).1 (kA bs pr e (kA bs pr b s).2).1,(kA bs pr e (kA bs pr b s).2).2)
def kA(bs:List UInt8)(pr:List ByteArray):List aA->cR->List aA×cR
  |[],s=>([],s)
  |x :: l,s=>((zK bs pr x s).1 :: (kA bs pr l (zK bs pr x s).2).1,(kA bs pr l (zK bs pr x s).2).2)
end
mutual
theorem zFq(bs:List UInt8)(pr:List ByteArray):∀(x:aA)(s:cR),fU (zK bs pr x s).1=fU x
  | .mk k n t b e,s=>by
    rw[zK];split
    ·rw[fU,fU,TI bs pr b,TI bs pr e]
    rw[fU,fU,TI bs pr b,TI bs pr e]
theorem TI(bs:List UInt8)(pr:List ByteArray):∀(l:List aA)(s:cR),cM (kA bs pr l s).1=cM l
  |[],s=>by rw[kA]
  |x :: l,s=>by rw[kA,cM,cM,zFq bs pr x,TI bs pr l]
end
def D5(bs:List UInt8)(pr:List ByteArray)(s:cR):kA bs pr [] s=([],s):=by rw[kA]
theorem tq{bs:List UInt8}{pr C:List ByteArray}(hp:0<pr.length):∀(n:Nat),(∀(t:aA)(s:cR),dH (dS C) n t->dH (dS pr) n (zK bs pr t s).1)/\∀(l:List aA)(s:cR),(∀x∈l,dH (dS C) n x)->∀x∈(kA bs pr l s).1,dH (dS pr) n x:=by
 have h0:∀(t:aA)(s:cR),uD (dS C) t->uD (dS pr) (zK bs pr t s).1:=by
   rintro⟨k,nm,t,b,e⟩ s h;have hb:b=[]:=by rcases h with h|h|h|h<;>exact h.2.2.2.1
   have he:e=[]:=by rcases h with h|h|h|h<;>exact h.2.2.2.2
   subst hb he;rw[zK];simp only[D5];rcases h with h|h|h|h
   ·have hk:k=1:=h.1;rw[aH oo];exact .inl h
   ·have hk:k=4\/k=5:=h.1;rw[aP hk];exact .inr (.inl ⟨hk,LO bs hp s,h.2.2.1,rfl,rfl⟩)
   ·have hk:k=6\/k=7:=h.1;rw[aH oo];exact .inr (.inr (.inl h))
   have hk:k=8:=h.1;rw[aH oo];exact .inr (.inr (.inr h))
 have hl:∀n,(∀(t:aA)(s:cR),dH (dS C) n t->dH (dS pr) n (zK bs pr t s).1)->∀(l:List aA)(s:cR),(∀x∈l,dH (dS C) n x)->∀x∈(kA bs pr l s).1,dH (dS pr) n x:=by
   intro n hs l
   induction l with
   |nil=>intro s _ x hx;rw[kA]at hx;cases hx
   | cons y l ih=>
     intro s h x hx;rw[kA]at hx;rcases bF.1 hx with rfl|hx
     ·exact hs y s (h y ss)
     exact ih _ (λz hz=>h z (by simp[hz])) x hx
 intro n
 induction n with
 | zero=>
   have g0:∀(t:aA)(s:cR),dH (dS C) 0 t->dH (dS pr) 0 (zK bs pr t s).1:=λt s h=>dH.base (h0 t s h.zero);exact⟨g0,hl 0 g0⟩
 | succ n ih=>
   have hs:∀(t:aA)(s:cR),dH (dS C) (n+1) t->dH (dS pr) (n+1) (zK bs pr t s).1:=by
     intro t s h;rcases h.succ with h|⟨h1,h2,h3,h4,h5⟩
     ·exact dH.base (h0 t s h)
     obtain⟨k,nm,t,b,e⟩:=t;have hk:k=2\/k=3/\e=[]:=h1;rw[zK,aH oo];refine dH.more ?_ h2 h3 (ih.2 b _ h4) (ih.2 e _ h5);rcases hk with hk|⟨hk,rfl⟩
     ·exact .inl hk
     exact .inr ⟨hk,by show(kA bs pr [] _).1=[];rw[kA]⟩
   exact⟨hs,hl (n+1) hs⟩
def Gd:aA:=.mk 8 nO bA [] []
def uM(n:ByteArray):aA:=.mk 6 n bA [] []
def BP(n:ByteArray):aA:=.mk 7 n bA [] []
def Pq(n:ByteArray):aA:=.mk 5 n bA [] []
def NK(bs:List UInt8)(body:List aA)(s:cR):List aA×cR:=
 if nT bs lks s=nT bs lks (cU bs 3 s)then(uM (nT bs lks s) :: (body++[BP (nT bs lks s)]),cU bs 3 (cU bs 3 s))
 else if mW bs 2 (cU bs 3 (cU bs 3 s))=0 then(uM (nT bs lks s) :: uM (nT bs lks (cU bs 3 s)) :: (body++[BP (nT bs lks s)]),cU bs 2 (cU bs 3 (cU bs 3 s)))
 else(uM (nT bs lks s) :: (body++[BP (nT bs lks s)]),cU bs 2 (cU bs 3 (cU bs 3 s)))
def xF(bs:List UInt8)(s:cR):List aA×cR:=
 (if rE ((rF bs 2 s).1++(rF bs 1 (rF bs 2 s).2).1) 50<0 then[Gd]else(rF bs 2 s).1++(rF bs 1 (rF bs 2 s).2).1,(rF bs 1 (rF bs 2 s).2).2)
def zH(bs:List UInt8)(r:List aA×cR):List aA×cR:=
 if mW bs 2 r.2=0 then NK bs r.1 (cU bs 2 r.2)else(r.1,cU bs 2 r.2)
def DX(bs:List UInt8)(i:Nat)(nm:ByteArray)(r:List aA×cR):List aA×cR:=
 if i=0 then(if mW bs 2 r.2=0 then(Pq nm :: r.1,cU bs 2 r.2)else(r.1,cU bs 2 r.2))else r
def GE(bs:List UInt8)(pr:List ByteArray)(i:Nat)(s:cR):List aA×cR:=
 kA bs pr (DX bs i (pr.getD 0 nO) (zH bs (xF bs s))).1 (DX bs i (pr.getD 0 nO) (zH bs (xF bs s))).2
def wB(bs:List UInt8)(pr:List ByteArray):List ByteArray->Nat->cR->List aQ×cR
 |[],_,s=>([],s)
 |n :: l,i,s=>(⟨n,(GE bs pr i s).1⟩ :: (wB bs pr l (i+1) (GE bs pr i s).2).1,(wB bs pr l (i+1) (GE bs pr i s).2).2)
def FB(bs:List UInt8)(s:cR):List ByteArray:=nE.take (2+(mW bs 3 s).toNat)
def HI(bs:List UInt8)(s:cR):aY×cR:=
 (⟨glb,lks,(wB bs ((FB bs s).drop 1) (FB bs s) 0 (cU bs 3 s)).1⟩,(wB bs ((FB bs s).drop 1) (FB bs s) 0 (cU bs 3 s)).2)
def Mg(bs:List UInt8):Int:=(bs.take 4000).foldl (λh b=>CE (h*131+(b.toNat:Int)+7) 1073741823) (94701+(bs.length:Int))
def MN(bs:List UInt8):cR:=⟨0,Mg bs⟩
def Cl(c:qG)(l:List aA):Prop:=(∀x∈l,dH c 2 x)/\cM l<=54
def iz(c:qG)(l:List aA):Prop:=(∀x∈l,dH c 6 x)/\cM l<=60
def zHj(pr:List ByteArray):dH (dS pr) 2 Gd:=dH.base (.inr (.inr (.inr ⟨rfl,rfl,rfl,rfl,rfl⟩)))
def Do(pr:List ByteArray){n:ByteArray}(h:n∈lks):dH (dS pr) 2 (uM n):=dH.base (.inr (.inr (.inl ⟨.inl rfl,h,rfl,rfl,rfl⟩)))
def yy(pr:List ByteArray){n:ByteArray}(h:n∈lks):dH (dS pr) 2 (BP n):=dH.base (.inr (.inr (.inl ⟨.inr rfl,h,rfl,rfl,rfl⟩)))
def Gc(bs:List UInt8)(s:cR):(∀x∈(xF bs s).1,dH (dS wP) 2 x)/\cM (xF bs s).1<=50:=by
 unfold xF;split
 ·exact⟨λx hx=>by simp only[bF,dL,dI]at hx;subst hx;exact zHj _,by simp[cM,fU,Gd]⟩
 rename_i h;refine⟨λx hx=>?_,?_⟩
 ·rcases dF.1 hx with hx|hx
  ·exact L5 bs 2 s x hx
  exact(L5 bs 1 _ x hx).mono oo
 have:=QF ((rF bs 2 s).1++(rF bs 1 (rF bs 2 s).2).1) 50;have:=this.2.1;show cM ((rF bs 2 s).1++(rF bs 1 (rF bs 2 s).2).1)<=50;omega
def P4(bs:List UInt8){r:List aA×cR}(h:(∀ x∈r.1,dH (dS wP) 2 x)/\cM r.1<=50):(∀x∈(zH bs r).1,dH (dS wP) 2 x)/\cM (zH bs r).1<=53:=by
 have hl:=λs=>LO bs (l:=lks) dD s
 have g0:∀(pre:List aA)(n:ByteArray),n∈lks->(∀x∈pre,dH (dS wP) 2 x)->cM pre<=2->(∀x∈pre++(r.1++[BP n]),dH (dS wP) 2 x)/\cM (pre++(r.1++[BP n]))<=53:=by
   intro pre n hn hp _;refine⟨λx hx=>?_,?_⟩
   ·rcases dF.1 hx with hx|hx
    ·exact hp x hx
    rcases dF.1 hx with hx|hx
    ·exact h.1 x hx
    simp only[bF,dL,dI]at hx;subst hx;exact yy _ hn
   rw[Dh,Dh];have:cM [BP n]=1:=by simp[cM,fU,BP]
   omega
 unfold zH;split
 ·unfold NK;split
  ·exact g0 [uM _] _ (hl _) (λx hx=>by simp only[bF,dL,dI]at hx;subst hx;exact Do _ (hl _)) (by simp[cM,fU,uM])
  split
  ·exact g0 [uM _,uM _] _ (hl _) (λx hx=>by
     simp only[bF,dL,dI]at hx;rcases hx with rfl|rfl
     ·exact Do _ (hl _)
     exact Do _ (hl _)) (by simp[cM,fU,uM])
  exact g0 [uM _] _ (hl _) (λx hx=>by simp only[bF,dL,dI]at hx;subst hx;exact Do _ (hl _)) (by simp[cM,fU,uM])
 exact⟨h.1,by have:=h.2;show cM r.1<=53;omega⟩
def zFs(bs:List UInt8)(i:Nat){nm:ByteArray}(hn:nm∈wP){r:List aA×cR}(h:(∀ x∈r.1,dH (dS wP) 2 x)/\cM r.1<=53):Cl (dS wP) (DX bs i nm r).1:=by
 unfold DX;split
 ·split
  ·refine⟨λx hx=>?_,?_⟩
   ·rcases bF.1 hx with rfl|hx
    ·exact dH.base (.inr (.inl ⟨.inr rfl,hn,rfl,rfl,rfl⟩))
    exact h.1 x hx
   have:=h.2;simp only[cM,fU,Pq];omega
  exact⟨h.1,by have:=h.2;show cM r.1<=54;omega⟩
 exact⟨h.1,by have:=h.2;omega⟩
def il(bs:List UInt8){pr:List ByteArray}(hp:0<pr.length)(h3:∀ x∈pr,x∈wP)(i:Nat)(s:cR):Cl (dS pr) (GE bs pr i s).1:=by
 have h:=zFs bs i (nm:=pr.getD 0 nO) (h3 _ (On hp)) (P4 bs (Gc bs s));unfold GE;exact⟨(tq hp 2).2 _ _ h.1,by rw[TI];exact h.2⟩
structure iT(p:aY):Prop where
 g:p.B.length<=6/\(∀x∈p.B,cK x=true)/\p.B.Nodup
 l:p.L.length<=6/\(∀x∈p.L,cK x=true)/\p.L.Nodup
 n:p.P.length<=8/\(∀x∈p.P.map aQ.name,cK x=true)/\(p.P.map aQ.name).Nodup/\uR∈p.P.map aQ.name
 b:∀x∈p.P,iz ⟨p.B,p.L,p.P.map aQ.name⟩ x.body
structure FY(p:aY):Prop where
 g:p.B=glb\/p.B=glb.take 1
 l:p.L=lks\/p.L=lks.take 1\/p.L=lks.take 2
 n:∃k,k<4/\p.P.map aQ.name=nE.take (1+k)
 b:∀x∈p.P,Cl ⟨p.B,p.L,(p.P.map aQ.name).drop 1⟩ x.body
def uD.sub{c d:qG}{t:aA}(hg:∀ x∈c.gl,x∈d.gl)(hl:∀ x∈c.lk,x∈d.lk)(hp:∀ x∈c.pr,x∈d.pr)(h:uD c t):uD d t:=by
 rcases h with⟨k1,k2,k3,k4⟩|⟨k1,k2,k3⟩|⟨k1,k2,k3⟩|h
 ·exact .inl ⟨k1,hg _ k2,⟨k3.1,λs hs=>hg _ (k3.2.1 s hs),k3.2.2⟩,k4⟩
 ·exact .inr (.inl ⟨k1,hp _ k2,k3⟩)
 ·exact .inr (.inr (.inl ⟨k1,hl _ k2,k3⟩))
 exact .inr (.inr (.inr h))
theorem dH.sub{c d:qG}(hg:∀ x∈c.gl,x∈d.gl)(hl:∀ x∈c.lk,x∈d.lk)(hp:∀ x∈c.pr,x∈d.pr):∀(n:Nat)(t:aA),dH c n t->dH d n t
 |0,t,h=>dH.base (h.zero.sub hg hl hp)
 | n+1,t,h=>by
   rcases h.succ with h|⟨h1,h2,h3,h4,h5⟩
   ·exact dH.base (h.sub hg hl hp)
   exact dH.more h1 h2 ⟨h3.1,λs hs=>hg _ (h3.2.1 s hs),h3.2.2⟩ (λx hx=>dH.sub hg hl hp n x (h4 x hx)) λx hx=>dH.sub hg hl hp n x (h5 x hx)
theorem Hy(bs:List UInt8)(pr:List ByteArray):∀(l:List ByteArray)(i:Nat)(s:cR),(wB bs pr l i s).1.map aQ.name=l
 |[],_,_=>by rw[wB];rfl
 |n :: l,i,s=>by rw[wB,FI,Hy bs pr l]
theorem Vi(bs:List UInt8){pr:List ByteArray}(hp:0<pr.length)(h3:∀ x∈pr,x∈wP):∀(l:List ByteArray)(i:Nat)(s:cR),∀x∈(wB bs pr l i s).1,Cl (dS pr) x.body
 |[],_,_,x,h=>by rw[wB]at h;cases h
 | n :: l,i,s,x,h=>by
   rw[wB]at h;rcases bF.1 h with rfl|h
   ·exact il bs hp h3 i s
   exact Vi bs hp h3 l _ _ x h
def Qh(bs:List UInt8)(s:cR):(mW bs 3 s).toNat<3:=by
 have:=EU bs (n:=3) oo s;omega
theorem mc:∀k,k<3->0<((nE.take (2+k)).drop 1).length/\∀x∈(nE.take (2+k)).drop 1,x∈wP
 |0,_=>⟨dD,by intro x hx;simp only[nE,List.take,List.drop,bF,dL,dI]at hx;subst hx;decide⟩
 |1,_=>⟨dD,by intro x hx;simp only[nE,List.take,List.drop,bF,dL,dI]at hx;rcases hx with rfl|rfl<;>decide⟩
 |2,_=>⟨dD,by intro x hx;simp only[nE,List.take,List.drop,bF,dL,dI]at hx;rcases hx with rfl|rfl|rfl<;>decide⟩
 |k+3,h=>absurd h oo
def dz(bs:List UInt8)(s:cR):FY (HI bs s).1:=by
 have hk:=Qh bs s;have ht:=mc _ hk;refine⟨.inl rfl,.inl rfl,⟨1+(mW bs 3 s).toNat,oo,?_⟩,λx hx=>?_⟩
 ·rw[show 1+(1+(mW bs 3 s).toNat)=2+(mW bs 3 s).toNat by omega];exact Hy bs _ _ _ _
 have hn:((HI bs s).1.P.map aQ.name)=FB bs s:=Hy bs _ _ _ _;rw[hn];exact Vi bs ht.1 ht.2 _ _ _ x hx
section
variable (G L P:List ByteArray)
mutual
def rJ:aA->Nat->List bH
  | .mk k n t b e,at_=>
    if k=1 then[⟨1,plc n G,t,0⟩]
    else if k=4 then[⟨4,plc n P,bA,0⟩]
    else if k=5 then[⟨5,plc n P,bA,0⟩]
    else if k=6 then[⟨6,plc n L,bA,0⟩]
    else if k=7 then[⟨7,plc n L,bA,0⟩]
    else if k=8 then[⟨8,0,bA,0⟩]
    else if k=3 then⟨2,0,t,((at_+1+(eA b (at_+1)).length+1:Nat):Int)⟩ :: (eA b (at_+1)++[⟨3,0,bA,(at_:Int)⟩])
    else if k=2 then
      (if e.length=0 then⟨2,0,t,((at_+1+(eA b (at_+1)).length:Nat):Int)⟩ :: eA b (at_+1)
      else⟨2,0,t,((at_+1+(eA b (at_+1)).length+1:Nat):Int)⟩ :: (eA b (at_+1) ++
        (⟨3,0,bA,((at_+1+(eA b (at_+1)).length+1+(eA e (at_+1+(eA b (at_+1)).length+1)).length:Nat):Int)⟩ :: eA e (at_+1+(eA b (at_+1)).length+1))))
    else[]
def eA:List aA->Nat->List bH
  |[],_=>[]
  |x :: l,at_=>rJ x at_++eA l (at_+(rJ x at_).length)
end
def pP(x:bH)(lo hi:Nat):Prop:=1<=x.op/\x.op<=8 /\
 (0<=x.arg/\x.arg<if x.op=1 then(G.length:Int)else if x.op=4\/x.op=5 then P.length else if x.op=6\/x.op=7 then L.length else 1) /\
 (if x.op=1\/x.op=2 then BX G x.term else x.term=bA)/\(if x.op=2\/x.op=3 then(lo:Int)<=x.to/\x.to<=hi else x.to=0)
end
section
variable {G L P:List ByteArray}
def pP.mono{x:bH}{lo hi g0 g1:Nat}(h:pP G L P x lo hi)(h1:g0<=lo)(h2:hi<=g1):pP G L P x g0 g1:=by
 obtain⟨a,b,c,d,e⟩:=h;refine⟨a,b,c,d,?_⟩;split at e
 ·rename_i hh;rw[aP hh];omega
 rename_i hh;rw[aH hh];exact e
def XF{n:ByteArray}{l:List ByteArray}(h:n∈l):0<=plc n l/\plc n l<l.length:=⟨HQ.2 h,JE.2⟩
def KP{op arg to:Int}{t:aD}{lo hi:Nat}(h1:1<=op)(h1':op<=8)(h2:0<=arg/\arg<if op=1 then(G.length:Int)else if op=4\/op=5 then P.length else if op=6\/op=7 then L.length else 1)
   (h3:if op=1\/op=2 then BX G t else t=bA) (h4:if op=2\/op=3 then(lo:Int)<=to/\to<=hi else to=0):pP G L P ⟨op,arg,t,to⟩ lo hi:=⟨h1,h1',h2,h3,h4⟩
def Gm{t:aD}(ht:BX G t){to lo hi:Nat}(h1:lo<=to)(h2:to<=hi):pP G L P ⟨2,0,t,(to:Int)⟩ lo hi:=
 KP dD dD (by rw[aH dD,aH dD,aH dD];decide) (by rw[aP (.inr rfl)];exact ht) (by rw[aP (.inl rfl)];omega)
def Ze{to lo hi:Nat}(h1:lo<=to)(h2:to<=hi):pP G L P ⟨3,0,bA,(to:Int)⟩ lo hi:=
 KP dD dD (by rw[aH dD,aH dD,aH dD];decide) (by rw[aH dD]) (by rw[aP (.inr rfl)];omega)
theorem Za{c:qG}(hG:G=c.gl)(hL:L=c.lk)(hP:∀ x∈c.pr,x∈P):∀(n:Nat),
   (∀(t:aA)(a:Nat),dH c n t->(∀x∈rJ G L P t a,pP G L P x a (a+(rJ G L P t a).length))/\(rJ G L P t a).length<=2*fU t) /\
   ∀(l:List aA)(a:Nat),(∀x∈l,dH c n x)->(∀x∈eA G L P l a,pP G L P x a (a+(eA G L P l a).length))/\(eA G L P l a).length<=2*cM l:=by
 have hl:∀n,(∀(t:aA)(a:Nat),dH c n t->(∀x∈rJ G L P t a,pP G L P x a (a+(rJ G L P t a).length))/\(rJ G L P t a).length<=2*fU t) ->
     ∀(l:List aA)(a:Nat),(∀x∈l,dH c n x)->(∀x∈eA G L P l a,pP G L P x a (a+(eA G L P l a).length))/\(eA G L P l a).length<=2*cM l:=by
   intro n hs l
   induction l with
   |nil=>intro a _;rw[eA];exact⟨(λx hx=>by cases hx),vS _⟩
   | cons t l ih=>
     intro a h;have h1:=hs t a (h t ss);have h2:=ih (a+(rJ G L P t a).length) λx hx=>h x (by simp[hx]);rw[eA,cM];generalize rJ G L P t a=u at *;generalize eA G L P l (a+u.length)=v at *;rw[bX];refine⟨λx hx=>?_,oo⟩;rcases dF.1 hx with hx|hx
     ·exact(h1.1 x hx).mono (lr _) oo
     exact(h2.1 x hx).mono oo oo
 have h0:∀(t:aA)(a:Nat),uD c t->(∀x∈rJ G L P t a,pP G L P x a (a+(rJ G L P t a).length))/\(rJ G L P t a).length<=2*fU t:=by
   rintro⟨k,n,t,b,e⟩ a h;rw[rJ,fU];rcases h with⟨hk,hn,ht,_,_⟩|⟨hk,hn,_⟩|⟨hk,hn,_⟩|⟨hk,hn,_⟩
   ·have hk:k=1:=hk;have hn:n∈c.gl:=hn;rw[aP hk];refine⟨λx hx=>?_,by simp;omega⟩;simp only[bF,dL,dI]at hx;subst hx;exact KP dD dD (by rw[aP rfl];exact XF (by rw[hG];exact hn)) (by rw[aP (.inl rfl)];exact hG▸ht) (by rw[aH dD])
   ·have hk:k=4\/k=5:=hk;have hn:n∈c.pr:=hn;rw[aH oo];rcases hk with hk|hk
    ·rw[aP hk];refine⟨λx hx=>?_,by simp;omega⟩;simp only[bF,dL,dI]at hx;subst hx;exact KP dD dD (by rw[aH dD,aP (.inl rfl)];exact XF (hP _ hn)) (by rw[aH dD]) (by rw[aH dD])
    rw[aH oo,aP hk];refine⟨λx hx=>?_,by simp;omega⟩;simp only[bF,dL,dI]at hx;subst hx;exact KP dD dD (by rw[aH dD,aP (.inr rfl)];exact XF (hP _ hn)) (by rw[aH dD]) (by rw[aH dD])
   ·have hk:k=6\/k=7:=hk;have hn:n∈c.lk:=hn;rw[aH oo,aH oo,aH oo];rcases hk with hk|hk
    ·rw[aP hk];refine⟨λx hx=>?_,by simp;omega⟩;simp only[bF,dL,dI]at hx;subst hx;exact KP dD dD (by rw[aH dD,aH dD,aP (.inl rfl)];exact XF (by rw[hL];exact hn)) (by rw[aH dD]) (by rw[aH dD])
    rw[aH oo,aP hk];refine⟨λx hx=>?_,by simp;omega⟩;simp only[bF,dL,dI]at hx;subst hx;exact KP dD dD (by rw[aH dD,aH dD,aP (.inr rfl)];exact XF (by rw[hL];exact hn)) (by rw[aH dD]) (by rw[aH dD])
   have hk:k=8:=hk;rw[aH oo,aH oo,aH oo,aH oo,aH oo,aP hk];refine⟨λx hx=>?_,by simp;omega⟩;simp only[bF,dL,dI]at hx;subst hx;exact KP dD dD (by rw[aH dD,aH dD,aH dD];decide) (by rw[aH dD]) (by rw[aH dD])
 intro n
 induction n with
 |zero=>exact⟨λt a h=>h0 t a h.zero,hl 0 λt a h=>h0 t a h.zero⟩
 | succ n ih=>
   have hs:∀(t:aA)(a:Nat),dH c (n+1) t->(∀x∈rJ G L P t a,pP G L P x a (a+(rJ G L P t a).length))/\(rJ G L P t a).length<=2*fU t:=by
     intro t a h;rcases h.succ with h|⟨hk,hn,ht,hb,he⟩
     ·exact h0 t a h
     obtain⟨k,_,t,b,e⟩:=t;have hq:k=2\/k=3/\e=[]:=hk;clear hk;replace ht:BX G t:=hG▸ht;have h1:=ih.2 b (a+1) hb;have h2:=ih.2 e (a+1+(eA G L P b (a+1)).length+1) he;rw[rJ,fU,aH oo,aH oo,aH oo,aH oo,aH oo,aH oo];generalize eA G L P b (a+1)=u at *;generalize eA G L P e (a+1+u.length+1)=v at *;rcases hq with hq|⟨hq,rfl⟩
     ·rw[aH oo,aP hq];split
      ·refine⟨λx hx=>?_,by simp only[dA];omega⟩;rw[dA];rcases bF.1 hx with rfl|hx
       ·exact Gm ht oo oo
       exact(h1.1 x hx).mono oo oo
      rename_i hne;refine⟨λx hx=>?_,?_⟩
      ·simp only[dA,bX];rcases bF.1 hx with rfl|hx
       ·exact Gm ht oo oo
       rcases dF.1 hx with hx|hx
       ·exact(h1.1 x hx).mono oo oo
       rcases bF.1 hx with rfl|hx
       ·exact Ze oo oo
       exact(h2.1 x hx).mono oo oo
      have:=Dd e;simp only[dA,bX];omega
     rw[aP hq];refine⟨λx hx=>?_,by simp only[dA,bX,eU];omega⟩;simp only[dA,bX,eU];rcases bF.1 hx with rfl|hx
     ·exact Gm ht oo oo
     rcases dF.1 hx with hx|hx
     ·exact(h1.1 x hx).mono oo oo
     simp only[bF,dL,dI]at hx;subst hx;exact Ze oo oo
   exact⟨hs,hl (n+1) hs⟩
end
def KG:bH:=⟨9,0,bA,0⟩
section
variable (G L P:List ByteArray)
def qJ:List aQ->Nat->List bH
 |[],_=>[]
 |x :: l,a=>eA G L P x.body a++(KG :: qJ l (a+(eA G L P x.body a).length+1))
def tL:List aQ->Nat->List Int
 |[],_=>[]
 |x :: l,a=>(a:Int) :: tL l (a+(eA G L P x.body a).length+1)
end
def kD(p:aY):aF:=
 ⟨p.B,p.L,p.P.map aQ.name,tL p.B p.L (p.P.map aQ.name) p.P 0,qJ p.B p.L (p.P.map aQ.name) p.P 0⟩
theorem Ia(G L P:List ByteArray):∀(l:List aQ)(a:Nat),(tL G L P l a).length=l.length
 |[],_=>by rw[tL];rfl
 |x :: l,a=>by rw[tL,dA,dA,Ia G L P l]
theorem I9(G L P:List ByteArray):∀(l:List aQ)(a i:Nat)(hi:i<l.length),∃s,(tL G L P l a)[i]?=some ((a+s:Nat):Int)/\s+(eA G L P l[i].body (a+s)).length+1<=(qJ G L P l a).length /\
   (∀k,k<(eA G L P l[i].body (a+s)).length->(qJ G L P l a)[s+k]?=(eA G L P l[i].body (a+s))[k]?)/\(qJ G L P l a)[s+(eA G L P l[i].body (a+s)).length]?=some KG /\
   (i=0->s=0)/\(i+1<l.length->(tL G L P l a)[i+1]?=some ((a+s+(eA G L P l[i].body (a+s)).length+1:Nat):Int))/\(i+1=l.length->s+(eA G L P l[i].body (a+s)).length+1=(qJ G L P l a).length)
 | x :: l,a,0,hi=>by
   refine⟨0,?_⟩;simp only[JY,vO,Cm];rw[tL,qJ];generalize eA G L P x.body a=u;refine⟨ss,ss,λk hk=>List.getElem?_append_left hk,ss,ss,λh=>?_,λh=>?_⟩
   ·cases l with
    |nil=>simp at h
    |cons y l=>rw[tL];rfl
   have:l=[]:=qC (by simpa using h);subst this;rw[qJ];simp
 | x :: l,a,i+1,hi=>by
   obtain⟨s,h1,_,h3,h4,_,h6,h7⟩:=I9 G L P l (a+(eA G L P x.body a).length+1) i (by simpa using hi);refine⟨(eA G L P x.body a).length+1+s,?_⟩;simp only[Ju];rw[tL,qJ];have e:a+((eA G L P x.body a).length+1+s)=a+(eA G L P x.body a).length+1+s:=oo;rw[e];generalize eA G L P x.body a=u at *;have g0:i<l.length:=by simpa using hi
   generalize eA G L P (l[i]'g0).body (a+u.length+1+s)=v at *
   have sh:∀(q:Nat)(m:List bH),(u++KG :: m)[u.length+1+q]?=m[q]?:=by
     intro q m;rw[List.getElem?_append_right oo,show u.length+1+q-u.length=q+1 by omega,List.getElem?_cons_succ]
   refine⟨by simpa using h1,by simp only[bX,dA];omega,λk hk=>?_,?_,λh=>oo,λh=>?_,λh=>?_⟩
   ·rw[show u.length+1+s+k=u.length+1+(s+k) by omega,sh];exact h3 k hk
   ·rw[show u.length+1+s+v.length=u.length+1+(s+v.length) by omega,sh];exact h4
   ·rw[List.getElem?_cons_succ];exact h6 (by simpa using h)
   have:=h7 (by simpa using h);simp only[bX,dA];omega
theorem Wa(G L P:List ByteArray){m:Nat}:∀(l:List aQ)(a:Nat),(∀x∈l,∀b,(eA G L P x.body b).length<=m)->(qJ G L P l a).length<=l.length*(m+1)
 |[],_,_=>by rw[qJ];simp
 | x :: l,a,h=>by
   have h1:=h x ss a;have h2:=Wa G L P l (a+(eA G L P x.body a).length+1) λy hy=>h y (by simp[hy]);rw[qJ,bX,dA,dA,xM,GL];omega
def Ak{α:Type}{l:List α}{x d:α}(h:l[i]?=some x):l.getD i d=x:=by rw[List.getD_eq_getElem?_getD,h];rfl
theorem qx:∀k,k<4->(nE.take (1+k)).length<=4/\(nE.take (1+k)).all cK=true/\(nE.take (1+k)).Nodup/\uR∈nE.take (1+k)
 |0,_=>by decide
 |1,_=>by decide
 |2,_=>by decide
 |3,_=>by decide
 |k+4,h=>absurd h oo
def FY.r{p:aY}(hp:FY p):iT p:=by
 obtain⟨k,hk,hn⟩:=hp.n;obtain⟨n1,n2,n3,n4⟩:=qx k hk;rw[<-hn]at n1 n2 n3 n4;rw[kL]at n1;refine⟨?_,?_,⟨oo,λx hx=>nG.1 n2 x hx,n3,n4⟩,λx hx=>?_⟩
 ·rcases hp.g with e|e<;>(rw[e];exact⟨dD,λx hx=>nG.1 dD x hx,dD⟩)
 ·rcases hp.l with e|e|e<;>(rw[e];exact⟨dD,λx hx=>nG.1 dD x hx,dD⟩)
 have hb:=hp.b x hx;exact⟨λy hy=>(dH.sub (c:=⟨p.B,p.L,(p.P.map aQ.name).drop 1⟩) (d:=⟨p.B,p.L,p.P.map aQ.name⟩) (λ_ h=>h) (λ_ h=>h) (λ_ h=>List.mem_of_mem_drop h) 2 y (hb.1 y hy)).mono oo,by have:=hb.2;omega⟩
def iT.gok{p:aY}(hp:iT p):(decide ((p.B.length:Int)<=6)&&p.B.all cK)=true:=by
 rw[nG.2 hp.g.2.1,decide_eq_true (by have:=hp.g.1;omega)];rfl
def iT.lok{p:aY}(hp:iT p):(decide ((p.L.length:Int)<=6)&&p.L.all cK)=true:=by
 rw[nG.2 hp.l.2.1,decide_eq_true (by have:=hp.l.1;omega)];rfl
def code_at{p:aY}(hp:iT p){i:Nat}(hi:i<p.P.length):∃s n:Nat,en (kD p) i=(s:Int)/\iF (kD p) i=((s+n+1:Nat):Int)/\s+n+1<=(kD p).I.length /\
   (∀k,k<n->pP (kD p).B (kD p).L (kD p).P (bO (kD p) (s+k)) s (s+n))/\bO (kD p) (s+n)=KG/\(i=0->s=0):=by
 obtain⟨s,h1,h2,h3,h4,h5,h6,h7⟩:=I9 p.B p.L (p.P.map aQ.name) p.P 0 i hi;simp only[vO]at h1 h2 h3 h4 h5 h6 h7;have hb:=hp.b _ (cY hi);have hr:=(Za (G:=p.B) (L:=p.L) (P:=p.P.map aQ.name) (c:=⟨p.B,p.L,p.P.map aQ.name⟩) rfl rfl (λ_ hx=>hx) 6).2 p.P[i].body s hb.1;generalize eA p.B p.L (p.P.map aQ.name) p.P[i].body s=u at *;refine⟨s,u.length,Ak h1,?_,h2,λk hk=>?_,Ak h4,h5⟩
 ·unfold iF;have hl:(kD p).E.length=p.P.length:=Ia _ _ _ _ _;split
  ·rename_i hh;exact Ak (h6 oo)
  rename_i hh;show((qJ _ _ _ _ _).length:Int)=_;rw[<-h7 oo]
 have e:bO (kD p) (s+k)=u[k]:=Ak (by
   have:=h3 k hk;rw[List.getElem?_eq_getElem hk]at this;exact this)
 rw[e];exact(hr.1 _ (cY hk)).mono (lr _) (lr _)
def Jc{p:aY}(hp:iT p):aM (kD p)/\(kD p).I.length<=968:=by
 obtain⟨_,n2,n3,n4⟩:=hp.n;have hl:(kD p).E.length=p.P.length:=Ia _ _ _ _ _;have g0:(p.P.map aQ.name).length=p.P.length:=kL _
 have hN:cF (kD p):=by
   refine⟨?_,?_,?_,?_,?_,?_,?_⟩
   ·show(decide ((p.B.length:Int)<=6)&&p.B.all cK)=true;exact hp.gok
   ·show(decide ((p.L.length:Int)<=6)&&p.L.all cK)=true;exact hp.lok
   ·show(decide (((p.P.map aQ.name).length:Int)<=8)&&(p.P.map aQ.name).all cK)=true;rw[nG.2 n2,decide_eq_true oo];rfl
   ·show p.B.Nodup;exact hp.g.2.2
   ·show p.L.Nodup;exact hp.l.2.2
   ·show(p.P.map aQ.name).Nodup;exact n3
   show uR∈p.P.map aQ.name;exact n4
 have g1:(kD p).I.length<=968:=by
   have:=Wa p.B p.L (p.P.map aQ.name) (m:=120) p.P 0 λx hx b=>by
     have hb:=hp.b x hx;have hr:=(Za (G:=p.B) (L:=p.L) (P:=p.P.map aQ.name) (c:=⟨p.B,p.L,p.P.map aQ.name⟩) rfl rfl (λx hx=>hx) 6).2 x.body b hb.1;have:=hb.2;omega
   show(qJ _ _ _ _ _).length<=968;omega
 have h0:0<p.P.length:=by
   rw[<-g0];exact Cx n4
 have hF:lK (kD p):=by
   refine⟨by rw[hl];exact g0.symm,oo,?_,λi hi=>?_⟩
   ·obtain⟨s,n,e1,_,_,_,_,e0⟩:=code_at hp h0;rw[e1,e0 rfl];rfl
   obtain⟨s,n,e1,e2,e3,_,_,_⟩:=code_at hp (i:=i) oo;rw[e1,e2];omega
 have g2:0<(kD p).P.length:=by show 0<(p.P.map aQ.name).length;omega
 have C:∀j:Nat,j<(kD p).I.length->∃i s n:Nat,i<p.P.length/\en (kD p) i=(s:Int)/\iF (kD p) i=((s+n+1:Nat):Int)/\s<=j/\j<=s+n/\eC (kD p) j=i /\
     (∀k,k<n->pP (kD p).B (kD p).L (kD p).P (bO (kD p) (s+k)) s (s+n))/\bO (kD p) (s+n)=KG:=by
   intro j hj;obtain⟨i,hi,a1,a2,a3⟩:=hF.find g2 (a:=(j:Int)) oo oo;obtain⟨s,n,e1,e2,e3,e4,e5,_⟩:=code_at hp (i:=i) oo;rw[e1]at a1;rw[e2]at a2;exact⟨i,s,n,oo,e1,e2,oo,oo,a3,e4,e5⟩
 have D:∀(i:Nat),uK (kD p) i=iF (kD p) i-1:=λi=>JF _ i;refine⟨⟨hN,⟨hF.len,hF.I,λi hi=>⟨λh=>by subst h;exact hF.zero,λh=>?_,?_⟩,λj hj=>?_⟩,λj hj=>?_⟩,g1⟩
 ·have h1:=(hF.lt (i-1) oo).1;rw[hF.step oo,show i-1+1=i by omega]at h1;exact h1
 ·have:=hF.lt i hi;omega
 ·obtain⟨i,s,n,hi,e1,e2,a1,a2,a3,e4,e5⟩:=C j hj;rw[a3,D,e2];constructor
  ·intro h9;by_cases hjn:j=s+n
   ·omega
   have:=e4 (j-s) oo;rw[show s+(j-s)=j by omega]at this;have:=this.2.1;omega
  intro h9;have:j=s+n:=oo;rw[this,e5];rfl
 obtain⟨i,s,n,hi,e1,e2,a1,a2,a3,e4,e5⟩:=C j hj;rw[a3,D,e2];simp only[qM];rw[e1];by_cases hjn:j=s+n
 ·rw[hjn,e5]
  have ha:(0:Int)<tU (kD p) 9:=by
    unfold tU;rw[aH dD,aH dD,aH dD];decide
  refine⟨dD,⟨dD,ha⟩,by rw[aH dD];rfl,by rw[aH dD];rfl⟩
 have hq:=e4 (j-s) oo;rw[show s+(j-s)=j by omega]at hq;generalize bO (kD p) j=x at *;obtain⟨q1,_,q3,q4,q5⟩:=hq;refine⟨⟨q1,oo⟩,?_,?_,?_⟩
 ·unfold tU;exact q3
 ·split at q4
  ·rename_i hh;rw[aP hh];refine⟨q4.1,λy hy=>?_⟩;show y∈p.B;exact q4.2.1 y hy
  rename_i hh;rw[aH hh];exact q4
 split at q5
 ·rename_i hh;rw[aP hh];omega
 rename_i hh;rw[aH hh];exact q5
def Cc(t:aA):Prop:=(t.kind=1/\cK t.name=true/\fK 6 t.term=true/\t.body=[]/\t.els=[])\/((t.kind=4\/t.kind=5\/t.kind=6\/t.kind=7)/\cK t.name=true/\t.term=bA/\t.body=[]/\t.els=[]) \/
 (t.kind=8/\t.name=ByteArray.mk #[]/\t.term=bA/\t.body=[]/\t.els=[])\/(t.kind=2/\t.name=ByteArray.mk #[]/\fK 6 t.term=true)\/(t.kind=3/\t.name=ByteArray.mk #[]/\fK 6 t.term=true/\t.els=[])
def S0(t:aA):Prop:=(t.kind=1/\cK t.name=true/\fK 6 t.term=true/\t.body=[]/\t.els=[])\/((t.kind=4\/t.kind=5)/\cK t.name=true/\t.term=bA/\t.body=[]/\t.els=[]) \/
 ((t.kind=6\/t.kind=7)/\cK t.name=true/\t.term=bA/\t.body=[]/\t.els=[])\/(t.kind=8/\t.name=nO/\t.term=bA/\t.body=[]/\t.els=[])
def SH:Nat->aA->Prop
 |0,t=>S0 t
 |n+1,t=>S0 t\/((t.kind=2\/t.kind=3/\t.els=[])/\t.name=nO/\fK 6 t.term=true/\(∀x∈t.body,SH n x)/\∀x∈t.els,SH n x)
def SH.zero{t:aA}(h:SH 0 t):S0 t:=by rw[SH]at h;exact h
def SH.succ{t:aA}(h:SH (n+1) t):S0 t\/((t.kind=2\/t.kind=3/\t.els=[])/\t.name=nO/\fK 6 t.term=true/\(∀x∈t.body,SH n x)/\∀x∈t.els,SH n x):=by
 rw[SH]at h;exact h
theorem SH.base:∀{n:Nat}{t:aA},S0 t->SH n t
 |0,t,h=>by rw[SH];exact h
 |n+1,t,h=>by rw[SH];exact .inl h
def SH.more{t:aA}(h1:t.kind=2\/t.kind=3/\t.els=[])(h2:t.name=nO)(h3:fK 6 t.term=true)(h4:∀ x∈t.body,SH n x)(h5:∀ x∈t.els,SH n x):SH (n+1) t:=by
 rw[SH];exact .inr ⟨h1,h2,h3,h4,h5⟩
theorem SH.one{t:aA}(h:SH n t):Cc t:=by
 have h0:S0 t->Cc t:=λh=>by
   rcases h with⟨h1,h2,h3,h4,h5⟩|⟨h1,h2,h3,h4,h5⟩|⟨h1,h2,h3,h4,h5⟩|⟨h1,h2,h3,h4,h5⟩
   ·exact .inl ⟨h1,h2,h3,h4,h5⟩
   ·exact .inr (.inl ⟨oo,h2,h3,h4,h5⟩)
   ·exact .inr (.inl ⟨oo,h2,h3,h4,h5⟩)
   exact .inr (.inr (.inl ⟨h1,h2,h3,h4,h5⟩))
 cases n with
 |zero=>exact h0 h.zero
 | succ n=>
   rcases h.succ with h|⟨h1,h2,h3,h4,h5⟩
   ·exact h0 h
   rcases h1 with h1|⟨h1,h6⟩
   ·exact .inr (.inr (.inr (.inl ⟨h1,h2,h3⟩)))
   exact .inr (.inr (.inr (.inr ⟨h1,h2,h3,h6⟩)))
theorem SH.kids{x:aA}(h:SH n x):(∀y∈x.body,SH (n-1) y)/\(∀y∈x.els,SH (n-1) y)/\(0<n\/(x.body=[]/\x.els=[]))/\(¬(x.kind=2\/x.kind=3)->x.body=[]/\x.els=[])/\((x.kind=2\/x.kind=3)->0<n):=by
 have h0:S0 x->(x.body=[]/\x.els=[])/\¬(x.kind=2\/x.kind=3):=λh=>by rcases h with q|q|q|q<;>exact⟨⟨q.2.2.2.1,q.2.2.2.2⟩,by have:=q.1;omega⟩
 cases n with
 | zero=>
   obtain⟨⟨h1,h2⟩,h3⟩:=h0 h.zero;exact⟨by rw[h1];simp,by rw[h2];simp,.inr ⟨h1,h2⟩,λ_=>⟨h1,h2⟩,λh=>absurd h h3⟩
 | succ n=>
   rcases h.succ with q|⟨q,_,_,h4,h5⟩
   ·obtain⟨⟨h1,h2⟩,h3⟩:=h0 q;exact⟨by rw[h1];simp,by rw[h2];simp,.inr ⟨h1,h2⟩,λ_=>⟨h1,h2⟩,λh=>absurd h h3⟩
   exact⟨h4,h5,.inl oo,λhn=>absurd (q.imp id λh=>h.1) hn,λ_=>oo⟩
def Yx(c:qG):Prop:=(∀x∈c.gl,cK x=true)/\(∀x∈c.lk,cK x=true)/\∀x∈c.pr,cK x=true
theorem dH.sh{c:qG}(hp:Yx c):∀{n:Nat}{t:aA},dH c n t->SH n t:=by
 have h0:∀{t:aA},uD c t->S0 t:=λh=>by
   rcases h with⟨h1,h2,h3,h4,h5⟩|⟨h1,h2,h3,h4,h5⟩|⟨h1,h2,h3,h4,h5⟩|⟨h1,h2,h3,h4,h5⟩
   ·exact .inl ⟨h1,hp.1 _ h2,h3.1,h4,h5⟩
   ·exact .inr (.inl ⟨h1,hp.2.2 _ h2,h3,h4,h5⟩)
   ·exact .inr (.inr (.inl ⟨h1,hp.2.1 _ h2,h3,h4,h5⟩))
   exact .inr (.inr (.inr ⟨h1,h2,h3,h4,h5⟩))
 intro n
 induction n with
 |zero=>intro t h;exact SH.base (h0 h.zero)
 | succ n ih=>
   intro t h;rcases h.succ with h|⟨h1,h2,h3,h4,h5⟩
   ·exact SH.base (h0 h)
   exact SH.more h1 h2 h3.1 (λx hx=>ih (h4 x hx)) λx hx=>ih (h5 x hx)
def zFt(h:cK s=true):s.size<=12:=by
 unfold cK tB at h;simp only[iA,lZ]at h;exact h.1.1.1
theorem A1:∀(n:Nat)(t:aD),fK n t=true->wT t+2<=14*2^n
  | n,.mk k a s ks,h=>by
    have:1<=2^n:=YC;rw[PC];by_cases h2:k=2
    ·rw[HS (t:=.mk k a s ks) h2]at h;simp only[iA,lZ]at h;have:s.size<=12:=zFt h.1.2;have h5:(ks.length:Int)=0:=h.2;have h4:ks=[]:=qC oo;rw[h4];simp[sm];omega
    have:s.size=0:=by
      by_cases h1:k=1
      ·rw[CV (t:=.mk k a s ks) h1]at h;simp only[iA,lZ]at h;have h5:s=ByteArray.mk #[]:=h.1.2;rw[h5];rfl
      rw[qH (t:=.mk k a s ks) h1 h2]at h;simp only[iA,lZ]at h;have h5:s=ByteArray.mk #[]:=h.1.1.2;rw[h5];rfl
    rcases Gz h h2 with hk|⟨m,rfl,hk,g0⟩
    ·have hk:ks=[]:=hk;rw[hk];simp[sm];omega
    have hk:ks.length<=2:=hk
    have g1:∀l:List aD,(∀x∈l,fK m x=true)->sm wT l+2*l.length<=l.length*(14*2^m):=by
      intro l
      induction l with
      |nil=>intro _;simp[sm]
      | cons x l ih=>
        intro hl;have h1:=ih λy hy=>hl y (by simp[hy]);have h2:=A1 m x (hl x ss);simp only[sm,FI,Ao,dA,xM]at h1 ⊢;omega
    have h1:=g1 ks g0;rw[QI];have hc:ks.length=0\/ks.length=1\/ks.length=2:=oo;rcases hc with hc|hc|hc<;>(rw[hc]at h1 ⊢;omega)
termination_by n=>n
decreasing_by omega
def D8{t:aD}(h:fK 6 t=true):wT t<=1000:=by have:=A1 6 t h;omega
structure RK(c:qG)(x:aA):Prop where
 k1:x.kind=1->x.name∈c.gl
 k6:x.kind=6\/x.kind=7->x.name∈c.lk
 k4:x.kind=4\/x.kind=5->x.name∈c.pr
def II(c:qG)(x:aA):Prop:=∀s∈mN x.term,s∈c.gl
def XS:mN bA=[]:=by decide
theorem We{c:qG}{x:aA}(h:SH n x):dH c n x↔RK c x/\II c x/\(∀y∈x.body,dH c (n-1) y)/\∀y∈x.els,dH c (n-1) y:=by
 have h0:S0 x->(uD c x↔RK c x/\II c x)/\x.body=[]/\x.els=[]:=λq=>by
   rcases q with q|q|q|q
   ·refine⟨⟨λh=>?_,λh=>.inl ⟨q.1,h.1.k1 q.1,⟨q.2.2.1,h.2,D8 q.2.2.1⟩,q.2.2.2⟩⟩,q.2.2.2⟩;rcases h with h|h|h|h
    ·exact⟨⟨λ_=>h.2.1,λ_=>oo,λ_=>oo⟩,h.2.2.1.2.1⟩
    ·have:=h.1;omega
    ·have:=h.1;omega
    have:=h.1;omega
   ·refine⟨⟨λh=>?_,λh=>.inr (.inl ⟨q.1,h.1.k4 q.1,q.2.2⟩)⟩,q.2.2.2⟩;rcases h with h|h|h|h
    ·have:=h.1;omega
    ·exact⟨⟨λ_=>oo,λ_=>oo,λ_=>h.2.1⟩,by unfold II;rw[q.2.2.1,XS];simp⟩
    ·have:=h.1;omega
    have:=h.1;omega
   ·refine⟨⟨λh=>?_,λh=>.inr (.inr (.inl ⟨q.1,h.1.k6 q.1,q.2.2⟩))⟩,q.2.2.2⟩;rcases h with h|h|h|h
    ·have:=h.1;omega
    ·have:=h.1;omega
    ·exact⟨⟨λ_=>oo,λ_=>h.2.1,λ_=>oo⟩,by unfold II;rw[q.2.2.1,XS];simp⟩
    have:=h.1;omega
   exact⟨⟨λh=>⟨⟨λ_=>oo,λ_=>oo,λ_=>oo⟩,by unfold II;rw[q.2.2.1,XS];simp⟩,λh=>.inr (.inr (.inr q))⟩,q.2.2.2⟩
 cases n with
 | zero=>
   obtain⟨h1,h2,h3⟩:=h0 h.zero;rw[h2,h3];exact⟨λh=>⟨(h1.1 h.zero).1,(h1.1 h.zero).2,ss,ss⟩,λh=>dH.base (h1.2 ⟨h.1,h.2.1⟩)⟩
 | succ n=>
   rcases h.succ with q|⟨q,h2,h3,_,_⟩
   ·obtain⟨h1,h2,h3⟩:=h0 q;rw[h2,h3];refine⟨λh=>?_,λh=>dH.base (h1.2 ⟨h.1,h.2.1⟩)⟩;rcases h.succ with h|⟨h,_⟩
    ·exact⟨(h1.1 h).1,(h1.1 h).2,ss,ss⟩
    exfalso;rcases q with q|q|q|q<;>(have:=q.1;omega)
   refine⟨λh=>?_,λh=>dH.more q h2 ⟨h3,h.2.1,D8 h3⟩ h.2.2.1 h.2.2.2⟩;rcases h.succ with h|⟨_,_,h8,h9,g0⟩
   ·exfalso;rcases h with h|h|h|h<;>(have:=h.1;omega)
   exact⟨⟨λ_=>oo,λ_=>oo,λ_=>oo⟩,h8.2.1,h9,g0⟩
structure vD(p:aY):Prop where
 g:p.B.length<=6/\∀x∈p.B,cK x=true
 l:p.L.length<=6/\∀x∈p.L,cK x=true
 n:p.P.length<=8/\∀x∈p.P.map aQ.name,cK x=true
 b:∀x∈p.P,(∀y∈x.body,SH 6 y)/\cM x.body<=60
abbrev xH(p:aY):qG:=⟨p.B,p.L,p.P.map aQ.name⟩
def iT.sc{p:aY}(hp:iT p):Yx (xH p):=⟨hp.g.2.1,hp.l.2.1,hp.n.2.1⟩
def iT.sh{p:aY}(hp:iT p):vD p:=⟨⟨hp.g.1,hp.g.2.1⟩,⟨hp.l.1,hp.l.2.1⟩,⟨hp.n.1,hp.n.2.1⟩,λx hx=>⟨λy hy=>((hp.b x hx).1 y hy).sh hp.sc,(hp.b x hx).2⟩⟩
def vD.gok{p:aY}(hp:vD p):(decide ((p.B.length:Int)<=6)&&p.B.all cK)=true:=by
 rw[nG.2 hp.g.2,decide_eq_true (by have:=hp.g.1;omega)];rfl
def vD.lok{p:aY}(hp:vD p):(decide ((p.L.length:Int)<=6)&&p.L.all cK)=true:=by
 rw[nG.2 hp.l.2,decide_eq_true (by have:=hp.l.1;omega)];rfl
def RI(p:aY):Prop:=∀x∈p.P,∀y∈x.body,dH (xH p) 6 y
open Classical in
noncomputable def qN(p:aY):Int:=if ¬p.B.Nodup\/¬p.L.Nodup\/¬(p.P.map aQ.name).Nodup then 2 else if ¬RI p then 3 else if uR∉p.P.map aQ.name then 4 else 0
def zFu{p:aY}(hp:vD p)(h:qN p=0):iT p:=by
 unfold qN at h;split at h
 ·omega
 rename_i h1;split at h
 ·omega
 rename_i h2;split at h
 ·omega
 rename_i h3;simp only[not_or,IG]at h1 h2 h3;exact⟨⟨hp.g.1,hp.g.2,h1.1⟩,⟨hp.l.1,hp.l.2,h1.2.1⟩,⟨hp.n.1,hp.n.2,h1.2.2,h3⟩,λx hx=>⟨h2 x hx,(hp.b x hx).2⟩⟩
def Fw{p:aY}(hp:iT p):qN p=0:=by
 unfold qN;rw[aH (by simp only[not_or,IG];exact⟨hp.g.2.2,hp.l.2.2,hp.n.2.2.1⟩),aH (by simp only[IG];exactλx hx=>(hp.b x hx).1),aH (by simp only[IG];exact hp.n.2.2.2)]
def PJ{x:aA}(h:iS W w b 0 x):iS W w b (0+6) x.body:=by
 obtain⟨F,cs,hr,hc⟩:=h;have h:iS W w b 0 x.tup:=⟨F,cs,GW.1 hr,hc⟩;exact h.snd.snd.snd.fst
def PN{x:aA}(h:iS W w b 0 x):iS W w b (0+7) x.els:=by
 obtain⟨F,cs,hr,hc⟩:=h;have h:iS W w b 0 x.tup:=⟨F,cs,GW.1 hr,hc⟩;exact h.snd.snd.snd.snd
def Xl{p:aY}(h:iS W w b 0 p):iS W w b (0+2) p.P:=by
 obtain⟨F,cs,hr,hc⟩:=h;have h:iS W w b 0 (p.B,p.L,p.P):=⟨F,cs,hr,hc⟩;exact h.snd.snd
def zh{p:aQ}(h:iS W w b 0 p):iS W w b (0+1) p.body:=by
 obtain⟨F,cs,hr,hc⟩:=h;have h:iS W w b 0 (p.name,p.body):=⟨F,cs,hr,hc⟩;exact h.snd
def TD{a:Prop}[Decidable a]{Q kt kf:Prop}(hq:a->Q)(key:Q->kt)(rest:(Q->kt)->¬a->kf):BR (.bool (decide a)) kt kf:=br (λh=>key (hq h)) (rest key)
structure eO(F:List Nat)(w:wD)(o:List ByteArray)(ok:Prop)(b:Nat)(r:vL)(F':List Nat)(o':List ByteArray)(w':wD):Prop where
 chg:cH F w w'
 row:dU F' 9 w' r o'
 nd:F'.Nodup
 sub:∀c∈F',c∈F\/w.heap.size<=c
 iff_:o'=[]↔o=[]/\ok
 len:o'.length<=o.length+b
def zFv(h:cH F w w1)(k:cH F1 w1 w2)(hF:∀ c∈F1,c∈F\/w.heap.size<=c):cH F w w2:=
 ⟨k.os.trans h.os,k.tape.trans h.tape,k.output.trans h.output,eH h.size k.size,λb hb hn=>(k.block b (kP hb h.size) λhm=>by
   rcases hF b hm with h|h
   ·exact hn h
   omega).trans (h.block b hb hn)⟩
section
variable {F F1 F2:List Nat}{w w1 w2:wD}{o o1 o2:List ByteArray}{ok ok':Prop}{b b':Nat}{r r':vL}
def eO.refl(h:dU F 9 w r o)(hn:F.Nodup):eO F w o True 0 r F o w:=⟨cH.refl _ _,h,hn,λc hc=>.inl hc,ss,iD _⟩
def eO.trans(h:eO F w o ok b r F1 o1 w1)(k:eO F1 w1 o1 ok' b' r' F2 o2 w2):eO F w o (ok/\ok') (b+b') r' F2 o2 w2:=
 ⟨zFv h.chg k.chg h.sub,k.row,k.nd,λc hc=>(k.sub c hc).elim (h.sub c) λhh=>.inr (eH h.chg.size hh),by rw[k.iff_,h.iff_,and_assoc],by have:=h.len;have:=k.len;omega⟩
def eO.ext(h:eO F w o ok b r F1 o1 w1)(hx:aB w1 w2):eO F w o ok b r F1 o1 w2:=
 ⟨h.chg.trans (hx.chg F),h.row.keep λc hc=>hx.heap (h.row.lt c hc),h.nd,h.sub,h.iff_,h.len⟩
def eO.more(h:eO F w o ok b r F1 o1 w1)(hb:b<=b')(hk:ok↔ok'):eO F w o ok' b' r F1 o1 w1:=⟨h.chg,h.row,h.nd,h.sub,by rw[h.iff_,hk],by have:=h.len;omega⟩
def eO.keep(h:eO F w o ok b r F1 o1 w1){c:Nat}(hc:c<w.heap.size)(hn:c∉F):w1.heap[c]?=w.heap[c]?:=h.chg.block c hc hn
def eO.not(h:eO F w o ok b r F1 o1 w1){c:Nat}(hc:c<w.heap.size)(hn:c∉F):c∉F1:=λhm=>(h.sub c hm).elim hn λhh=>oo
def eO.old{W:wD}(h:eO F w o ok b r F1 o1 w1)(e:aB W w)(hF:∀ c∈F,W.heap.size<=c):aB W w1:=e.chg_trans h.chg hF
def eO.low{n:Nat}(h:eO F w o ok b r F1 o1 w1)(hF:∀ c∈F,n<=c)(hw:n<=w.heap.size):∀c∈F1,n<=c:=λc hc=>(h.sub c hc).elim (hF c) λhh=>eH hw hh
end
def Jv(l:List UInt8)(b:UInt8):sE (l++[b])=sE l*10+((b.toNat:Int)-48):=by unfold sE;rw[Om];rfl
theorem Gk:∀(n:Nat)(l:List UInt8),l.length=n->l.all nK=true->0<=sE l/\sE l+1<=(10:Int)^n
 |0,l,h,_=>by rw[qC h];decide
 | n+1,l,h,ha=>by
   have e:l=l.dropLast++[l.getLast (by intro h0;rw[h0]at h;simp at h)]:=(List.dropLast_concat_getLast _).symm;generalize l.getLast _=b at e;have hl:l.dropLast.length=n:=by rw[List.length_dropLast,h];rfl
   generalize l.dropLast=m at e hl;subst e;rw[By,iA]at ha;have ih:=Gk n m hl ha.1;have hb:nK b=true:=by have:=ha.2;simpa using this
   unfold nK at hb;have hb:=of_decide_eq_true hb;rw[Jv,Int.pow_succ];omega
def A0{n:Int}(h:qT s=some n):0<=n/\n<=1000000000:=by
 unfold qT at h;split at h
 ·rename_i hq;have:=Gk _ (aW s) rfl hq.1;simp only[iU]at h;omega
 cases h
section
variable {L:List aT}{e:Int}
def Xr(hL:∀ x∈L,qE x){i:Nat}(h:GG L i=2):qT (cV L i)=some (sE (aW (cV L i))):=by
 rcases kR i L.length with h1|h1
 ·rw[<-Co h1]at h;rw[<-UT h1];exact((hL _ (cY h1)).num h).1
 rw[Lr h1]at h;cases h
def Kk(t:ByteArray):vP t=0\/(3<=vP t/\vP t<=9/\vP t≠8):=by
 unfold vP;repeat' split
 all_goals omega
def Ke(t:ByteArray):fQ t<=8/\(fQ t=1->cK t=true):=by
 unfold fQ;repeat' split
 all_goals first|exact⟨oo,λ_=>oo⟩|exact⟨oo,λ_=>by assumption⟩
def qz{n:Nat}{t:aD}(h:fK n t=true):fK (n+1) (.mk 8 0 lS [t])=true:=by
 rw[qH (by simp[aD.kind]) (by simp[aD.kind])];simp[aD.kind,aD.num,aD.name,aD.kids,lS,h]
def xd{n k:Nat}{a b:aD}(hk:3<=k/\k<=9/\k≠8)(ha:fK n a=true)(hb:fK n b=true):fK (n+1) (.mk (k:Int) 0 lS [a,b])=true:=by
 rw[qH (by simp only[aD.kind];omega) (by simp only[aD.kind];omega)];have h8:¬(k:Int)=8:=oo;have h3:(3:Int)<=k/\(k:Int)<=9:=oo;simp[aD.kind,aD.num,aD.name,aD.kids,lS,ha,hb,h8,h3]
def Yr(hL:∀ x∈L,qE x){n:Nat}{C:Nat->Rd aD}(hi:∀ i t j,C i=.ok (t,j)->fK n t=true){i:Nat}{t:aD}{j:Nat}(h:yB L e C i=.ok (t,j)):fK n t=true:=by
 unfold yB at h;split at h
 ·rename_i hn;simp only[Except.ok.injEq,mV]at h;rw[<-h.1,HS rfl];simp[aD.num,aD.name,aD.kids,hn]
 split at h
 ·rename_i hk;simp only[Except.ok.injEq,mV]at h;have:=A0 (Xr hL hk);rw[<-h.1,CV rfl];simp[aD.num,aD.name,aD.kids,lS,this]
 split at h
 ·exact hi _ _ _ h
 cases h
theorem WG(hL:∀ x∈L,qE x):∀(n i:Nat)(t:aD)(j:Nat),sG L e n i=.ok (t,j)->fK n t=true
 |0,i,t,j,h=>Yr hL (λ_ _ _ h=>by cases h) h
 | n+1,i,t,j,h=>by
   refine Yr hL (λi t j h=>?_) h;unfold tT at h;split at h
   ·obtain⟨x,i1,h1,h⟩:=lC h;obtain⟨_,i2,_,h⟩:=lC h;simp only[Except.ok.injEq,mV]at h;rw[<-h.1];exact qz (WG hL n _ _ _ h1)
   obtain⟨a,i1,h1,h⟩:=lC h;split at h
   ·cases h
   rename_i hk;obtain⟨b,i2,h2,h⟩:=lC h;obtain⟨_,i3,_,h⟩:=lC h;simp only[Except.ok.injEq,mV]at h;rw[<-h.1];exact xd ((Kk _).resolve_left hk) (WG hL n _ _ _ h1) (WG hL n _ _ _ h2)
def QB(n:Nat)(b:nV):Prop:=∀q i l q' j,b q i=.ok ((l,q'),j)->(∀x∈l,SH n x)/\cM l+q'=q
def WN(k:Int)(s:ByteArray)(t:aD)(b c:List aA):fU (.mk k s t b c)=1+cM b+cM c:=by rw[fU]
def WO:cM []=0:=by rw[cM]
def He{i j:Nat}{s:ByteArray}(h:uZ L e i=.ok (s,j)):cK s=true/\s=cV L i/\j=i+1:=by
 unfold uZ at h;split at h
 ·rename_i hn;simp only[Except.ok.injEq,mV]at h;rw[<-h.1];exact⟨hn,rfl,h.2.symm⟩
 cases h
def qe(hL:∀ x∈L,qE x){n:Nat}{b:nV}{k q i:Nat}(hk:k<=8/\(k=1->cK (cV L i)=true)/\k≠0)(hb:(k=2\/k=3)->0<n/\QB (n-1) b){s:aA}{q' j:Nat}(h:pV L e b k q i=.ok ((s,q'),j)):SH n s/\fU s+q'=q+1:=by
 unfold pV at h;split at h
 ·rename_i k1;obtain⟨_,i1,_,h⟩:=lC h;obtain⟨t,i2,h2,h⟩:=lC h;obtain⟨_,_,_,h⟩:=lC h;simp only[Except.ok.injEq,mV]at h;obtain⟨⟨rfl,rfl⟩,rfl⟩:=h;exact⟨SH.base (.inl ⟨rfl,hk.2.1 k1,WG hL _ _ _ _ h2,rfl,rfl⟩),by rw[WN,WO];omega⟩
 rename_i n1;split at h
 ·obtain⟨_,i1,_,h⟩:=lC h;simp only[Except.ok.injEq,mV]at h;obtain⟨⟨rfl,rfl⟩,rfl⟩:=h;exact⟨SH.base (.inr (.inr (.inr ⟨rfl,rfl,rfl,rfl,rfl⟩))),by rw[WN,WO];omega⟩
 rename_i n8;split at h
 ·rename_i k23;obtain⟨hn,hb⟩:=hb k23;obtain⟨m,rfl⟩:∃m,n=m+1:=⟨n-1,oo⟩;obtain⟨t,i1,h1,h⟩:=lC h;have ht:=WG hL _ _ _ _ h1;obtain⟨⟨_,_⟩,i2,h2,h⟩:=lC h;have h3:=hb _ _ _ _ _ h2;split at h
  ·simp only[Except.ok.injEq,mV]at h;obtain⟨⟨rfl,rfl⟩,rfl⟩:=h;have g0:(k:Int)=2\/(k:Int)=3/\([]:List aA)=[]:=k23.elim (λh=>.inl oo) λh=>.inr ⟨oo,rfl⟩;exact⟨SH.more g0 rfl ht h3.1 (λx hx=>by cases hx),by rw[WN,WO];have:=h3.2;simp only at *;omega⟩
  rename_i hels;split at h
  ·cases h
  obtain⟨⟨_,_⟩,_,h4,h⟩:=lC h;have h5:=hb _ _ _ _ _ h4;simp only[Except.ok.injEq,mV]at h;obtain⟨⟨rfl,rfl⟩,rfl⟩:=h
  have g0:(k:Int)=2:=by
    rcases k23 with h|h
    ·omega
    exact absurd (.inl h) hels
  exact⟨SH.more (.inl g0) rfl ht h3.1 h5.1,by rw[WN];have:=h3.2;have:=h5.2;simp only at *;omega⟩
 rename_i n23;obtain⟨_,i1,h1,h⟩:=lC h;obtain⟨_,i2,_,h⟩:=lC h;simp only[Except.ok.injEq,mV]at h;obtain⟨⟨rfl,rfl⟩,rfl⟩:=h;have hn:=(He h1).1;refine⟨SH.base ?_,by rw[WN,WO];omega⟩;have hq:(k:Int)=4\/(k:Int)=5\/(k:Int)=6\/(k:Int)=7:=oo;rcases hq with hq|hq|hq|hq
 ·exact .inr (.inl ⟨.inl hq,hn,rfl,rfl,rfl⟩)
 ·exact .inr (.inl ⟨.inr hq,hn,rfl,rfl,rfl⟩)
 ·exact .inr (.inr (.inl ⟨.inl hq,hn,rfl,rfl,rfl⟩))
 exact .inr (.inr (.inl ⟨.inr hq,hn,rfl,rfl,rfl⟩))
theorem Ho(hL:∀ x∈L,qE x){n:Nat}{deep:Bool}{b:nV}(hb:deep=false->0<n/\QB (n-1) b):∀m,QB n (yS L e deep b m)
 |0=>λq i l q' j h=>by cases h
 | m+1=>λq i l q' j h=>by
   unfold yS at h;split at h
   ·simp only[Except.ok.injEq,mV]at h;obtain⟨⟨rfl,rfl⟩,rfl⟩:=h;exact⟨(λx hx=>by cases hx),by rw[WO];omega⟩
   rename_i h0;split at h
   ·cases h
   rename_i hd;split at h
   ·cases h
   rename_i hq;obtain⟨⟨s,q2⟩,i2,h2,h⟩:=lC h;obtain⟨⟨l3,q3⟩,i3,h3,h⟩:=lC h;have hw:=Ke (cV L i);have h4:=qe hL (n:=n) ⟨hw.1,hw.2,h0⟩ (λhk=>hb (by cases deep with|false=>rfl|true=>exact absurd ⟨hk,rfl⟩ hd)) h2;have h5:=Ho hL hb m _ _ _ _ _ h3;simp only[Except.ok.injEq,mV]at h;obtain⟨⟨rfl,rfl⟩,rfl⟩:=h;refine⟨λx hx=>?_,by rw[cM];have:=h4.2;have:=h5.2;simp only at *;omega⟩;rcases bF.1 hx with rfl|hx
   ·exact h4.1
   exact h5.1 x hx
def cz{n:Nat}{b:nV}(h:QB n b):QB n (tS L e b):=λq i l q' j hb=>by
 unfold tS at hb;obtain⟨_,i1,_,hb⟩:=lC hb;obtain⟨⟨l2,q2⟩,i2,h2,hb⟩:=lC hb;obtain⟨_,i3,_,hb⟩:=lC hb;simp only[Except.ok.injEq,mV]at hb;have:=h _ _ _ _ _ h2;obtain⟨⟨rfl,rfl⟩,rfl⟩:=hb;exact this
theorem K0(hL:∀ x∈L,qE x):∀n,QB n (qV L e n)
 |0=>λq=>Ho hL (n:=0) (deep:=true) (λh=>by cases h) (q+1) q
 |n+1=>λq=>Ho hL (n:=n+1) (deep:=false) (λ_=>⟨oo,cz (K0 hL n)⟩) (q+1) q
theorem Pz:∀(d i:Nat)(l:List ByteArray)(j:Nat),wK L e d i=.ok (l,j)->l.length<=d/\∀x∈l,cK x=true
 | 0,i,l,j,h=>by
   unfold wK at h;split at h<;>cases h
 | d+1,i,l,j,h=>by
   unfold wK at h;obtain⟨s,i1,h1,h⟩:=lC h;have hs:=(He h1).1;split at h
   ·obtain⟨l2,i2,h2,h⟩:=lC h;simp only[Except.ok.injEq,mV]at h;obtain⟨rfl,rfl⟩:=h;have ih:=Pz d _ _ _ h2;refine⟨by rw[dA];omega,λx hx=>?_⟩;rcases bF.1 hx with rfl|hx
    ·exact hs
    exact ih.2 x hx
   obtain⟨_,i2,_,h⟩:=lC h;simp only[Except.ok.injEq,mV]at h;obtain⟨rfl,rfl⟩:=h;exact⟨ss,λx hx=>by rw[oY.1 hx];exact hs⟩
def R6{w:ByteArray}{i:Nat}{l:List ByteArray}{j:Nat}(h:BV L e w i=.ok (l,j)):l.length<=6/\∀x∈l,cK x=true:=by
 unfold BV at h;obtain⟨_,_,_,h⟩:=lC h;split at h
 ·simp only[Except.ok.injEq,mV]at h;rw[<-h.1];exact⟨ss,λx hx=>by cases hx⟩
 exact Pz _ _ _ _ h
theorem U2(hL:∀ x∈L,qE x):∀(d i:Nat)(l:List aQ)(j:Nat),rX L e d i=.ok (l,j)->l.length<=d/\∀x∈l,cK x.name=true/\(∀y∈x.body,SH 6 y)/\cM x.body<=60
 | 0,i,l,j,h=>by
   unfold rX at h;split at h
   ·simp only[Except.ok.injEq,mV]at h;rw[<-h.1];exact⟨ss,λx hx=>by cases hx⟩
   split at h<;>cases h
 | d+1,i,l,j,h=>by
   unfold rX at h;split at h
   ·simp only[Except.ok.injEq,mV]at h;rw[<-h.1];exact⟨ss,λx hx=>by cases hx⟩
   obtain⟨_,i1,_,h⟩:=lC h;obtain⟨s,i2,h2,h⟩:=lC h;obtain⟨⟨b,q⟩,i3,h3,h⟩:=lC h;obtain⟨l4,i4,h4,h⟩:=lC h;simp only[Except.ok.injEq,mV]at h;obtain⟨rfl,rfl⟩:=h;have ih:=U2 hL d _ _ _ h4;have hb:=cz (K0 hL 6) _ _ _ _ _ h3;refine⟨by rw[dA];omega,λx hx=>?_⟩;rcases bF.1 hx with rfl|hx
   ·exact⟨(He h2).1,hb.1,by have:=hb.2;simp only;omega⟩
   exact ih.2 x hx
def kj(hL:∀ x∈L,qE x){p:aY}{j:Nat}(h:xR L e=.ok (p,j)):vD p:=by
 unfold xR at h;obtain⟨_,_,h1,h⟩:=lC h;obtain⟨_,_,h2,h⟩:=lC h;obtain⟨_,_,h3,h⟩:=lC h;simp only[Except.ok.injEq,mV]at h;obtain⟨rfl,rfl⟩:=h;have hp:=U2 hL _ _ _ _ h3;refine⟨R6 h1,R6 h2,⟨hp.1,λx hx=>?_⟩,λx hx=>(hp.2 x hx).2⟩;obtain⟨y,hy,rfl⟩:=sT.1 hx;exact(hp.2 y hy).1
end
end Go.Proofs.YtcaakhmhlfgogaaGreatDoor
