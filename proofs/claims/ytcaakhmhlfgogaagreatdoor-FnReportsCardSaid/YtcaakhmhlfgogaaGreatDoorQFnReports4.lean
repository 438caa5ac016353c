/-
  Parts of the proof, put together by program.
-/
import Derived.Test.YtcaakhmhlfgogaaGreatDoorQFnReports3
set_option linter.defProp false
set_option linter.unusedVariables false
set_option maxRecDepth 100000
set_option linter.unusedSimpArgs false
set_option linter.unusedSectionVars false
open Go renaming Value→vL,World→wD,Program→pG
namespace Go.Proofs.YtcaakhmhlfgogaaGreatDoor
open Go Go.Sh Go.Proofs
open Rep (rep)
variable {K:vL->Prop}{P:pG}{W0 w:wD}{i k:Nat}{s:ByteArray}{t:TypeId}
def zFw{x y:Operand}{a b:Nat}(h:b<=a)(ha:a<256)(k:K (.int .u8 ((a-b:Nat):Int))):RD P (bin .sub t x y (.int .u8 (a:Int)) (.int .u8 (b:Int))) w K:=by
 refine dY (λ_ _=>?_) k
 have e:IntKind.u8.wrap ((a:Int)-(b:Int))=((a-b:Nat):Int):=by
   simp[IntKind.wrap,IntKind.signed,IntKind.bits];omega
 simp[bin,eqGuard,binOp,Op.intArith,e]
def nq(h:10<s.size):qT s=none:=by unfold qT;rw[aH oo]
def bv(hk:k<s.size)(h:¬((48:Int)<=(((aW s)[k]'(by rw[dO];exact hk)).toNat:Int)/\(((aW s)[k]'(by rw[dO];exact hk)).toNat:Int)<=57)):qT s=none:=by
 have:(aW s).all nK=false:=by
   rw[Ly];exact⟨_,cY (by rw[dO];exact hk),by simp only[nK,h,eT];decide⟩
 unfold qT;rw[aH (by rw[this];simp)]
def zHl:mO 0=ByteArray.mk #[48]:=by
 unfold mO Lib.itoa;rw[aH oo,show(0:Int).toNat=0 from rfl,TL oo];rfl
def zwr(h:s.size=0):qT s=none:=by
 have hb:aW s=[]:=qC (by rw[dO];exact h);unfold qT;rw[aH (λhh=>?_)];have h4:=hh.2.2.2;rw[hb,show sE []=0 from rfl,zHl]at h4;rw[<-h4]at h;cases h
def eg(ha:(aW s).all nK=true)(hs:s.size<=10):qT s=if sE (aW s)<=1000000000/\mO (sE (aW s))=s then some (sE (aW s))else none:=by
 unfold qT;simp only[ha,hs,true_and]
def og(hk:k<s.size)(ha:((aW s).take k).all nK=true)(h:(48:Int)<=(((aW s)[k]'(by rw[dO];exact hk)).toNat:Int)/\(((aW s)[k]'(by rw[dO];exact hk)).toNat:Int)<=57) :
   ((aW s).take (k+1)).all nK=true/\sE ((aW s).take (k+1))=sE ((aW s).take k)*10+((((aW s)[k]'(by rw[dO];exact hk)).toNat:Int)-48):=by
 rw[tk (by rw[dO];exact hk)];refine⟨?_,Jv _ _⟩;rw[By,ha];simp[nK,h]
def se(hk:k<=s.size)(hs:s.size<=10)(ha:((aW s).take k).all nK=true):0<=sE ((aW s).take k)/\sE ((aW s).take k)<10000000000:=by
 have h:=Gk k ((aW s).take k) (by rw[fY,dO];omega) ha;have e:(10:Int)^k=((10^k:Nat):Int):=by rw[Int.natCast_pow];rfl
 have:10^k<=10000000000:=tX (n:=10) dD (show k<=10 by omega);rw[e]at h;generalize 10^k=q at *;omega
def xv(b:UInt8):b.toNat<256:=b.toNat_lt
def A7(hT:oF W0)(e0:aB W0 w) :
   aJ tp 253 [.string s] w λr w'=>aB w w'/\r=.tuple #[iV ((qT s).getD 0),.bool (qT s).isSome]:=by
 refine co (g:=kf [] [(5,274877890620,[4,5])] []) Tryz.func253 ?_;have C:∀{w':wD},aB w w'->qT s=none->aB w w'/\Value.tuple #[iV 0,.bool false]=.tuple #[iV ((qT s).getD 0),.bool (qT s).isSome]:=λh1 h2=>⟨h1,by rw[h2];rfl⟩;refine xA u9<|bI<|br (λh0=>C xx (zwr oo)) λh0=>?_;refine xA u9<|oN<|br (λh1=>C xx (nq oo)) λh1=>?_;have g0:s.size<=10:=oo;refine bV s.size (λk us w'=>us=[iV (sE ((aW s).take k)),iV k]/\w'=w/\k<=s.size/\((aW s).take k).all nK=true) 0 (z0 _) ⟨rfl,rfl,z0 _,ss⟩ ?_;rintro k m _ _ _ ⟨hu,rfl,g5,g1⟩;obtain⟨g9,gb⟩:=dQ hu;rw[g9,gb];have hb:=se g5 g0 g1;refine xA u9<|bM<|br (λ_=>?_) λ_=>?_
 ·have hk:k<s.size:=oo;have g2:=xv ((aW s)[k]'(by rw[dO];exact hk));refine uG u9 hk<|bM<|br (λhq=>C xx (bv hk oo)) λhq=>?_;refine uG u9 hk<|oN<|br (λD=>C xx (bv hk oo)) λD=>?_;have g3:=og hk g1 oo;refine UP io<|uG u9 hk<|zFw (b:=48) oo g2<|Ox kK u3 oo<|rQ io<|aU<|⟨m-1,oo,k+1,oo,?_,rfl,oo,g3.1⟩;rw[g3.2];simp only[zI,Value.int.injEq,true_and,and_true];omega
 have hk:s.size<=k:=oo;rw[iO (by rw[dO];exact hk)]at g1 hb ⊢;have hR:=eg g1 g0;refine oN<|br (λhq=>C xx (by rw[hR,aH oo])) λhq=>(MD hT e0 io).mM λ_ g4=>GK<|br (λD=>C g4 (by rw[hR,aH λh=>D h.2])) (λD=>⟨g4,?_⟩);rw[hR,aP ⟨oo,eK.1 D⟩];rfl
def Ei(x:aT):Int×ByteArray:=(x.kind,x.text)
abbrev lX:=List (Int×ByteArray)
def bJ(l:List UInt8)(ts:lX):Prop:=∀(s:ByteArray)(n i:Nat)(acc:List aT),(aW s).drop i=l->i<=s.size->s.size<n+i->∃L,pH s n i acc=(acc++L,⟨0,0⟩)/\L.map Ei=ts
def Db{b:UInt8}{l:List UInt8}(h:(aW s).drop i=b :: l):i<s.size/\(aW s)[i]?=some b/\(aW s).drop (i+1)=l:=by
 have h1:(aW s)[i]?=some b:=by rw[<-List.head?_drop,h];rfl
 refine⟨?_,h1,?_⟩
 ·have:=(List.getElem?_eq_some_iff.1 h1).1;rw[dO]at this;exact this
 rw[<-Fg,h];rfl
theorem bJ.nil:bJ [] []:=λs n i acc h hi hn=>by
 have h:=List.drop_eq_nil_iff.1 h;rw[dO]at h;cases n with
 |zero=>exact⟨[],by rw[pH,oJ],rfl⟩
 |succ n=>exact⟨[],by rw[pH,aH oo,oJ],rfl⟩
section
variable {l:List UInt8}{ts:lX}
def bJ.blank{b:UInt8}(hb:b=32\/b=10)(h:bJ l ts):bJ (b :: l) ts:=λs n i acc hd _ _=>by
 obtain⟨h1,h2,h3⟩:=Db hd;obtain⟨m,rfl⟩:∃m,n=m+1:=⟨n-1,oo⟩;have hk:CN s i:=by unfold CN tW;rw[h2];rcases hb with rfl|rfl<;>decide
 rw[pH,aP h1,aP hk];exact h s m (i+1) acc h3 oo oo
theorem bJ.blanks:∀(k:Nat),bJ l ts->bJ (List.replicate k 32++l) ts
 |0,h=>h
 |k+1,h=>(bJ.blanks k h).blank (.inl rfl)
def bJ.sign{t:ByteArray}{k:Int}(ht:1<=t.size)(h:bJ l ts)(hs:∀ (s:ByteArray) (i:Nat),i<=s.size->(aW s).drop i=aW t++l->iM s i=(true,⟨k,t,i⟩)/\¬CN s i):bJ (aW t++l) ((k,t) :: ts):=λs n i acc hd hi _=>by
 obtain⟨h1,h2⟩:=hs s i hi hd;have hlen:=cS List.length hd;rw[wL,bX,dO,dO]at hlen;obtain⟨m,rfl⟩:∃m,n=m+1:=⟨n-1,oo⟩;rw[pH,aP oo,aH h2,h1,aP rfl];have hd2:(aW s).drop (i+t.size)=l:=by rw[<-Fg,hd,List.drop_left' (dO t)]
 obtain⟨L,e1,e2⟩:=h s m (i+t.size) (acc++[⟨k,t,i⟩]) hd2 oo oo;exact⟨⟨k,t,i⟩ :: L,by simp only;rw[e1,fR];rfl,by rw[FI,e2];rfl⟩
end
def OU(b:UInt8):Bool:=qU b || nK b
def IX(l:List UInt8):Prop:=l.head?.any OU=false
def xJ.uniq{i a b:Nat}(h:xJ s i a)(k:xJ s i b):a=b:=by
 rcases XB a b with h1|h1|h1
 ·have:=k.all a h.le h1;rw[h.stop (by have:=k.lt;omega)]at this;cases this
 ·exact h1
 have:=h.all b k.le h1;rw[k.stop (by have:=h.lt;omega)]at this;cases this
def ZG{m:List UInt8}(h:(aW s).drop i=m)(k:Nat):(aW s)[i+k]?=m[k]?:=by rw[<-h,List.getElem?_drop]
def Yg{t:ByteArray}{l:List UInt8}(hi:i<=s.size)(hd:(aW s).drop i=aW t++l)(ha:(aW t).all OU=true)(g1:IX l):rD s i=i+t.size/\s.extract i (i+t.size)=t:=by
 have g0:=cS List.length hd;rw[wL,bX,dO,dO]at g0;constructor
 ·refine(Bm (s:=s) (i:=i) hi).uniq ⟨oo,oo,λk h1 _=>?_,λh1=>?_⟩
  ·have hc:=ZG hd (k-i);rw[show i+(k-i)=k by omega,List.getElem?_append_left (by rw[dO];omega)]at hc;unfold pM sA;rw[hc,List.getElem?_eq_getElem (by rw[dO];omega)];exact nG.1 ha _ (cY _)
  have hc:=ZG hd t.size;rw[List.getElem?_append_right (by rw[dO];exact iD _),dO,Hh]at hc;unfold pM sA;rw[hc];unfold IX at g1;cases l with
  |nil=>rfl
  |cons b l=>exact g1
 apply MZ;rw[SQ,SI,hd,show i+t.size-i=(aW t).length by rw[dO];omega,SF rfl]
section
variable {l:List UInt8}{ts:lX}
def bJ.word{t:ByteArray}(hw:tB t=true)(g2:IX l)(h:bJ l ts):bJ (aW t++l) ((1,t) :: ts):=by
 unfold tB at hw;simp only[iA,lZ]at hw;obtain⟨⟨_,hh⟩,ha⟩:=hw
 have hc:∃b m,aW t=b :: m/\qU b=true:=by
   cases e:aW t with
   |nil=>rw[e]at hh;cases hh
   |cons b m=>rw[e]at hh;exact⟨b,m,rfl,hh⟩
 obtain⟨b,m,hb,g0⟩:=hc;have h1:1<=t.size:=by rw[<-dO,hb];simp
 refine bJ.sign h1 h λs i hi hd=>?_;obtain⟨e1,e2⟩:=Yg hi hd ha g2;have g1:(aW s)[i]?=some b:=by have:=ZG hd 0;rw[JY,hb]at this;exact this
 have hl:pM s i=true:=by unfold pM;rw[g1];exact g0
 constructor
 ·unfold iM;rw[aP hl,e1,e2,decide_eq_true oo]
 unfold CN tW;rw[g1];unfold qU at g0;have:=of_decide_eq_true g0;simp only;omega
def bJ.num{t:ByteArray}{v:Int}(hw:qT t=some v)(h0:1<=t.size)(g2:IX l)(h:bJ l ts):bJ (aW t++l) ((2,t) :: ts):=by
 have ha:(aW t).all nK=true:=by
   unfold qT at hw;split at hw
   ·rename_i hh;exact hh.1
   cases hw
 have hc:∃b m,aW t=b :: m/\nK b=true:=by
   cases e:aW t with
   |nil=>rw[<-dO,e]at h0;simp at h0
   |cons b m=>rw[e,XX,iA]at ha;exact⟨b,m,rfl,ha.1⟩
 obtain⟨b,m,hb,g0⟩:=hc;refine bJ.sign h0 h λs i hi hd=>?_;obtain⟨e1,e2⟩:=Yg hi hd (nG.2 λx hx=>by unfold OU;rw[nG.1 ha x hx,Bool.or_true]) g2;have g1:(aW s)[i]?=some b:=by have:=ZG hd 0;rw[JY,hb]at this;exact this
 have hf:sA s i=true:=by unfold sA;rw[g1];exact g0
 unfold nK at g0;have hbb:=of_decide_eq_true g0
 have hl:¬pM s i=true:=by
   unfold pM;rw[g1];unfold qU;intro hh;have:=of_decide_eq_true hh;omega
 constructor
 ·unfold iM;rw[aH hl,aP hf,e1,e2,hw];rfl
 unfold CN tW;rw[g1];simp only;omega
def bJ.mark{b:UInt8}(hm:ByteArray.mk #[b]∈mS)(hn:b≠61\/l.head?≠some 61)(h:bJ l ts):bJ (b :: l) ((3,ByteArray.mk #[b]) :: ts):=by
 have hb:OU b=false/\b≠32/\b≠9/\b≠10/\b≠13:=by
   have g4:∀t∈mS,∀c,aW t=[c]->OU c=false/\c≠32/\c≠9/\c≠10/\c≠13:=by
     intro t ht c hc;simp only[mS,bF,dL,dI]at ht;rcases ht with rfl|rfl|rfl|rfl|rfl|rfl|rfl|rfl|rfl|rfl|rfl|rfl<;>first|(simp only[aW,zI,and_true]at hc;subst hc;decide)|(simp[aW]at hc)
   exact g4 _ hm b rfl
 refine bJ.sign (t:=ByteArray.mk #[b]) (iD 1) h λs i _ hd=>?_;have g0:(aW s).drop i=b :: l:=hd;obtain⟨_,h2,_⟩:=Db g0;obtain⟨hw,g1,g5,g2,g3⟩:=hb;unfold OU at hw;have hw:=Bool.or_eq_false_iff.1 hw;constructor
 ·unfold iM;rw[aH (by unfold pM;rw[h2];simp[hw.1]),aH (by unfold sA;rw[h2];simp[hw.2])]
  have g9:¬(i+2<=s.size/\s.extract i (i+2)=ByteArray.mk #[61,61]):=by
    rintro⟨_,he⟩;have he:=cS aW he;rw[SQ,SI,g0,show i+2-i=2 by omega]at he;have e2:aW (ByteArray.mk #[61,61])=[61,61]:=rfl;rw[e2]at he;cases l with
    |nil=>simp at he
    | cons c l'=>
      simp only[Oz,LA,zI,and_true]at he;rcases hn with hn|hn
      ·exact hn he.1
      exact hn (by rw[he.2];rfl)
  have gb:s.extract i (i+1)=ByteArray.mk #[b]:=by
    apply MZ;rw[SQ,SI,g0,show i+1-i=1 by omega];rfl
  rw[aH g9,gb,decide_eq_true hm]
 unfold CN tW;rw[h2];have u:∀x y:UInt8,x≠y->¬((x.toNat:Int)=(y.toNat:Int)):=λx y hx _=>hx (UInt8.toNat_inj.1 oo);have u1:=u b 32 g1;have u2:=u b 9 g5;have u3:=u b 10 g2;have u4:=u b 13 g3;simp only[UInt8.reduceToNat]at u1 u2 u3 u4;simp only;omega
def bJ.eq2(h:bJ l ts):bJ (61 :: 61 :: l) ((3,ByteArray.mk #[61,61]) :: ts):=by
 refine bJ.sign (t:=ByteArray.mk #[61,61]) dD h λs i _ hd=>?_;have g0:(aW s).drop i=61 :: 61 :: l:=hd;obtain⟨_,h2,h3⟩:=Db g0;obtain⟨_,_,_⟩:=Db h3
 have g1:s.extract i (i+2)=ByteArray.mk #[61,61]:=by
   apply MZ;rw[SQ,SI,g0,show i+2-i=2 by omega];rfl
 constructor
 ·unfold iM;rw[aH (by unfold pM;rw[h2];decide),aH (by unfold sA;rw[h2];decide),aP ⟨oo,g1⟩,g1]
 unfold CN tW;rw[h2];decide
end
theorem C2:∀u:Nat,sE (Lib.decDigits u)=(u:Int)/\(Lib.decDigits u).all nK=true/\1<=(Lib.decDigits u).length:=by
 intro u
 induction u using Nat.strongRecOn with
 | _ u ih=>
   have hd:∀d,d<10->((UInt8.ofNat (48+d)).toNat:Int)-48=(d:Int)/\nK (UInt8.ofNat (48+d))=true:=λd hd=>by
     have e:(UInt8.ofNat (48+d)).toNat=48+d:=by rw[UInt8.toNat_ofNat'];omega
     refine⟨by rw[e];omega,?_⟩;unfold nK;rw[e];exact decide_eq_true oo
   by_cases h:u<10
   ·rw[TL h];obtain⟨h1,h2⟩:=hd u h;refine⟨?_,by rw[XX,h2];rfl,ss⟩;show 0*10+_=_;rw[h1];omega
   obtain⟨i1,i2,_⟩:=ih (u / 10) oo;obtain⟨h1,h2⟩:=hd (u%10) oo;rw[Gj h];refine⟨?_,by rw[By,i2,XX,h2];rfl,by rw[bX];omega⟩;rw[Jv,i1,h1];omega
def QK{n:Int}(h0:0<=n)(h1:n<=1000000000):qT (mO n)=some n/\sE (aW (mO n))=n/\1<=(mO n).size:=by
 have e:aW (mO n)=Lib.decDigits n.toNat:=by
   show(Lib.itoa n).toArray.toList=_;unfold Lib.itoa;rw[aH oo]
 obtain⟨a1,a2,_⟩:=C2 n.toNat;have:(mO n).size=(Lib.decDigits n.toNat).length:=by rw[<-dO,e]
 have hv:sE (aW (mO n))=n:=by rw[e,a1];omega
 refine⟨?_,hv,oo⟩;unfold qT;rw[hv,aP ⟨by rw[e];exact a2,by have:=Kh 9 n.toNat oo;omega,h1,rfl⟩]
section
variable {w:wD}{lo hi l0 h0 l1 h1:Nat}{K:vL->Prop}
def HZ{α:Type}[Rep α]{v:vL}{l:List α}(h:aK lo hi w v l):∃a cap,v=.slice a l.length cap:=by
 obtain⟨_,⟨⟨_,⟨a,cap,_,_,rfl,_⟩,hv⟩,_⟩,_⟩:=h;exact⟨a,cap,by simpa[fF,Rep.agg]using hv⟩
def pB{α:Type}[Rep α]:aK (α:=List α) lo hi w (.slice none 0 0) []:=Ik none
def pJ:bR 0:=by unfold bR;omega
def wS:nO.size<=maxLen:=by decide
def ls{a b:Int}(ha:bR a)(hb:bR b)(k:∀ v,aK lo hi w v (aD.mk a b nO [])->K v):RD tp (Instr.build 67 #[(0,iV a),(1,iV b)]) w K:=
 fI (cells:=#[iV a,iV b,.string nO,.slice none 0 0]) kK (k _ (FT ha hb wS pB))
def pq{a:Int}{s:ByteArray}(ha:bR a)(hs:s.size<=maxLen)(k:∀ v,aK lo hi w v (aD.mk a 0 s [])->K v):RD tp (Instr.build 67 #[(0,iV a),(2,.string s)]) w K:=
 fI (cells:=#[iV a,iV 0,.string s,.slice none 0 0]) kK (k _ (FT ha pJ hs pB))
def Pu{a:Int}{u:vL}{l:List aD}(ha:bR a)(hu:aK lo hi w u l)(k:∀ v,aK lo hi w v (aD.mk a 0 nO l)->K v):RD tp (Instr.build 67 #[(0,iV a),(3,u)]) w K:=by
 obtain⟨p,q,rfl⟩:=HZ hu;exact fI (cells:=#[iV a,iV 0,.string nO,.slice p l.length q]) kK (k _ (FT ha pJ wS hu))
def EJ:aK lo hi w (.agg #[iV 0,iV 0,.string nO,.slice none 0 0]) bA:=FT pJ pJ wS pB
def QH{k:Int}{s:ByteArray}{t:aD}{c0 c1 c2 c3 vb ve:vL}{bs es:List aA}{l0 h0 l1 h1 l2 h2:Nat}(hk:bR k)(hs:s.size<=maxLen)(ht:aK l0 h0 w (.agg #[c0,c1,c2,c3]) t)(hb:aK l1 h1 w vb bs)(he:aK l2 h2 w ve es)
   (d01:h0<=l1\/h1<=l0) (d02:h0<=l2\/h2<=l0) (d12:h1<=l2\/h2<=l1) (b0:lo<=l0/\h0<=hi) (b1:lo<=l1/\h1<=hi) (b2:lo<=l2/\h2<=hi) :
   aK lo hi w (.agg #[iV k,.string s,c0,c1,c2,c3,vb,ve]) (aA.mk k s t bs es):=zj hk hs ht hb he d01 d02 d12 b0 b1 b2
def cd{a:Int}(hl:lo<=hi)(ha:bR a)(k:∀ v,aK lo hi w v (aA.mk a nO bA [] [])->K v):RD tp (Instr.build 117 #[(0,iV a)]) w K:=
 fI (cells:=#[iV a,.string nO,iV 0,iV 0,.string nO,.slice none 0 0,.slice none 0 0,.slice none 0 0]) kK
   (k _ (QH (l0:=lo) (h0:=lo) (l1:=lo) (h1:=lo) (l2:=lo) (h2:=lo) ha wS EJ pB pB oo oo oo oo oo oo))
def MG{a:Int}{s:ByteArray}(hl:lo<=hi)(ha:bR a)(hs:s.size<=maxLen)(k:∀ v,aK lo hi w v (aA.mk a s bA [] [])->K v):RD tp (Instr.build 117 #[(0,iV a),(1,.string s)]) w K:=
 fI (cells:=#[iV a,.string s,iV 0,iV 0,.string nO,.slice none 0 0,.slice none 0 0,.slice none 0 0]) kK
   (k _ (QH (l0:=lo) (h0:=lo) (l1:=lo) (h1:=lo) (l2:=lo) (h2:=lo) ha hs EJ pB pB oo oo oo oo oo oo))
def zru{a:Int}{s:ByteArray}{u:vL}{t:aD}(hl:lo<=hi)(ha:bR a)(hs:s.size<=maxLen)(hu:aK lo hi w u t)(k:∀ v,aK lo hi w v (aA.mk a s t [] [])->K v):RD tp (Instr.build 117 #[(0,iV a),(1,.string s),(2,u)]) w K:=by
 obtain⟨p,q,rfl⟩:=RQ hu.is
 exact fI (cells:=#[iV a,.string s,iV t.kind,iV t.num,.string t.name,.slice p t.kids.length q,.slice none 0 0,.slice none 0 0]) kK
   (k _ (QH (l1:=lo) (h1:=lo) (l2:=lo) (h2:=lo) ha hs hu pB pB oo oo oo oo oo oo))
def T9{a:Int}{u v1:vL}{t:aD}{bs:List aA}(ha:bR a)(hu:aK l0 h0 w u t)(hv:aK l1 h1 w v1 bs)(d:h0<=l1\/h1<=l0)(b0:lo<=l0/\h0<=hi)(b1:lo<=l1/\h1<=hi)(hl:lo<=hi)
   (k:∀v,aK lo hi w v (aA.mk a nO t bs [])->K v):RD tp (Instr.build 117 #[(0,iV a),(2,u),(3,v1)]) w K:=by
 obtain⟨p,q,rfl⟩:=RQ hu.is;obtain⟨p2,q2,rfl⟩:=HZ hv;refine fI (cells:=#[iV a,.string nO,iV t.kind,iV t.num,.string t.name,.slice p t.kids.length q,.slice p2 bs.length q2,.slice none 0 0]) kK (k _ ?_);rcases d with d|d
 ·exact QH (l2:=min lo l0) (h2:=min lo l0) ha wS hu hv pB (.inl d) oo oo b0 b1 oo
 exact QH (l2:=min lo l0) (h2:=min lo l0) ha wS hu hv pB (.inr d) oo oo b0 b1 oo
end
end Go.Proofs.YtcaakhmhlfgogaaGreatDoor
namespace Go.Sh
open Rep (rep)
section
variable {P:pG}{w:wD}{α:Type}[Rep α]{e:Nat}
theorem DR{w:wD}:∀{l:List ByteArray},(∀x∈l,x.size<=maxLen)->aO [] w (l.map Value.string) l
 |[],_=>⟨rfl,rfl⟩
 |x :: l,h=>⟨[],[],[.string x],l.map Value.string,rfl,rfl,⟨rfl,rfl,h x ss⟩,DR λy hy=>h y (by simp[hy])⟩
theorem Bb{w:wD}:∀{l:List Int},(∀x∈l,bR x)->aO [] w (l.map (Value.int .i64)) l
 |[],_=>⟨rfl,rfl⟩
 |x :: l,h=>⟨[],[],[iV x],l.map (Value.int .i64),rfl,rfl,⟨rfl,rfl,h x ss⟩,Bb λy hy=>h y (by simp[hy])⟩
theorem zP{t:TypeId}{by_ n:Nat}{z:vL}{vs:List vL}{parts:Array (Nat×vL)}{l:List α}{K:vL->wD->Prop}(ht:P.underlying t=some (.slice e))(he:cT P e=some (1,by_,false))(hz:kO P e=some [z])
   (hn:0<n/\n<=1000) (hf:Instr.fill (λi=>some (i*1,1)) ((Array.range (n*1)).map λi=>(#[z])[i%1]!) parts.toList=some vs.toArray) (hl:l.length=n) (hc:∀w,aO [] w vs l)
   (k:∀v w',aB w w'->aK w.heap.size w'.heap.size w' v l->K v w'):OP P (Instr.buildSlice t n parts) w K:=by
 unfold kO at hz;cases hi:P.info? e with
 |none=>simp[hi]at hz
 | some i=>
   simp only[hi]at hz;obtain⟨v,hv,g2⟩:=CB.1 hz;have g0:v.cells=#[z]:=GA (by simpa using g2);have hB:cA w.heap.size e (w.alloc (.cells vs.toArray e)) vs:=heap_alloc_new w _;have g1:w.heap.size<(w.alloc (.cells vs.toArray e)).heap.size:=hB.lt;refine⟨.slice (some ⟨w.heap.size,0,none⟩) n n,w.alloc (.cells vs.toArray e),?_,k _ _ (oK w _) ⟨[w.heap.size],⟨⟨_,⟨some ⟨w.heap.size,0,none⟩,n,[],vs,rfl,oo,by rw[eB];omega,hc _,.inr ⟨_,_,rfl,rfl,hB.range,g1⟩⟩,by rw[hl];rfl⟩,ss,λb hb=>?_⟩,λb hb=>?_⟩⟩
   ·have g3:¬n*1=0:=oo;have g4:¬2^24<n*1:=oo;have g5:(zeroValue e).run P w=.ok v w:=by simp[zeroValue,typeInfo,hi,hv]
    simp only[Instr.buildSlice,Sem.run_bind,run_underlying ht,Result.andThen_ok,qX he];simp only[g4,g3,if_false,Sem.run_bind,Sem.run_pure,Result.andThen_ok,g5,g0];rw[show(λx=>(#[z]:Array vL)[x%(#[z]:Array vL).size]!)=λi=>(#[z]:Array vL)[i%1]! from rfl,hf];rfl
   ·simp only[bF,dL,dI]at hb;subst hb;exact⟨_,_,hB⟩
   simp only[bF,dL,dI]at hb;subst hb;exact⟨iD _,g1⟩
def mo(u v:vL)(cells:Array vL)(s:Nat)(hu:u.cells.size=s)(hv:v.cells.size=s)(hc:cells.size=2*s) :
   Instr.fill (λi=>some (i*s,s)) cells [(0,u),(1,v)]=some (u.cells++v.cells):=by
 have g0:∀(x:vL)(off:Nat)(cs:Array vL),x.cells.zipIdx.foldl (λ(cs:Array vL)(p:vL×Nat)=>match p with|(c,j)=>cs.setIfInBounds (off+j) c) cs
     = (x.cells.toList.zipIdx 0).foldl (λ(cs:Array vL)(p:vL×Nat)=>cs.setIfInBounds (off+p.2) p.1) cs:=by
   intro x off cs;rw[<-Array.foldl_toList,Array.toList_zipIdx]
 unfold Instr.fill;simp only[Nat.zero_mul];rw[aH so];rw[g0];obtain⟨_,h2⟩:=Fh 0 u.cells.toList 0 cells;generalize (u.cells.toList.zipIdx 0).foldl (λ(cs:Array vL)(p:vL×Nat)=>cs.setIfInBounds (0+p.2) p.1) cells=c1 at *;unfold Instr.fill;simp only[GL];rw[aH so];unfold Instr.fill;rw[g0];obtain⟨_,h4⟩:=Fh s v.cells.toList 0 c1;generalize (v.cells.toList.zipIdx 0).foldl (λ(cs:Array vL)(p:vL×Nat)=>cs.setIfInBounds (s+p.2) p.1) c1=c2 at *;congr 1;apply Array.ext_getElem?;intro i;rw[h4,h2,Array.getElem?_append];simp only[sM,JY,vO,Array.getElem?_toList,Nat.sub_zero];by_cases hi:i<s
 ·rw[aH oo,aP oo,aP oo]
 by_cases hi2:i<2*s
 ·rw[aP oo,aH oo,hu]
 rw[aH oo,aH oo,aH oo,Array.getElem?_eq_none oo,Array.getElem?_eq_none oo]
def bj{t:TypeId}{by_:Nat}{u v:vL}{x y:α}{lo l0 h0 l1 h1:Nat}{K:vL->wD->Prop}(ht:P.underlying t=some (.slice e))(he:cT P e=some (Rep.size α,by_,Rep.agg α))(hz:nN P e=true)(hsz:Rep.size α<=1000)
   (hx:aK l0 h0 w u x) (hy:aK l1 h1 w v y) (hd:h0<=l1\/h1<=l0) (hl:lo<=l0/\lo<=l1/\lo<=w.heap.size)
   (k:∀v' w',aB w w'->aK lo w'.heap.size w' v' [x,y]->K v' w'):OP P (Instr.buildSlice t 2 #[(0,u),(1,v)]) w K:=by
 obtain⟨F,⟨⟨cs,hr,rfl⟩,hn,hw⟩,hF⟩:=hx;obtain⟨G,⟨⟨ds,g2,rfl⟩,gf,gg⟩,hG⟩:=hy;have g3:=Rep.len hr;have g0:=Rep.len g2;have g5:=NN hr;have g1:=NN g2;have gh:(fF α cs).cells.size=Rep.size α:=by rw[<-sM,g5,g3]
 have g4:(fF α ds).cells.size=Rep.size α:=by rw[<-sM,g1,g0]
 obtain⟨_,_,hi,_,_,_,_⟩:=xO he;unfold nN at hz;rw[hi]at hz;obtain⟨z,hz⟩:=RZ.1 hz;have:=Rep.pos (α:=α);have C:=oK w (.cells ((fF α cs).cells++(fF α ds).cells) e);have hB:(w.alloc (.cells ((fF α cs).cells++(fF α ds).cells) e)).heap[w.heap.size]?=some (.cells ((fF α cs).cells++(fF α ds).cells) e (0,0)):=heap_alloc_new w _
 have g9:cA w.heap.size e (w.alloc (.cells ((fF α cs).cells++(fF α ds).cells) e)) (cs++ds):=by
   unfold cA;rw[hB];congr 2;apply GA;simp[g5,g1]
 have gb:=g9.lt;have gc:=Rep.lt hr;have gd:=Rep.lt g2;refine⟨.slice (some ⟨w.heap.size,0,none⟩) 2 2,_,?_,k _ _ C ⟨w.heap.size :: (F++G),⟨⟨_,⟨some ⟨w.heap.size,0,none⟩,2,F++G,cs++ds,rfl,lr _,by rw[eB];omega,⟨F,G,cs,ds,rfl,rfl,rH hr C,aO.single (rH g2 C)⟩,.inr ⟨_,_,rfl,rfl,g9.range,gb⟩⟩,rfl⟩,?_,?_⟩,?_⟩⟩
 ·have gi:¬2*Rep.size α=0:=oo;have gj:¬2^24<2*Rep.size α:=oo;have gl:(zeroValue e).run P w=.ok z w:=by simp[zeroValue,typeInfo,hi,hz]
  simp only[Instr.buildSlice,Sem.run_bind,run_underlying ht,Result.andThen_ok,qX he];simp only[gj,gi,if_false,Sem.run_bind,Sem.run_pure,Result.andThen_ok,gl];rw[mo _ _ _ _ gh g4 ss];rfl
 ·rw[tZ,oE];refine⟨λhm=>?_,hn,gf,λp hp _ hq e=>?_⟩
  ·rcases dF.1 hm with hm|hm
   ·exact Nat.lt_irrefl _ (gc _ hm)
   exact Nat.lt_irrefl _ (gd _ hm)
  subst e;have:=hF p hp;have:=hG p hq;omega
 ·intro b hb;rcases bF.1 hb with rfl|hb
  ·exact⟨_,_,hB⟩
  rcases dF.1 hb with hb|hb
  ·exact(hw.ext C) b hb
  exact(gg.ext C) b hb
 intro b hb;rcases bF.1 hb with rfl|hb
 ·exact⟨hl.2.2,gb⟩
 rcases dF.1 hb with hb|hb
 ·have:=hF b hb;have:=gc b hb;omega
 have:=hG b hb;have:=gd b hb;omega
def Ph{t ty:TypeId}{by_:Nat}{v gb:vL}{l m:List α}{lo0 lo hi l1 h1:Nat}{K:vL->wD->Prop}(ht:P.underlying t=some (.slice e))(he:cT P e=some (Rep.size α,by_,Rep.agg α))
   (g5:(P.info? e).map (λi=>(i.zero.map (·.cells.size)))=some (some (Rep.size α))) (hv:bQ lo hi e w v l) (hlo:lo<=w.heap.size) (hs:aK l1 h1 w gb m) (hd:hi<=l1\/h1<=lo) (h0:lo0<=lo) (hl:lo0<=l1) (hm:l.length+m.length<=maxLen) (hb:(l.length+m.length)*by_<=140737488355328)
   (k:∀v' w',aN lo hi w w'->bQ lo0 w'.heap.size e w' v' (l++m)->K v' w'):OP P (Builtin.append_ #[t,t] ty [v,gb].toArray) w K:=by
 obtain⟨_,⟨⟨_,⟨a,cap,Fi,xs,rfl,_,_,hc,h4⟩,g0⟩,gc,hw⟩,gd⟩:=hs;simp only[fF,Rep.agg,cond_false,EM]at g0;subst g0
 have g1:(∀b∈Fi,l1<=b/\b<h1)/\Fi.Nodup/\Wr Fi w:=by
   rcases h4 with⟨rfl,rfl⟩|⟨b,o,rfl,rfl,hr,_⟩
   ·obtain⟨rfl,rfl⟩:=hc;exact⟨(λb hb=>by cases hb),kM,Wr.nil w⟩
   exact⟨λc hc=>gd c (by simp[hc]),(tZ.1 gc).2,hw.sub sd⟩
 have g4:∀(v:vL)(F:List Nat),fL F e w v l->F.Nodup->(∀b∈F,lo<=b/\b<hi)->OP P (Builtin.append_ #[t,t] ty [v,.slice a m.length cap].toArray) w K:=by
   intro v F hF g2 C
   refine UK (m:=m) ht he g5 hF g2 rfl hc (by
     rcases h4 with h|⟨b,o,ha,_,hr,_⟩
     ·exact .inl h.1
     exact .inr ⟨b,o,ha,hr⟩) g1.2.2 ?_ hm hb λv' w' F' gf _ g9 gg gh=>?_
   ·rw[oE];refine⟨g1.2.1,g2,λp hp _ hq e=>?_⟩;subst e;have:=g1.1 p hp;have:=C p hq;omega
   have g3:∀c∈v.ownBlock.toList,lo<=c/\c<hi:=λc hc=>by
     obtain⟨xs,Fi,_,_,rfl,_⟩:=hF;exact C c (by simp only[dF];exact .inl hc)
   refine k v' w' (gf.toI g3) (.inr ⟨F',g9,gg,λc hc=>⟨?_,g9.lt c hc⟩⟩);rcases gh c hc with h|h|h
   ·have:=(C c h).1;omega
   ·have:=g1.1 c h;omega
   omega
 rcases hv with⟨a0,rfl,rfl⟩|⟨F,hF,g2,C⟩
 ·have kn:=g4 (.slice none 0 0) [] (ZX e w) kM ss;cases a0 with
  |none=>exact kn
  | some x0=>
    by_cases hm0:m=[]
    ·subst hm0;refine⟨.slice (some x0) 0 0,w,?_,k _ w (aN.refl w) (AY _ _ _ _ _)⟩
     have hf:(Builtin.firstCells (Rep.size α) 0 (.slice a 0 cap)).run P w=.ok #[] w:=by
       cases a with
       |none=>rfl
       |some a=>simp[Builtin.firstCells,loadCells,loadCellsFrom]
     simp[Builtin.append_,run_underlying ht,qX he,Builtin.lenOf,hf,storeCells]
    rcases h4 with h|⟨b,o,rfl,_,hr,_⟩
    ·exact absurd h.1 hm0
    exact SZ (Fj (α:=α) ht he g5 (aO.len hc) hr (NL.2 hm0) (by simpa using hm) (by simpa using hb)) kn
 exact g4 v F hF g2 C
def un{t ty:TypeId}{by_:Nat}{v src:vL}{l m:List α}{lo hi l1 h1:Nat}{K:vL->wD->Prop}(ht:P.underlying t=some (.slice e))(he:cT P e=some (Rep.size α,by_,Rep.agg α))
   (hzc:(P.info? e).map (λi=>(i.zero.map (·.cells.size)))=some (some (Rep.size α))) (hv:bQ lo hi e w v l) (hlo:lo<=w.heap.size) (hs:aK l1 h1 w src m) (hd:hi<=l1\/h1<=lo) (hl:lo<=l1) (hm:l.length+m.length<=maxLen) (hb:(l.length+m.length)*by_<=140737488355328)
   (k:∀v' w',aN lo hi w w'->bQ lo w'.heap.size e w' v' (l++m)->K v' w'):OP P (Builtin.append_ #[t,t] ty [v,src].toArray) w K:=Ph ht he hzc hv hlo hs hd (lr _) hl hm hb k
end
end Go.Sh
namespace Go.Proofs.YtcaakhmhlfgogaaGreatDoor
open Go Go.Sh Go.Proofs
open Rep (rep)
variable {W w:wD}{g g2 g3 i n:Nat}{v1:vL}
def Zq:kO tp 3=some [iV 0]:=by kernel_rfl
def EO:kO tp 9=some [.string ByteArray.empty]:=by kernel_rfl
def bB(W:wD)(g:Nat)(bs:List UInt8)(s:cR)(w:wD):Prop:=
 ∃v,Is W v bs/\aB W w/\W.heap.size<=g/\cA g 122 w [v,iV (s.i:Int),iV s.h]/\s.i<=bs.length/\bs.length<=1048576
section
variable {W w w':wD}{g a b:Nat}{bs:List UInt8}{s:cR}
def bB.lt(h:bB W g bs s w):W.heap.size<=g/\g<w.heap.size:=by
 obtain⟨_,_,_,h1,h2,_⟩:=h;exact⟨h1,h2.lt⟩
def bB.ext(h:bB W g bs s w)(hx:aB w w'):bB W g bs s w':=by
 obtain⟨v,h0,h1,h2,h3,h4⟩:=h;exact⟨v,h0,h1.trans hx,h2,h3.ext hx,h4⟩
def bB.chg(h:bB W g bs s w)(hc:aN a b w w')(h1:W.heap.size<=a)(hd:g<a\/b<=g):bB W g bs s w':=by
 obtain⟨v,h0,hx,h2,h3,h4⟩:=h;exact⟨v,h0,hx.xI hc h1,h2,h3.xI hc hd,h4⟩
def aN.out{c:wD}{lo hi x y:Nat}(h:aN x y w w')(k:aN lo hi w' c)(hl:w.heap.size<=lo):aN x y w c:=
 ⟨k.os.trans h.os,k.tape.trans h.tape,k.output.trans h.output,eH h.size k.size,λi hi ho=>(k.block i (kP hi h.size) oo).trans (h.block i hi ho)⟩
end
def WW{bs:List UInt8}{s:cR}(hC:bB W g bs s w) :
   aJ tp 139 [pT g 0] w λr w'=>aN g (g+1) w w'/\bB W g bs (pS bs s) w'/\r=iV (BE bs s):=by
 obtain⟨v,hv,hx,hg,hB,hi,hl⟩:=hC;refine co (g:=kf [] [] [(2,[0,1,2,3,4,5,6,7,8,9,10,11,12],0),(3,[0,1,2,3,4,5,6,7,8,9],0),(4,[0,1,2,3,4,5,6,7,8,9,10,11,12,13,14],0)]) Tryz.func139 ?_;refine bZ.mk rfl<|aE Dx<|cX aG hB rfl<|zp<|Xd<|bZ.mk rfl<|aE Dx<|qL (α:=Int) aG rfl rfl hB ss (ownI_int (lo:=0) (hi:=0) (yd _)) λw1 gh gi=>?_;have gd:=cO w1;have g4:=gi.ext gd;have gj:=gh.trans gd.toI;refine bZ.mk rfl<|aE Dx<|cX aG g4 rfl<|k9 (n:=33)<|bZ.mk rfl<|aE Dx<|cX aG g4 rfl<|k9 (n:=45)<|iv<|Nm ?_;have gf:=cO (World.drew1 w1);have g1:=g4.ext gf;have g5:=gj.trans gf.toI;refine bZ.mk rfl<|aE ZU<|cX aG g1 rfl<|bZ.mk rfl<|aE Ui<|cX ZS g1 rfl<|aX mA hv ?_;have g0:aB W (World.drew1 (World.drew1 w1)):=hx.xI g5 hg;obtain⟨bx,g2⟩:∃x,x=YW (QP s.h):=⟨_,rfl⟩;have e0:CE (Oi (YB (xQ (xQ (s.h*6364136223846793005)+1442695040888963407)) 33) (YB (xQ (xQ (s.h*6364136223846793005)+1442695040888963407)) 45)) 255=bx:=g2.symm;have hbl:0<=bx/\bx<=255:=by rw[g2];exact Cq _ (n:=255) oo
 rw[e0];refine bM<|br (λC=>?_) λg9=>?_
 ·have C:s.i<bs.length:=oo;have gb:=cO (World.drew1 (World.drew1 w1));have g3:=g1.ext gb;have gl:=g5.trans gb.toI;refine bZ.mk rfl<|aE Ui<|cX ZS g3 rfl<|bZ.mk rfl<|aE ZU<|cX aG g3 rfl<|bC mA RS (i:=s.i) hv C λ_ _ hA=>Yq RS hA (g0.trans gb) ?_;have gn:=UInt8.toNat_lt (bs[s.i]);refine Ox kK u3 oo<|Xd<|Nm<|bZ.mk rfl<|aE ZU<|cX aG g3 rfl<|aU<|bZ.mk rfl<|aE ZU<|qL (α:=Int) aG rfl rfl g3 ss (ownI_int (lo:=0) (hi:=0) io) λ_ gp gq=>?_;have gg:=gl.trans gp;refine⟨gg,⟨v,hv,hx.xI gg hg,hg,?_,?_,hl⟩,?_⟩
  rotate_left 2
  ·have hq:BE bs s=CE (bx+(bs[s.i].toNat:Int)) 255:=by
     unfold BE;rw[List.getElem?_eq_getElem C,g2]
   rw[hq,Wh io]
  ·have:pS bs s=⟨s.i+1,QP s.h⟩:=by unfold pS;rw[aP C]
   rw[this];exact gq
  show(if s.i<bs.length then s.i+1 else s.i)<=_;rw[aP C];omega
 have g9:¬s.i<bs.length:=oo;refine⟨g5,⟨v,hv,g0,hg,?_,?_,hl⟩,?_⟩
 rotate_left 2
 ·have hq:BE bs s=bx:=by
    unfold BE;rw[List.getElem?_eq_none oo,g2]
  rw[hq]
 ·have:pS bs s=⟨s.i,QP s.h⟩:=by unfold pS;rw[aH g9]
  rw[this];exact g1
 show(if s.i<bs.length then s.i+1 else s.i)<=_;rw[aH g9];exact hi
def LM{bs:List UInt8}{s:cR}{n:Int} (hC:bB W g bs s w)(hn:n<=1000000000000) :
   aJ tp 67 [pT g 0,iV n] w λr w'=>aN g (g+1) w w'/\(bB W g bs (cU bs n s) w'/\r=iV (mW bs n s)):=by
 refine co (g:=kf [] [] []) Tryz.func67 ?_;have:=LQ bs s;have:=LQ bs (pS bs s);have:=LQ bs (pS bs (pS bs s));have:=LQ bs (pS bs (pS bs (pS bs s)));refine tR<|br (λc1=>?_) λc1=>?_
 ·refine⟨(aN.refl w),?_⟩;unfold cU mW;rw[aP c1,aP c1];exact⟨hC,rfl⟩
 refine tR<|br (λc2=>?_) λc2=>?_
 ·refine(WW hC).mono ?_;rintro _ _ ⟨g0,g1,rfl⟩;refine Ic oo<|⟨g0,?_⟩;unfold cU mW;rw[aH c1,aH c1,aP c2,aP c2];exact⟨g1,rfl⟩
 refine(WW hC).mono ?_;rintro _ _ ⟨g2,g3,rfl⟩;refine(WW g3).mono ?_;rintro _ _ ⟨g4,g5,rfl⟩;refine(WW g5).mono ?_;rintro _ _ ⟨g9,gb,rfl⟩;refine(WW gb).mono ?_;rintro _ _ ⟨gc,gd,rfl⟩;refine UP io<|UP io<|rQ io<|UP io<|rQ io<|rQ io<|Ic oo<|⟨(aN.trans (aN.trans (aN.trans g2 g4) g9) gc),?_⟩;unfold cU mW;rw[aH c1,aH c1,aH c2,aH c2];exact⟨gd,rfl⟩
def Ai{bs:List UInt8}{s:cR}{n:Int} (hC:bB W g bs s w)(hn:n<=1000000000000) :
   aJ tp 70 [pT g 0,iV n] w λr w'=>aN g (g+1) w w'/\(bB W g bs (cU bs n s) w'/\r=.bool (decide (mW bs n s=0))):=by
 refine co (g:=kf [] [] []) Tryz.func70 ?_;refine(LM hC oo).mono ?_;rintro _ _ ⟨g0,g1,rfl⟩;refine bI<|⟨g0,?_⟩;exact⟨g1,rfl⟩
def YG{α:Type}{l:List α}{d:α}(h:i<l.length):l[i]=l.getD i d:=by rw[List.getD_eq_getElem?_getD,List.getElem?_eq_getElem h];rfl
def LI{bs:List UInt8}{s:cR}{l:(List ByteArray)} (hC:bB W g bs s w)(h1:aK g2 g3 w v1 l)(g9:g2<=w.heap.size)(gb:g3<=w.heap.size)(hg1:g<g2\/g3<=g)(h0:0<l.length)(hn:l.length<=1000) :
   aJ tp 141 [pT g 0,v1] w λr w'=>aN g (g+1) w w'/\(bB W g bs (cU bs (l.length:Int) s) w'/\r=.string (nT bs l s)/\(nT bs l s).size<=maxLen):=by
 refine co (g:=kf [] [] []) Tryz.func141 ?_;have:=EU bs (n:=(l.length:Int)) oo s;refine aX cL h1.is<|(LM hC oo).mono ?_;rintro _ g4 ⟨g0,g1,rfl⟩;refine wR cL cG ((h1.ext (aC w)).chg g0 oo).is oo oo λ_ _ g5=>eV cG g5 xx λ_=>⟨g0,?_⟩;refine⟨g1,?_,?_⟩
 ·unfold nT;rw[<-YG oo]
 unfold nT;rw[<-YG oo];assumption
def Q4{bs:List UInt8}{s:cR}{l:(List Int)} (hC:bB W g bs s w)(h1:aK g2 g3 w v1 l)(g9:g2<=w.heap.size)(gb:g3<=w.heap.size)(hg1:g<g2\/g3<=g)(h0:0<l.length)(hn:l.length<=1000) :
   aJ tp 260 [pT g 0,v1] w λr w'=>aN g (g+1) w w'/\(bB W g bs (cU bs (l.length:Int) s) w'/\r=iV (BT bs l s)/\bR (BT bs l s)):=by
 refine co (g:=kf [] [] []) Tryz.func260 ?_;have:=EU bs (n:=(l.length:Int)) oo s;refine aX bG h1.is<|(LM hC oo).mono ?_;rintro _ g4 ⟨g0,g1,rfl⟩;refine wR bG aG ((h1.ext (aC w)).chg g0 oo).is oo oo λ_ _ g5=>aS aG g5 xx λ_=>⟨g0,?_⟩;refine⟨g1,?_,?_⟩
 ·unfold BT;rw[<-YG oo]
 unfold BT;rw[<-YG oo];assumption
section
variable {bs:List UInt8}{n:Nat}{s:cR}
theorem zrv(h:sO bs n s<3):iJ bs n s=(.mk 1 (BT bs MP (cU bs 12 s)) nO [],cU bs 8 (cU bs 12 s)):=by
 cases n with
 |zero=>rw[iJ,aP h]
 |succ n=>rw[iJ,aP h]
theorem ij(h:¬sO bs n s<3)(h2:sO bs n s<6):iJ bs n s=(.mk 2 0 (nT bs DD (cU bs 12 s)) [],cU bs 5 (cU bs 12 s)):=by
 cases n with
 |zero=>rw[iJ,aH h]
 |succ n=>rw[iJ,aH h,aP h2]
theorem Bv(h2:¬sO bs n s<6):0<n:=by
 cases n with
 |zero=>have:=zFn bs s;omega
 |succ n=>omega
def tu(h:¬sO bs n s<3)(h2:¬sO bs n s<6)(h3:sO bs n s=6):iJ bs n s=(.mk 8 0 nO [(iJ bs (n-1) (cU bs 12 s)).1],(iJ bs (n-1) (cU bs 12 s)).2):=by
 have:=Bv h2;obtain⟨m,rfl⟩:∃m,n=m+1:=⟨n-1,oo⟩;rw[iJ,aH h,aH h2,aP h3];rfl
def zu(h:¬sO bs n s<3)(h2:¬sO bs n s<6)(h3:¬sO bs n s=6):iJ bs n s=(.mk (BT bs LH (cU bs 12 s)) 0 nO [(iJ bs (n-1) (cU bs 6 (cU bs 12 s))).1,(iJ bs (n-1) (iJ bs (n-1) (cU bs 6 (cU bs 12 s))).2).1],
     (iJ bs (n-1) (iJ bs (n-1) (cU bs 6 (cU bs 12 s))).2).2):=by
 have:=Bv h2;obtain⟨m,rfl⟩:∃m,n=m+1:=⟨n-1,oo⟩;rw[iJ,aH h,aH h2,aH h3];rfl
end
def Ud(n:Nat):Prop:=∀{W w:wD}{g:Nat}{bs:List UInt8}{s:cR}{d:Int},bB W g bs s w->d=(n:Int) ->
 aJ tp 206 [pT g 0,iV d] w λr w'=>aN g (g+1) w w'/\bB W g bs (iJ bs n s).2 w'/\aK w.heap.size w'.heap.size w' r (iJ bs n s).1
def um{bs:List UInt8}{s:cR}{d:Int}(hC:bB W g bs s w)(hd:d=(n:Int))(ih:∀ m,m+1=n->Ud m)(hn:n<=10) :
   aJ tp 206 [pT g 0,iV d] w λr w'=>aN g (g+1) w w'/\(bB W g bs (iJ bs n s).2 w'/\aK w.heap.size w'.heap.size w' r (iJ bs n s).1):=by
 refine co (g:=kf [(4,65312,[5])] [] []) Tryz.func206 ?_;have:=hC.lt;have:=EU bs (n:=12) oo s;refine sY (α:=aD) BZ λgW y1 gM=>?_;have:=gM.lt;refine(LM (bB.ext hC y1) oo).mono ?_;rintro _ gB ⟨O,g4,rfl⟩;have gl:=O.size;have gl:=O.size;have hv4_c2:=(gM.ext (aC gW)).chg O oo oo;refine dJ.mk (λus w'=>us=[iV (sO bs n s)]/\aB gB w'/\(True)) ?_ ?_
 ·refine tR ?_;refine br (λc1=>?_) λc1=>?_
  ·refine pD ?_;refine br (λc2=>?_) λc2=>?_
   ·refine kQ io ?_;refine⟨by unfold sO;rw[aP oo],xx,?_⟩;trivial
   refine⟨by unfold sO;rw[aH oo],xx,?_⟩;trivial
  refine⟨by unfold sO;rw[aH oo],xx,?_⟩;trivial
 rintro _ gX ⟨hu,y3,_⟩;have σ3:=y3.size;try replace hu:=cJ hu
 try rw[hu]
 try clear hu
 refine bM<|br (λc3=>?_) λc3=>?_
 ·refine zP (vs:=([0,1,2,3,7,999,1000,1000000000]:List Int).map (Value.int .i64)) bG aG Zq dD kK rfl (λw=>Bb (by simp[bR])) λ_ gN y4 gO=>?_;have σ4:=y4.size;refine(Q4 (bB.ext (bB.ext g4 y3) y4) (gO.ext xx) oo oo oo dD dD).mono ?_;rintro _ gC ⟨g0,gF,rfl,_⟩;have gn:=g0.size;have gn:=g0.size;have:=(gO.ext (aC gN)).chg g0 oo;refine ls (lo:=gC.heap.size) (hi:=gC.heap.size) (by first|assumption|(unfold bR;omega)) (by first|assumption|(unfold bR;omega)) λ_ gY=>oU dK (((hv4_c2.ext (y3.t y4)).chg g0 oo oo).ext xx) (gY.ext xx) oo λgP g9 hv4_s6=>?_;have gQ:=g9.size;refine uX dK hv4_s6 xx λr4 V=>?_;replace V:=V.ext (aC gP);refine⟨(aN.out (aN.trans (aN.trans (aN.trans (aN.trans (aB.toI y1) O) (aB.toI y3)) (aB.toI y4)) g0) g9 oo),?_⟩;rw[zrv oo];exact⟨(bB.chg gF g9 oo oo),V.mono oo oo⟩
 refine bM<|br (λc4=>?_) λc4=>?_
 ·refine zP (vs:=([ByteArray.mk #[120],ByteArray.mk #[121],ByteArray.mk #[122],ByteArray.mk #[120],ByteArray.mk #[117]]:List ByteArray).map Value.string) cL cG EO dD kK rfl (λw=>DR dD) λ_ gR y7 gS=>?_;have σ7:=y7.size;refine(LI (bB.ext (bB.ext g4 y3) y7) (gS.ext xx) oo oo oo dD dD).mono ?_;rintro _ gD ⟨g1,gG,rfl,_⟩;have gp:=g1.size;have gp:=g1.size;have:=(gS.ext (aC gR)).chg g1 oo;refine pq (lo:=gD.heap.size) (hi:=gD.heap.size) (by first|assumption|(unfold bR;omega)) (by first|assumption|decide) λ_ gZ=>oU dK (((hv4_c2.ext (y3.t y7)).chg g1 oo oo).ext xx) (gZ.ext xx) oo λgT gb hv4_s9=>?_;have gU:=gb.size;refine uX dK hv4_s9 xx λr4 V=>?_;replace V:=V.ext (aC gT);refine⟨(aN.out (aN.trans (aN.trans (aN.trans (aN.trans (aB.toI y1) O) (aB.toI y3)) (aB.toI y7)) g1) gb oo),?_⟩;rw[ij oo oo];exact⟨(bB.chg gG gb oo oo),V.mono oo oo⟩
 refine bI<|br (λc5=>?_) λc5=>?_
 ·refine kQ io ?_;have h4:=Bv (show ¬sO bs n s<6 by omega);refine(ih (n-1) oo (bB.ext g4 y3) oo).mono ?_;rintro _ gH ⟨Z,gq,h5⟩;have gc:=Z.size;have gc:=Z.size;refine Cr (α:=aD) mY dK RH dD (h5.ext xx) oo λ_ gd gI h6=>Pu (lo:=gX.heap.size) (hi:=gd.heap.size) (by first|assumption|(unfold bR;omega)) (h6.ext xx) λ_ h8=>oU dK (((hv4_c2.ext y3).chg Z oo oo).ext gI) (h8.ext xx) oo λgr g2 hv4_s12=>?_;have gJ:=g2.size;refine uX dK hv4_s12 xx λr4 V=>?_;replace V:=V.ext (aC gr);refine⟨(aN.out (aN.trans (aN.trans (aN.trans (aN.trans (aB.toI y1) O) (aB.toI y3)) Z) (aB.toI gI)) g2 oo),?_⟩;rw[tu oo oo oo];exact⟨(bB.chg (bB.ext gq gI) g2 oo oo),V.mono oo oo⟩
 refine zP (vs:=([3,4,5,6,7,9]:List Int).map (Value.int .i64)) bG aG Zq dD kK rfl (λw=>Bb (by simp[bR])) λ_ gs gE gV=>?_;have σ13:=gE.size;refine(Q4 (bB.ext (bB.ext g4 y3) gE) (gV.ext xx) oo oo oo dD dD).mono ?_;rintro _ g5 ⟨D,gt,rfl,_⟩;have gf:=D.size;have gf:=D.size;have hv4_c14:=(hv4_c2.ext (y3.t gE)).chg D oo oo;have o40_c14:=(gV.ext (aC gs)).chg D oo;refine kQ io ?_;have h4:=Bv (show ¬sO bs n s<6 by omega);refine(ih (n-1) oo gt oo).mono ?_;rintro _ gg ⟨M,gx,h9⟩;have gh:=M.size;have gh:=M.size;have hv4_c15:=(hv4_c14.ext (aC g5)).chg M oo oo;have o40_c15:=(o40_c14.ext (aC g5)).chg M oo;refine kQ io<|(ih (n-1) oo gx oo).mono ?_;rintro _ gy ⟨C,gz,ha⟩;have gi:=C.size;have gi:=C.size;have:=(o40_c15.ext (aC gg)).chg C oo;refine bj (α:=aD) (lo:=g5.heap.size) mY dK RH dD (((h9.ext (aC gg)).chg C oo).ext xx) (ha.ext xx) oo oo λ_ gj gK hb=>Pu (lo:=g5.heap.size) (hi:=gj.heap.size) (by first|assumption|(unfold bR;omega)) (hb.ext xx) λ_ hc=>oU dK (((hv4_c15.ext (aC gg)).chg C oo oo).ext gK) (hc.ext xx) oo λgA g3 hv4_s18=>?_;have gL:=g3.size;refine uX dK hv4_s18 xx λr4 V=>?_;replace V:=V.ext (aC gA);refine⟨(aN.out (aN.trans (aN.trans (aN.trans (aN.trans (aN.trans (aN.trans (aN.trans (aB.toI y1) O) (aB.toI y3)) (aB.toI gE)) D) M) C) (aB.toI gK)) g3 oo),?_⟩;rw[zu oo oo oo];exact⟨(bB.chg (bB.ext gz gK) g3 oo oo),V.mono oo oo⟩
theorem Bf:∀(n:Nat),n<=10->Ud n
 | n,hn=>by
   intro h hd;exact um h hd (λm hm=>Bf m oo) hn
section
variable {bs:List UInt8}{n:Nat}{s:cR}
theorem QR(h:uO bs n s<11):uS bs n s=EC bs (uO bs n s) (cU bs 14 s):=by
 cases n with
 |zero=>rw[uS]
 |succ n=>rw[uS,aP h]
theorem Lz(h:¬uO bs n s<11):0<n:=by
 cases n with
 |zero=>have:=zFp bs s;omega
 |succ n=>omega
def Gh(h:¬uO bs n s<11):uS bs n s=RF bs (uS bs (n-1)) (uO bs n s) (cU bs 14 s):=by
 have:=Lz h;obtain⟨m,rfl⟩:∃m,n=m+1:=⟨n-1,oo⟩;rw[uS,aH h];rfl
def fk{f:cR->aA×cR}{bs:List UInt8}{k:Nat}{s:cR}(hk:k<=3)(h:(k:Int)<mW bs 4 s) :
   qK f bs (4-k) k s=((f (cU bs 4 s)).1 :: (qK f bs (4-(k+1)) (k+1) (f (cU bs 4 s)).2).1,(qK f bs (4-(k+1)) (k+1) (f (cU bs 4 s)).2).2):=by
 rw[show 4-k=(4-(k+1))+1 by omega,qK,aP h]
def zwt{f:cR->aA×cR}{bs:List UInt8}{k:Nat}{s:cR}(hk:k<=3)(h:¬(k:Int)<mW bs 4 s):qK f bs (4-k) k s=([],cU bs 4 s):=by
 rw[show 4-k=(4-(k+1))+1 by omega,qK,aH h]
end
def ZH(n:Nat):Prop:=∀{W w:wD}{g:Nat}{bs:List UInt8}{s:cR}{d:Int},bB W g bs s w->d=(n:Int) ->
 aJ tp 140 [pT g 0,iV d] w λr w'=>aN g (g+1) w w'/\bB W g bs (uS bs n s).2 w'/\aK w.heap.size w'.heap.size w' r (uS bs n s).1
def Pg(n:Nat):Prop:=∀{W w:wD}{g:Nat}{bs:List UInt8}{s:cR}{d:Int},bB W g bs s w->d=(n:Int) ->
 aJ tp 68 [pT g 0,iV d] w λr w'=>aN g (g+1) w w'/\bB W g bs (rF bs n s).2 w'/\bQ w.heap.size w'.heap.size 117 w' r (rF bs n s).1
def Sw{bs:List UInt8}{s:cR}{d:Int}(hC:bB W g bs s w)(hd:d=(n:Int))(ih:ZH n) :
   aJ tp 68 [pT g 0,iV d] w λr w'=>aN g (g+1) w w'/\(bB W g bs (rF bs n s).2 w'/\bQ w.heap.size w'.heap.size 117 w' r (rF bs n s).1):=by
 refine co (g:=kf [] [(3,1048416,[5,6])] []) Tryz.func68 ?_;have:=hC.lt;refine pR (α:=aA) fJ fB λ_ g9 y1 _=>?_;have σ1:=y1.size;refine bV (4) (λk us w'=>∃(v:vL)(s1:cR)(l1:List aA),us=[v,iV k]/\aN g (g+1) g9 w'/\(bB W g bs s1 w'/\bQ g9.heap.size w'.heap.size 117 w' v l1/\rF bs n s=(l1++(qK (uS bs n) bs (4-k) k s1).1,(qK (uS bs n) bs (4-k) k s1).2)/\l1.length<=k/\k<=3)) (0) oo ⟨_,s,[],rfl,(aN.refl g9),⟨hC.ext y1,AY _ _ _ _ _,by unfold rF;simp,ss,oo⟩⟩ ?_;rintro k m3 _ gh _ ⟨_,s1,l1,hu,y2,gi,g0,g5,_,gc⟩;have σ2:=y2.size;obtain⟨gd,gf⟩:=dQ hu;try rw[gd]
 try rw[gf]
 try clear gd gf
 have:=EU bs (n:=4) oo s1;refine(LM gi oo).mono ?_;rintro _ gj ⟨C,g1,rfl⟩;have g2:=C.size;have g2:=C.size;have hrow_c3:=(g0.ext (aC gh)).chg C oo;refine bM<|br (λc1=>?_) λc1=>?_
 ·refine(ih g1 hd).mono ?_;rintro _ gg ⟨D,gb,gl⟩;have g3:=D.size;have g3:=D.size;refine oS (α:=aA) fJ fB PK NQ dD (((hrow_c3.ext (aC gj)).chg D oo).ext xx) oo (gl.ext xx) oo oo (by rw[eB];omega) oo λ_ _ g4 gn=>aU<|⟨m3-1,oo,k+1,oo,_,(uS bs n (cU bs 4 s1)).2,l1++[(uS bs n (cU bs 4 s1)).1],rfl,(aN.out (aN.trans (aN.trans y2 C) D) g4 oo),?_⟩;rw[fk gc oo]at g5;exact⟨(bB.chg gb g4 oo oo),gn,by rw[g5];simp,by simp;omega,oo⟩
 refine⟨(aN.trans (aN.trans (aB.toI y1) y2) C),?_⟩;rw[zwt gc oo]at g5;rw[g5];simp only[oJ];exact⟨g1,(g0.chg C oo).mono oo oo⟩
def Qv{bs:List UInt8}{s:cR}{d:Int}(hC:bB W g bs s w)(hd:d=(n:Int))(ih:∀ m,m+1=n->Pg m)(hn:n<=10) :
   aJ tp 140 [pT g 0,iV d] w λr w'=>aN g (g+1) w w'/\(bB W g bs (uS bs n s).2 w'/\aK w.heap.size w'.heap.size w' r (uS bs n s).1):=by
 refine co (g:=kf [(4,130592,[5])] [] []) Tryz.func140 ?_;have:=hC.lt;have:=EU bs (n:=14) oo s;refine sY (α:=aA) zX λj8 y1 hU=>?_;have:=hU.lt;refine(LM (bB.ext hC y1) oo).mono ?_;rintro _ hv ⟨Z,g1,rfl⟩;have gR:=Z.size;have gR:=Z.size;have hv4_c2:=(hU.ext (aC j8)).chg Z oo oo;refine dJ.mk (λus w'=>us=[iV (uO bs n s)]/\aB hv w'/\(True)) ?_ ?_
 ·refine tR ?_;refine br (λc1=>?_) λc1=>?_
  ·refine pD ?_;refine br (λc2=>?_) λc2=>?_
   ·refine kQ io ?_;refine⟨by unfold uO;rw[aP oo],xx,?_⟩;trivial
   refine⟨by unfold uO;rw[aH oo],xx,?_⟩;trivial
  refine⟨by unfold uO;rw[aH oo],xx,?_⟩;trivial
 rintro _ gQ ⟨hu,y3,_⟩;have σ3:=y3.size;try replace hu:=cJ hu
 try rw[hu]
 try clear hu
 refine bM<|br (λc3=>?_) λc3=>?_
 ·refine zP (vs:=([ByteArray.mk #[120],ByteArray.mk #[121],ByteArray.mk #[122]]:List ByteArray).map Value.string) cL cG EO dD kK rfl (λw=>DR dD) λ_ hV y4 hW=>?_;have σ4:=y4.size;refine(LI (bB.ext (bB.ext g1 y3) y4) (hW.ext xx) oo oo oo dD dD).mono ?_;rintro _ hB ⟨gf,hD,rfl,_⟩;have gS:=gf.size;have gS:=gf.size;have hv4_c5:=(hv4_c2.ext (y3.t y4)).chg gf oo oo;have o21_c5:=(hW.ext (aC hV)).chg gf oo;refine((Bf 2 oo) hD rfl).mono ?_;rintro _ hw ⟨gg,hF,j9⟩;have gT:=gg.size;have gT:=gg.size;have:=(o21_c5.ext (aC hB)).chg gg oo;refine zru (lo:=hB.heap.size) (hi:=hw.heap.size) oo (by first|assumption|(unfold bR;omega)) (by first|assumption|decide) (j9.ext xx) λ_ ja=>oU fB (((hv4_c5.ext (aC hB)).chg gg oo oo).ext xx) (ja.ext xx) oo λhX gE hv4_s7=>?_;have hY:=gE.size;refine uX fB hv4_s7 xx λr4 C=>?_;replace C:=C.ext (aC hX);refine⟨(aN.out (aN.trans (aN.trans (aN.trans (aN.trans (aN.trans (aB.toI y1) Z) (aB.toI y3)) (aB.toI y4)) gf) gg) gE oo),?_⟩;rw[QR oo,EC,aP oo];exact⟨(bB.chg hF gE oo oo),C.mono oo oo⟩
 refine bM<|br (λc4=>?_) λc4=>?_
 ·refine zP (vs:=([ByteArray.mk #[97],ByteArray.mk #[98],ByteArray.mk #[109]]:List ByteArray).map Value.string) cL cG EO dD kK rfl (λw=>DR dD) λ_ hZ y8 j0=>?_;have σ8:=y8.size;refine(LI (bB.ext (bB.ext g1 y3) y8) (j0.ext xx) oo oo oo dD dD).mono ?_;rintro _ hx ⟨gh,hG,rfl,_⟩;have gU:=gh.size;have gU:=gh.size;have:=(j0.ext (aC hZ)).chg gh oo;refine MG (lo:=hx.heap.size) (hi:=hx.heap.size) oo (by first|assumption|(unfold bR;omega)) (by first|assumption|decide) λ_ jb=>oU fB (((hv4_c2.ext (y3.t y8)).chg gh oo oo).ext xx) (jb.ext xx) oo λgV gi hv4_s10=>?_;have hH:=gi.size;refine uX fB hv4_s10 xx λr4 C=>?_;replace C:=C.ext (aC gV);refine⟨(aN.out (aN.trans (aN.trans (aN.trans (aN.trans (aB.toI y1) Z) (aB.toI y3)) (aB.toI y8)) gh) gi oo),?_⟩;rw[QR oo,EC,aH oo,aP oo];exact⟨(bB.chg hG gi oo oo),C.mono oo oo⟩
 refine bM<|br (λc5=>?_) λc5=>?_
 ·refine zP (vs:=([ByteArray.mk #[97],ByteArray.mk #[98],ByteArray.mk #[109]]:List ByteArray).map Value.string) cL cG EO dD kK rfl (λw=>DR dD) λ_ gW hy j1=>?_;have σ11:=hy.size;refine(LI (bB.ext (bB.ext g1 y3) hy) (j1.ext xx) oo oo oo dD dD).mono ?_;rintro _ gy ⟨g2,gX,rfl,_⟩;have gF:=g2.size;have gF:=g2.size;have:=(j1.ext (aC gW)).chg g2 oo;refine MG (lo:=gy.heap.size) (hi:=gy.heap.size) oo (by first|assumption|(unfold bR;omega)) (by first|assumption|decide) λ_ jc=>oU fB (((hv4_c2.ext (y3.t hy)).chg g2 oo oo).ext xx) (jc.ext xx) oo λgY gj hv4_s13=>?_;have hI:=gj.size;refine uX fB hv4_s13 xx λr4 C=>?_;replace C:=C.ext (aC gY);refine⟨(aN.out (aN.trans (aN.trans (aN.trans (aN.trans (aB.toI y1) Z) (aB.toI y3)) (aB.toI hy)) g2) gj oo),?_⟩;rw[QR oo,EC,aH oo,aH oo,aP oo];exact⟨(bB.chg gX gj oo oo),C.mono oo oo⟩
 refine bI<|br (λc6=>?_) λc6=>?_
 ·refine zP (vs:=([ByteArray.mk #[112],ByteArray.mk #[113],ByteArray.mk #[114]]:List ByteArray).map Value.string) cL cG EO dD kK rfl (λw=>DR dD) λ_ gZ hz j2=>?_;have σ14:=hz.size;refine(LI (bB.ext (bB.ext g1 y3) hz) (j2.ext xx) oo oo oo dD dD).mono ?_;rintro _ gz ⟨g3,h4,rfl,_⟩;have gG:=g3.size;have gG:=g3.size;have:=(j2.ext (aC gZ)).chg g3 oo;refine MG (lo:=gz.heap.size) (hi:=gz.heap.size) oo (by first|assumption|(unfold bR;omega)) (by first|assumption|decide) λ_ jd=>oU fB (((hv4_c2.ext (y3.t hz)).chg g3 oo oo).ext xx) (jd.ext xx) oo λh5 gl hv4_s16=>?_;have hJ:=gl.size;refine uX fB hv4_s16 xx λr4 C=>?_;replace C:=C.ext (aC h5);refine⟨(aN.out (aN.trans (aN.trans (aN.trans (aN.trans (aB.toI y1) Z) (aB.toI y3)) (aB.toI hz)) g3) gl oo),?_⟩;rw[QR oo,EC,aH oo,aH oo,aH oo,aP oo];exact⟨(bB.chg h4 gl oo oo),C.mono oo oo⟩
 refine bI<|br (λc7=>?_) λc7=>?_
 ·refine zP (vs:=([ByteArray.mk #[112],ByteArray.mk #[113],ByteArray.mk #[114]]:List ByteArray).map Value.string) cL cG EO dD kK rfl (λw=>DR dD) λ_ h6 hA j3=>?_;have σ17:=hA.size;refine(LI (bB.ext (bB.ext g1 y3) hA) (j3.ext xx) oo oo oo dD dD).mono ?_;rintro _ gA ⟨g4,h8,rfl,_⟩;have gH:=g4.size;have gH:=g4.size;have:=(j3.ext (aC h6)).chg g4 oo;refine MG (lo:=gA.heap.size) (hi:=gA.heap.size) oo (by first|assumption|(unfold bR;omega)) (by first|assumption|decide) λ_ je=>oU fB (((hv4_c2.ext (y3.t hA)).chg g4 oo oo).ext xx) (je.ext xx) oo λh9 gn hv4_s19=>?_;have hL:=gn.size;refine uX fB hv4_s19 xx λr4 C=>?_;replace C:=C.ext (aC h9);refine⟨(aN.out (aN.trans (aN.trans (aN.trans (aN.trans (aB.toI y1) Z) (aB.toI y3)) (aB.toI hA)) g4) gn oo),?_⟩;rw[QR oo,EC,aH oo,aH oo,aH oo,aH oo,aP oo];exact⟨(bB.chg h8 gn oo oo),C.mono oo oo⟩
 refine bI<|br (λc8=>?_) λc8=>?_
 ·refine cd (lo:=gQ.heap.size) (hi:=gQ.heap.size) oo (by first|assumption|(unfold bR;omega)) λ_ jf=>?_;refine oU fB (hv4_c2.ext y3) (jf.ext xx) oo λha gp hv4_s20=>?_;have hM:=gp.size;refine uX fB hv4_s20 xx λr4 C=>?_;replace C:=C.ext (aC ha);refine⟨(aN.out (aN.trans (aN.trans (aB.toI y1) Z) (aB.toI y3)) gp oo),?_⟩;rw[QR oo,EC,aH oo,aH oo,aH oo,aH oo,aH oo];exact⟨(bB.chg (bB.ext g1 y3) gp oo oo),C.mono oo oo⟩
 refine bI<|br (λc9=>?_) λc9=>?_
 ·have hK:¬uO bs n s<11:=by unfold uO at *;split at*<;> omega
  have jg:=Lz hK;refine((Bf 1 oo) (bB.ext g1 y3) rfl).mono ?_;rintro _ hb ⟨gd,hc,jh⟩;have gI:=gd.size;have gI:=gd.size;have hv4_c21:=(hv4_c2.ext y3).chg gd oo oo;refine kQ io<|(ih (n-1) oo hc oo).mono ?_;rintro _ gq ⟨g5,he,ji⟩;have gJ:=g5.size;have gJ:=g5.size;refine T9 (lo:=gQ.heap.size) (hi:=gq.heap.size) (by first|assumption|(unfold bR;omega)) (((jh.ext (aC hb)).chg g5 oo).ext xx) (ji.own.ext xx) oo oo oo oo λ_ jj=>oU fB (((hv4_c21.ext (aC hb)).chg g5 oo oo).ext xx) (jj.ext xx) oo λhf gr hv4_s23=>?_;have hN:=gr.size;refine uX fB hv4_s23 xx λr4 C=>?_;replace C:=C.ext (aC hf);refine⟨(aN.out (aN.trans (aN.trans (aN.trans (aN.trans (aB.toI y1) Z) (aB.toI y3)) gd) g5) gr oo),?_⟩;rw[Gh hK,RF,aP oo];exact⟨(bB.chg he gr oo oo),C.mono oo oo⟩
 have hK:¬uO bs n s<11:=by unfold uO at *;split at*<;> omega
 have jg:=Lz hK;refine((Bf 1 oo) (bB.ext g1 y3) rfl).mono ?_;rintro _ hg ⟨g9,hh,jk⟩;have gK:=g9.size;have gK:=g9.size;have hv4_c24:=(hv4_c2.ext y3).chg g9 oo oo;refine kQ io<|(ih (n-1) oo hh oo).mono ?_;rintro _ gL ⟨g0,hj,j4⟩;have gM:=g0.size;have gM:=g0.size;have hv4_c25:=(hv4_c24.ext (aC hg)).chg g0 oo oo;have o69_c25:=(jk.ext (aC hg)).chg g0 oo;refine T9 (lo:=gQ.heap.size) (hi:=gL.heap.size) (by first|assumption|(unfold bR;omega)) (o69_c25.ext xx) (j4.own.ext xx) oo oo oo oo λ_ j5=>sY (α:=aA) zX λhO gB j6=>?_;have:=j6.lt;refine oU fB (j6.ext xx) (j5.ext gB) oo λgs M hv6_s27=>?_;have hP:=M.size;have hv4_c27:=(hv4_c25.ext gB).chg M oo oo;have o69_c27:=(o69_c25.ext gB).chg M oo;have o73_c27:=(j4.ext gB).chg M oo;have o74_c27:=(j5.ext gB).chg M oo;refine(Ai (bB.chg (bB.ext hj gB) M oo oo) oo).mono ?_;rintro _ gb ⟨D,gC,rfl⟩;have gN:=D.size;have gN:=D.size;have hv4_c28:=(hv4_c27.ext (aC gs)).chg D oo oo;have o69_c28:=(o69_c27.ext (aC gs)).chg D oo;have o73_c28:=(o73_c27.ext (aC gs)).chg D oo;have o74_c28:=(o74_c27.ext (aC gs)).chg D oo;have hv6_s27_c28:=(hv6_s27.ext (aC gs)).chg D oo oo;refine br (λjl=>?_) λjl=>?_
 ·refine kQ io<|(ih (n-1) oo gC oo).mono ?_;rintro _ gc ⟨O,hk,j7⟩;have gO:=O.size;have gO:=O.size;have hv4_c29:=(hv4_c28.ext (aC gb)).chg O oo oo;have o69_c29:=(o69_c28.ext (aC gb)).chg O oo;have o73_c29:=(o73_c28.ext (aC gb)).chg O oo;have o74_c29:=(o74_c28.ext (aC gb)).chg O oo;refine aE pU ?_;obtain⟨_,hl,hq⟩:=(((hv6_s27_c28.ext (aC gb)).chg O oo oo).ext (aC gc));obtain⟨_,hr⟩:=Nw (bT.var hl);refine Zx fW hr hq (j7.own.ext xx) oo oo λgP V gD=>?_;have hv6_s30:=gD (gQ.heap.size) oo oo (gc.heap.size) oo oo;clear gD hr hl hq;have hQ:=V.size;have:=(o69_c29.ext (aC gc)).chg V oo;have:=(o73_c29.ext (aC gc)).chg V oo;have:=(o74_c29.ext (aC gc)).chg V oo;have:=(j7.ext (aC gc)).chg V oo;refine DJ fB hv6_s30 xx λjm hR=>oU fB (((hv4_c29.ext (aC gc)).chg V oo oo).ext xx) (hR.ext xx) oo λhs gt hv4_s31=>?_;have hS:=gt.size;refine uX fB hv4_s31 xx λr4 C=>?_;replace C:=C.ext (aC hs);refine⟨(aN.out (aN.out (aN.trans (aN.trans (aN.out (aN.trans (aN.trans (aN.trans (aN.trans (aN.trans (aB.toI y1) Z) (aB.toI y3)) g9) g0) (aB.toI gB)) M oo) D) O) V oo) gt oo),?_⟩;rw[Gh hK,RF,aH oo,aP (by first|assumption|(unfold rF at *;assumption))];exact⟨(bB.chg (bB.chg hk V oo oo) gt oo oo),C.mono oo oo⟩
 refine DJ fB hv6_s27_c28 xx λjm hR=>oU fB (hv4_c28.ext xx) (hR.ext xx) oo λht gx hv4_s32=>?_;have hT:=gx.size;refine uX fB hv4_s32 xx λr4 C=>?_;replace C:=C.ext (aC ht);refine⟨(aN.out (aN.trans (aN.out (aN.trans (aN.trans (aN.trans (aN.trans (aN.trans (aB.toI y1) Z) (aB.toI y3)) g9) g0) (aB.toI gB)) M oo) D) gx oo),?_⟩;rw[Gh hK,RF,aH oo,aH (by first|assumption|(unfold rF at *;assumption))];exact⟨(bB.chg gC gx oo oo),C.mono oo oo⟩
theorem Mc:∀(n:Nat),n<=10->ZH n/\Pg n
 | 0,hn=>by
   have h1:ZH 0:=λ{_ _ _ _ _ _} h hd=>Qv h hd (λm hm=>absurd hm oo) hn;exact⟨h1,λ{_ _ _ _ _ _} h hd=>Sw h hd h1⟩
 | n+1,hn=>by
   have ih:=Mc n oo
   have hm:∀m,m+1=n+1->Pg m:=λm hm=>by
     obtain rfl:m=n:=oo;exact ih.2
   have h1:ZH (n+1):=λ{_ _ _ _ _ _} h hd=>Qv h hd hm hn;exact⟨h1,λ{_ _ _ _ _ _} h hd=>Sw h hd h1⟩
end Go.Proofs.YtcaakhmhlfgogaaGreatDoor
namespace Go.Sh
open Rep (rep)
variable {F:List Nat}{W w w':wD}{g:Nat}
def aN.toC(h:aN g (g+1) w w'):cH [g] w w':=⟨h.os,h.tape,h.output,h.size,λi hi hn=>h.block i hi (by simp only[oY]at hn;omega)⟩
def aB.chgL(h:aB W w)(k:cH F w w')(hl:∀ c∈F,W.heap.size<=c):aB W w':=
 ⟨k.os.trans h.os,k.tape.trans h.tape,k.output.trans h.output,eH h.size k.size,λi hi=>(k.block i (kP hi h.size) λe=>by have:=hl i e;omega).trans (h.block i hi)⟩
def aZ.chgF{α:Type}[Rep α]{F G:List Nat}{w w':wD}{v:vL}{x:α}(h:aZ F w v x)(hc:cH G w w')(hd:∀ c∈F,c∉G):aZ F w' v x:=h.keep λc hcm=>hc.block c (h.lt c hcm) (hd c hcm)
def qO{α:Type}[Rep α](lo hi:Nat)(w:wD)(v:vL)(x:α):Prop:=hi<=w.heap.size/\∀w':wD,(∀b,lo<=b->b<hi->w'.heap[b]?=w.heap[b]?)->Is w' v x
section
variable {α:Type}[Rep α]{lo hi:Nat}{w w':wD}{v:vL}{x:α}
def qO.is(h:qO lo hi w v x):Is w v x:=h.2 w λ_ _ _=>rfl
def qO.chgF{G:List Nat}(h:qO lo hi w v x)(hc:cH G w w')(hd:∀ c∈G,c<lo\/hi<=c):qO lo hi w' v x:=
 ⟨eH h.1 hc.size,λw2 h2=>h.2 w2 λb h3 h4=>(h2 b h3 h4).trans (hc.block b (kP h4 h.1) λhm=>by have:=hd b hm;omega)⟩
def qO.ext(h:qO lo hi w v x)(hx:aB w w'):qO lo hi w' v x:=h.chgF (hx.chg []) ss
def aK.isK(h:aK lo hi w v x)(hh:hi<=w.heap.size):qO lo hi w v x:=by
 obtain⟨F,hm,hF⟩:=h
 exact⟨hh,λ_ hw=>⟨F,by
   obtain⟨cs,hr,hv⟩:=hm.own;exact⟨cs,Rep.keep hr λb hb=>hw b (hF b hb).1 (hF b hb).2,hv⟩⟩⟩
def qO.take{l:List α}{a:Option Addr}{cap k:Nat}(h:qO lo hi w (.slice a l.length cap) l)(hk:k<=l.length):qO lo hi w (.slice a k cap) (l.take k):=⟨h.1,λw' hw=>Ot (h.2 w' hw) k hk⟩
def qO.drop{l:List α}{a:Option Addr}{cap k:Nat}(h:qO lo hi w (.slice a l.length cap) l)(hk:k<=l.length):qO lo hi w (.slice (if cap=k then a else a.map (·.add (k*Rep.size α))) (l.length-k) (cap-k)) (l.drop k):=⟨h.1,λw' hw=>Nv (h.2 w' hw) k hk _ rfl⟩
end
end Go.Sh
namespace Go.Proofs.YtcaakhmhlfgogaaGreatDoor
open Go Go.Sh Go.Proofs
open Rep (rep)
variable {F:List Nat}{P:pG}{W w w':wD}{fld g k off:Nat}
def bB.chgF{bs:List UInt8}{s:cR}(h:bB W g bs s w)(hc:cH F w w')(hg:g∉F)(hl:∀ c∈F,W.heap.size<=c):bB W g bs s w':=by
 obtain⟨v,h0,hx,h2,h3,h4⟩:=h;exact⟨v,h0,hx.chgL hc hl,h2,h3.chg hc hg,h4⟩
def rk{a:Prop}[Decidable a]{Q kt kf:Prop}(hq:a->Q)(key:Q->kt)(rest:(Q->kt)->¬a->kf):BR (.bool (decide a)) kt kf:=br (λh=>key (hq h)) λh=>rest key h
def zFy{γ β:Type}[Rep γ][Rep β]{w w2:wD}{v u:vL}{F G G2:List Nat}{g:Nat}{m2:List β}{upd:List β->γ}
   (hb:∀w' G' l',cH G w w'->aZ G' w' u l'->(∀c∈G',c∈G\/c∉F)->∃F',MH v F' w' (upd l')/\∀c∈F',c∈F\/c∈G') (g4:∀c∈G,c∈F) (hc:cH (g :: G) w w2) (hg:g∉F) (g3:g<w.heap.size)
   (gh:aZ G2 w2 u m2) (hs:∀c∈G2,c∈G):∃F',aZ F' w2 v (upd m2)/\∀c∈F',c∈F:=by
 obtain⟨w3,h3⟩:∃w3:wD,w3={ w2 with heap:=w2.heap.setIfInBounds g w.heap[g] }:=⟨_,rfl⟩;have g0:g<w2.heap.size:=kP g3 hc.size
 have g1:∀c,c≠g->w3.heap[c]?=w2.heap[c]?:=λc g9=>by
   rw[h3];exact Array.getElem?_setIfInBounds_ne (λe=>g9 e.symm)
 have gb:w3.heap[g]?=w.heap[g]?:=by
   rw[h3];show(w2.heap.setIfInBounds g w.heap[g])[g]?=_;rw[Array.getElem?_setIfInBounds_self_of_lt g0,Array.getElem?_eq_getElem g3]
 have gc:w3.heap.size=w2.heap.size:=by rw[h3];simp
 have gd:cH G w w3:=⟨by rw[h3];exact hc.os,by rw[h3];exact hc.tape,by rw[h3];exact hc.output,by rw[gc];exact hc.size,λc gf gg=>by
   by_cases e:c=g
   ·rw[e];exact gb
   rw[g1 c e];exact hc.block c gf (by simp[e,gg])⟩
 have g2:∀c∈G2,c≠g:=λc C e=>hg (by rw[<-e];exact g4 c (hs c C));obtain⟨F',h1,h2⟩:=hb w3 G2 m2 gd (gh.keep λc C=>g1 c (g2 c C)) λc C=>.inl (hs c C);have g5:∀c∈F',c∈F:=λc C=>(h2 c C).elim id λh=>g4 c (hs c h);refine⟨F',aZ.keep h1 λc C=>(g1 c λe=>hg (by rw[<-e];exact g5 c C)).symm,g5⟩
def Qn{α:Type}[Rep α]{t e:TypeId}{by_:Nat}{F:List Nat}{v:vL}{l:List α}{k:Nat}{K:vL->Prop}(ht:P.underlying t=some (.slice e))(he:cT P e=some (Rep.size α,by_,Rep.agg α))(hm:aZ F w v l)(hk:k<l.length)
   (kk:∀b a cap G,v=.slice (some ⟨b,a,none⟩) l.length cap->bT (MH v) F w b (a+k*Rep.size α) G l[k] (λy=>l.set k y)->K (pT b (a+k*Rep.size α))):RD P (Instr.indexAt t v (iV k)) w K:=by
 obtain⟨b,a,cap,G,hv,hL⟩:=Oe hm hk;refine dY (v:=pT b (a+k*Rep.size α)) (λ_ _=>?_) (kk _ _ _ _ hv hL);rw[hv,KS ht he oo oo];simp
def XZ{α:Type}{D r:List α}{x y:α}(h:D.length=k):(D++x :: r).set k y=D++y :: r:=by
 subst h;rw[MQ _ _ (lr _)];simp
def OH{α:Type}{D r:List α}{x:α}(h:D.length=k)(hk:k<(D++x :: r).length):(D++x :: r)[k]=x:=by
 subst h;simp
def MV(l:List aA):Prop:=∀{W w:wD}{g:Nat}{bs:List UInt8}{s:cR}{v vp:vL}{F:List Nat}{lp hp:Nat}{pr:List ByteArray},bB W g bs s w->aZ F w v l->g∉F->(∀c∈F,W.heap.size<=c)->qO lp hp w vp pr->(g<lp\/hp<=g)->(∀c∈F,c<lp\/hp<=c)->0<pr.length->pr.length<=1000 ->
 aJ tp 72 [pT g 0,v,vp] w λr w'=>r=v/\cH (g :: F) w w'/\bB W g bs (kA bs pr l s).2 w'/\∃F',aZ F' w' v (kA bs pr l s).1/\∀c∈F',c∈F
def cw{sel:aA->List aA}{put:aA->List aA->aA}(gi:fG tp 117 fld=some off)(gK:∀ x m m',put (put x m) m'=put x m')(gL:∀ x m,sel (put x m)=m)
   (hl:∀{H:List Nat->wD->List aA->Prop}{F:List Nat}{w:wD}{b o:Nat}{G:List Nat}{x:aA}{upd:aA->List aA},bT H F w b o G x upd->∃G1,bT H F w b (o+off) G1 (sel x) (λy=>upd (put x y)))
   {W w:wD} {g k:Nat} {bs:List UInt8} {s:cR} {v vp:vL} {F:List Nat} {lp hp:Nat} {pr:List ByteArray} {D r:List aA} {y:aA} {K:wD->Prop} (hC:bB W g bs s w) (hM:aZ F w v (D++y :: r)) (hD:D.length=k) (g1:g∉F) (gj:∀c∈F,W.heap.size<=c)
   (hP:qO lp hp w vp pr) (gl:g<lp\/hp<=g) (g9:∀c∈F,c<lp\/hp<=c) (gy:0<pr.length) (gz:pr.length<=1000) (ih:MV (sel y))
   (kk:∀w' F',cH (g :: F) w w'->bB W g bs (kA bs pr (sel y) s).2 w'->aZ F' w' v (D++put y (kA bs pr (sel y) s).1 :: r)->(∀c∈F',c∈F)->qO lp hp w' vp pr->K w') :
   RD tp (Instr.indexAt 60 v (iV k)) w λx44=>RD tp (Instr.fieldAt 117 x44 fld) w λx45=>RD tp (Instr.loadAt 60 x45) w λx46=>
     aJ tp 72 [pT g 0,x46,vp] w λx48 w=>RD tp (Instr.indexAt 60 v (iV k)) w λx49=>RD tp (Instr.fieldAt 117 x49 fld) w λx50=>
     fA tp (Instr.storeAt 60 x50 x48) w λw=>K w:=by
 have gf:k<(D++y :: r).length:=by simp;omega
 refine Qn fJ fB hM gf λb a _ G hv hL=>?_;rw[OH hD gf]at hL;obtain⟨_,g5⟩:=hl hL;obtain⟨_,_,_,_,_,gr,_⟩:=g5.here;have gg:b∈F:=g5.sub b ss;obtain⟨ub,gs,gh,C,gt⟩:=g5.row;refine aE gi<|xZ fW gh<|(ih hC gs (λh=>g1 (C _ h)) (λc hc=>gj c (C c hc)) hP gl (λc hc=>g9 c (C c hc)) gy gz).mono ?_;rintro _ w3 ⟨gA,g2,gB,_,gb,gc⟩;rw[gA];obtain⟨_,gn,M⟩:=zFy gt C g2 g1 hC.lt.2 gb gc;rw[XZ hD]at gn
 have gC:=hP.chgF g2 λc hc=>by
   rcases bF.1 hc with rfl|h
   ·exact gl
   exact g9 c (C c h)
 have g0:k<(D++put y (kA bs pr (sel y) s).1 :: r).length:=by simp;omega
 refine Qn fJ fB gn g0 λb5 a5 _ _ g3 gp=>?_;rw[OH hD g0]at gp
 have gD:b5=b/\a5=a:=by
   rw[hv]at g3;simp only[Value.slice.injEq,iU,Addr.mk.injEq,and_true]at g3;exact⟨g3.1.1.symm,g3.1.2.symm⟩
 obtain⟨rfl,rfl⟩:=gD;obtain⟨_,gq⟩:=hl gp;obtain⟨u6,gE,gF,gG,_⟩:=gq.row
 have gH:w3.heap[b5]?=w.heap[b5]?:=g2.block b5 (hM.lt b5 gg) (by
   simp only[bF,not_or];exact⟨λe=>g1 (by rw[<-e];exact gg),gr⟩)
 have gI:u6=ub:=by
   have h1:=gF 0 u6 rfl;have h2:=(yT gh gH) 0 ub rfl;rw[h1]at h2;exact Ez h2
 subst gI;refine aE gi<|WX fW gq gE (λc hc=>.inl hc) λw4 gd ⟨F4,g4,gJ⟩=>?_;have g4:aZ F4 w4 v ((D++put y (kA bs pr (sel y) s).1 :: r).set k (put (put y (kA bs pr (sel y) s).1) (sel (put y (kA bs pr (sel y) s).1)))):=g4;rw[XZ hD,gK,gL]at g4;refine kk w4 F4 ((g2.mono λc hc=>?_).trans (gd.mono λc hc=>by simp[M c hc])) (gB.chgF gd (λh=>g1 (M _ h)) λc hc=>gj c (M c hc)) g4 (λc hc=>?_) (gC.chgF gd λc hc=>g9 c (M c hc))
 ·rcases bF.1 hc with rfl|hc
  ·simp
  simp[C c hc]
 rcases gJ c hc with h|h
 ·exact M c h
 exact M c (gG c h)
def vx{bs:List UInt8}{pr:List ByteArray}(x:aA)(s:cR){n:ByteArray}{s2:cR}(h:(if x.kind=4\/x.kind=5 then(nT bs pr s,cU bs (pr.length:Int) s)else(x.name,s))=(n,s2)) :
   zK bs pr x s=(.mk x.kind n x.term (kA bs pr x.body s2).1 (kA bs pr x.els (kA bs pr x.body s2).2).1,(kA bs pr x.els (kA bs pr x.body s2).2).2):=by
 obtain⟨k,nm,t,b,e⟩:=x;have h:(if k=4\/k=5 then(nT bs pr s,cU bs (pr.length:Int) s)else(nm,s))=(n,s2):=h;show _=(aA.mk k n t (kA bs pr b s2).1 (kA bs pr e (kA bs pr b s2).2).1,(kA bs pr e (kA bs pr b s2).2).2);by_cases hk:k=4\/k=5
 ·rw[aP hk]at h;simp only[mV]at h;obtain⟨rfl,rfl⟩:=h;rw[zK,aP hk]
 rw[aH hk]at h;simp only[mV]at h;obtain⟨rfl,rfl⟩:=h;rw[zK,aH hk]
def Of(x:aA)(m:List aA):aA:=.mk x.kind x.name x.term m x.els
def Xx(x:aA)(m:List aA):aA:=.mk x.kind x.name x.term x.body m
def Mb{l:List aA}(ih:∀ x∈l,MV x.body/\MV x.els):MV l:=by
 intro W w g bs s v vp F lp hp pr hC hM gb gd hP gf gg gy gz;have:=fD hM.is;refine co (g:=kf [(6,549755797504,[])] [(2,9223372036854775680,[7])] []) Tryz.func72 ?_
 refine bV l.length (λk us w'=>us=[iV k]/\∃(D:List aA)(s1:cR)(F1:List Nat),D.length=k/\k<=l.length/\kA bs pr l s=(D++(kA bs pr (l.drop k) s1).1,(kA bs pr (l.drop k) s1).2)/\cH (g :: F) w w'/\bB W g bs s1 w' /\
     aZ F1 w' v (D++l.drop k)/\(∀c∈F1,c∈F)/\qO lp hp w' vp pr) 0 (z0 _) ⟨rfl,[],s,F,rfl,z0 _,ss,cH.refl _ _,hC,by simpa using hM,λ_ h=>h,hP⟩ ?_
 rintro k m _ _ _ ⟨hu,D,s1,F1,hD,_,g0,gh,gi,O,V,gj⟩;try replace hu:=cJ hu
 rw[hu];refine aX fJ O.is ?_;have gl:(D++l.drop k).length=l.length:=by simp;omega
 rw[gl];refine bM<|br (λ_=>?_) λ_=>?_
 ·have hk:k<l.length:=oo;obtain⟨x,hx⟩:∃x,x=l[k]:=⟨_,rfl⟩;have gA:x∈l:=by rw[hx];exact cY hk
  have gB:l.drop k=x :: l.drop (k+1):=by rw[hx];exact tD hk
  rw[gB]at O;rw[gB,kA]at g0;have C:k<(D++x :: l.drop (k+1)).length:=by simp;omega
  refine dJ.mk (λus w'=>∃F2 n s2,cH (g :: F) w w'/\bB W g bs s2 w'/\aZ F2 w' v (D++aA.mk x.kind n x.term x.body x.els :: l.drop (k+1))/\(∀c∈F2,c∈F)/\qO lp hp w' vp pr /\
      (if x.kind=4\/x.kind=5 then(nT bs pr s1,cU bs (pr.length:Int) s1)else(x.name,s1))=(n,s2)) ?_ ?_
  ·refine bC fJ fB O.is C λ_ _ g1=>?_;rw[OH hD C]at g1;refine aE vZ<|aS aG (yI g1) xx λ_=>bI<|rk (Q:=x.kind=4\/x.kind=5) .inl (λhQ=>?_) λgC _=>?_
   ·refine aX cL gj.is<|(LM gi oo).mono ?_;rintro _ w2 ⟨gn,gp,rfl⟩;have g2:=gn.toC
    have gq:=O.chgF g2 λc hc h=>by
      simp only[oY]at h;exact gb (h▸V c hc)
    have gc:=gj.chgF g2 λc hc=>by
      simp only[oY]at hc;exact hc▸gf
    have gD:=EU bs (n:=(pr.length:Int)) oo s1;refine wR cL cG gc.is gD.1 oo λ_ _ gr=>eV cG gr xx λgs=>JN fJ fB gq C λ_ _ _ g3=>?_;rw[OH hD C]at g3;refine aE oB ?_;obtain⟨_,gt⟩:=Vh g3;refine KU cG gt (Jm gs) λw3 F3 g4 Z gx=>?_;have Z:aZ F3 w3 v ((D++x :: l.drop (k+1)).set k (.mk x.kind (pr[(mW bs (pr.length:Int) s1).toNat]'(by omega)) x.term x.body x.els)):=Z;rw[XZ hD]at Z;refine⟨F3,_,_,((gh.trans (g2.mono ss)).trans (g4.mono λc hc=>by simp[V c hc])),gp.chgF g4 (λh=>gb (V _ h)) (λc hc=>gd c (V c hc)),Z,λc hc=>V c (gx c hc),gc.chgF g4 (λc hc=>gg c (V c hc)),?_⟩;rw[aP hQ];unfold nT;rw[<-YG oo]
   refine bC fJ fB O.is C λ_ _ g5=>?_;rw[OH hD C]at g5;refine aE vZ<|aS aG (yI g5) xx λ_=>bI<|br (λh5=>gC (.inr h5)) λh5=>⟨F1,x.name,s1,gh,gi,by rw[aA.eta];exact O,V,gj,by rw[aH oo]⟩
  rintro _ w2 ⟨F2,n,s2,g2,gp,gq,g9,gc,hn⟩;have gE:=vx x s1 hn;rw[gE]at g0;refine cw (fld:=3) (sel:=aA.body) (put:=Of) rZ (λ_ _ _=>rfl) (λ_ _=>rfl) Qk gp gq hD (λh=>gb (g9 _ h)) (λc hc=>gd c (g9 c hc)) gc gf (λc hc=>gg c (g9 c hc)) gy gz (ih x gA).1 λw3 F3 g4 gF Z gx gG=>?_;have M:∀c∈F3,c∈F:=λc hc=>g9 c (gx c hc);refine cw (fld:=4) (sel:=aA.els) (put:=Xx) pU (λ_ _ _=>rfl) (λ_ _=>rfl) Nw gF Z hD (λh=>gb (M _ h)) (λc hc=>gd c (M c hc)) gG gf (λc hc=>gg c (M c hc)) gy gz (ih x gA).2 λ_ F4 gH gI gJ gK gL=>aU<|⟨m-1,oo,k+1,oo,rfl,D++[aA.mk x.kind n x.term (kA bs pr x.body s2).1 (kA bs pr x.els (kA bs pr x.body s2).2).1],_,F4,by simp[hD],oo,?_,(g2.trans (g4.mono λc hc=>?_)).trans (gH.mono λc hc=>?_),gI,?_,λc hc=>M c (gK c hc),gL⟩
  ·rw[g0];simp[aA.body,aA.els,Of]
  ·rcases bF.1 hc with rfl|hc
   ·simp
   simp[g9 c hc]
  ·rcases bF.1 hc with rfl|hc
   ·simp
   simp[M c hc]
  simpa[Xx,Of,aA.body,aA.els,aA.kind,aA.name,aA.term]using gJ
 have hk:k=l.length:=oo;subst hk;rw[BA,D5]at g0;rw[BA]at O;rw[g0];exact⟨rfl,gh,gi,F1,O,V⟩
def yp(l:List aA):MV l:=by
 refine Mb λx _=>aA.ind (p:=λx=>MV x.body/\MV x.els) (λ_ hb he=>⟨?_,?_⟩) x
 ·intro W w g bs s v vp F lp hp pr;exact Mb hb
 intro W w g bs s v vp F lp hp pr;exact Mb he
abbrev lU:=Except bY (Nat×Nat)
def Je(L:List aT):lU->Nat->bY->Nat->Prop
 |.ok (a,b),i,f,q=>i=a/\f=⟨0,0⟩/\q=b/\a<=L.length
 |.error h,i,f,q=>f=h/\h.code≠0
section
variable {W w w':wD}{g:Nat}{L:List aT}{v:vL}{e:Int}{st:lU}
theorem xo{i q:Nat}{f:bY}(h:Je L st i f q)(h0:f.code=0):st=.ok (i,q)/\f=⟨0,0⟩/\i<=L.length:=by
 cases st with
 |ok p=>obtain⟨_,_⟩:=p;obtain⟨rfl,h2,rfl,h4⟩:=h;exact⟨rfl,h2,h4⟩
 |error k=>obtain⟨rfl,h2⟩:=h;exact absurd h0 h2
theorem lu{i q:Nat}{f:bY}(h:Je L st i f q)(h0:f.code≠0):st=.error f:=by
 cases st with
 |ok p=>obtain⟨_,_⟩:=p;obtain⟨rfl,h2,rfl,_⟩:=h;rw[h2]at h0;exact absurd rfl h0
 |error k=>obtain⟨rfl,h2⟩:=h;rfl
end
section
variable (L:List aT)(e:Int)
def Kf(st:lU)(t:ByteArray):Bool:=match st with|.ok (i,_)=>decide (eE L i t)|.error _=>false
def Np(st:lU):Bool:=match st with|.ok (i,_)=>cK (cV L i)|.error _=>false
def Pm(c:Int)(st:lU):lU:=match st with|.ok (i,_)=>.error (mQ L e c i)|.error f=>.error f
def P3(st:lU):lU:=match st with|.ok (i,q)=>.ok (i+1,q)|.error f=>.error f
def ET(t:ByteArray)(st:lU):lU:=if Kf L st t=true then P3 st else Pm L e 3 st
def JD(st:lU):lU:=if Np L st=true then P3 st else Pm L e 3 st
def KC(st:lU):ByteArray:=match st with|.ok (i,_)=>if cK (cV L i)=true then cV L i else ByteArray.mk #[]|.error _=>ByteArray.mk #[]
end
section
variable {W w:wD}{g:Nat}{L:List aT}{v:vL}{e:Int}{st:lU}
def CM{t:ByteArray}{i q:Nat}(h:eE L i t):ET L e t (.ok (i,q))=.ok (i+1,q):=by unfold ET;rw[aP (show Kf L (.ok (i,q)) t=true from decide_eq_true h)];rfl
def CZ{t:ByteArray}{i q:Nat}(h:¬eE L i t):ET L e t (.ok (i,q))=.error (mQ L e 3 i):=by
 have h1:Kf L (.ok (i,q)) t=false:=decide_eq_false h;unfold ET;rw[h1];rfl
def sB{t:ByteArray}{i:Nat}(h:eE L i t):rP L e t i=.ok ((),i+1):=by unfold rP;rw[aP h]
def FX{t:ByteArray}{i:Nat}(h:¬eE L i t):rP L e t i=.error (mQ L e 3 i):=by unfold rP;rw[aH h]
end
end Go.Proofs.YtcaakhmhlfgogaaGreatDoor
namespace Go.Sh
open Rep (rep)
structure fZ(g lo:Nat)(w w':wD):Prop where
 os:w'.os=w.os
 tape:w'.tape=w.tape
 output:w'.output=w.output
 size:w.heap.size<=w'.heap.size
 block:∀b,b<w.heap.size->b<lo->b≠g->w'.heap[b]?=w.heap[b]?
section
variable {g lo:Nat}{w w' w2:wD}{α:Type}[Rep α]
def fZ.refl(g lo:Nat)(w:wD):fZ g lo w w:=⟨rfl,rfl,rfl,lr _,λ_ _ _ _=>rfl⟩
def fZ.trans(h:fZ g lo w w')(k:fZ g lo w' w2):fZ g lo w w2:=
 ⟨k.os.trans h.os,k.tape.trans h.tape,k.output.trans h.output,eH h.size k.size,λb h1 h2 h3=>(k.block b (kP h1 h.size) h2 h3).trans (h.block b h1 h2 h3)⟩
def fZ.mono{lo2:Nat}(h:fZ g lo w w')(hl:lo2<=lo):fZ g lo2 w w':=⟨h.os,h.tape,h.output,h.size,λb h1 h2 h3=>h.block b h1 oo h3⟩
def aB.upG(h:aB w w'):fZ g lo w w':=⟨h.os,h.tape,h.output,h.size,λb h1 _ _=>h.block b h1⟩
def aN.upG1(h:aN g (g+1) w w'):fZ g lo w w':=⟨h.os,h.tape,h.output,h.size,λb h1 _ h3=>h.block b h1 oo⟩
def aN.upG{a b:Nat}(h:aN a b w w')(ha:lo<=a):fZ g lo w w':=⟨h.os,h.tape,h.output,h.size,λc h1 h2 _=>h.block c h1 oo⟩
def cH.upG{F:List Nat}(h:cH (g :: F) w w')(hF:∀ c∈F,lo<=c):fZ g lo w w':=⟨h.os,h.tape,h.output,h.size,λc h1 h2 h3=>h.block c h1 λhm=>by
 rcases bF.1 hm with e|hm
 ·exact h3 e
 have:=hF c hm;omega⟩
def fZ.toI(h:fZ g lo w w')(hl:w.heap.size<=lo):aN g (g+1) w w':=⟨h.os,h.tape,h.output,h.size,λb h1 h2=>h.block b h1 oo oo⟩
def cA.upG{b e:Nat}{cs:List vL}(h:cA b e w cs)(hu:fZ g lo w w')(h1:b<lo)(h2:b≠g):cA b e w' cs:=h.keep (hu.block b h.lt h1 h2)
def aK.upG{a b:Nat}{v:vL}{x:α}(h:aK a b w v x)(hu:fZ g lo w w')(h1:b<=lo)(h2:g<a\/b<=g):aK a b w' v x:=by
 obtain⟨F,hm,hF⟩:=h;exact⟨F,hm.keep λc hc=>hu.block c (hm.lt c hc) (by have:=hF c hc;omega) (by have:=hF c hc;omega),hF⟩
def bQ.upG{a b e:Nat}{v:vL}{l:List α}(h:bQ a b e w v l)(hu:fZ g lo w w')(h1:b<=lo)(h2:g<a\/b<=g):bQ a b e w' v l:=by
 obtain⟨F,hm,hn,hF⟩:=LV.1 h;exact LV.2 ⟨F,hm.keep λc hc=>hu.block c (hm.lt c hc) (by have:=hF c hc;omega) (by have:=hF c hc;omega),hn,hF⟩
def qO.upG{a b:Nat}{v:vL}{x:α}(h:qO a b w v x)(hu:fZ g lo w w')(h1:b<=lo)(h2:g<a\/b<=g):qO a b w' v x:=
 ⟨eH h.1 hu.size,λw3 h3=>h.2 w3 λc h4 h5=>(h3 c h4 h5).trans (hu.block c (kP h5 h.1) oo oo)⟩
def da{v:vL}{x:α}(h:aK lo lo w v x):aZ [] w v x:=by
 obtain⟨F,hm,hF⟩:=h;have:F=[]:=Mm.2 λc hc=>by have:=hF c hc;omega
 subst this;exact hm
def WH{hi:Nat}{n:ByteArray}{vb:vL}{l:List aA}(hn:n.size<=maxLen)(h:aK lo hi w vb l):aK lo hi w (.agg #[.string n,vb]) (⟨n,l⟩:aQ):=by
 obtain⟨F,⟨⟨_,hr,hv⟩,g0,hw⟩,hF⟩:=h;obtain⟨_,rfl⟩:=WA hr;simp only[fF,Rep.agg,cond_false,EM]at hv;subst hv;exact⟨F,⟨⟨[.string n,vb],oO (F:=[]) (c1:=[.string n]) (show rep [] w [.string n] n from⟨rfl,rfl,hn⟩) hr,rfl⟩,g0,hw⟩,hF⟩
def WS{a b c:vL}{p:aY}{lo hi l0 h0 l1 h1 l2 h2:Nat}(m0:aK l0 h0 w a p.B)(m1:aK l1 h1 w b p.L)(m2:aK l2 h2 w c p.P)(d01:h0<=l1\/h1<=l0)(d02:h0<=l2\/h2<=l0)(d12:h1<=l2\/h2<=l1)
   (b0:lo<=l0/\h0<=hi) (b1:lo<=l1/\h1<=hi) (b2:lo<=l2/\h2<=hi):aK lo hi w (.agg #[a,b,c]) p:=by
 obtain⟨F0,M0,B0⟩:=m0;obtain⟨F1,M1,B1⟩:=m1;obtain⟨F2,M2,B2⟩:=m2;refine⟨F0++(F1++F2),⟨⟨[a,b,c],oO (AJ rfl M0.own) (oO (AJ rfl M1.own) (AJ rfl M2.own)),rfl⟩,?_,M0.wr.append (M1.wr.append M2.wr)⟩,λx hx=>?_⟩
 ·rw[oE,oE];refine⟨M0.nodup,⟨M1.nodup,M2.nodup,λp hp q hq e=>?_⟩,λp hp q hq e=>?_⟩
  ·subst e;have:=B1 p hp;have:=B2 p hq;omega
  subst e;have:=B0 p hp;rcases dF.1 hq with hq|hq
  ·have:=B1 p hq;omega
  have:=B2 p hq;omega
 rcases dF.1 hx with hx|hx
 ·have:=B0 x hx;omega
 rcases dF.1 hx with hx|hx
 ·have:=B1 x hx;omega
 have:=B2 x hx;omega
end
end Go.Sh
namespace Go.Proofs.YtcaakhmhlfgogaaGreatDoor
open Go Go.Sh Go.Proofs
open Rep (rep)
variable {K:vL->Prop}{O g gp hi i k lo n q:Nat}{P:pG}{W W0 w:wD}{s:ByteArray}{v v0 v1:vL}
section
variable {w:wD}{K:VW}
def Hf(k:∀ v w',aB w w'->aK w.heap.size w'.heap.size w' v lks->K v w'):OP tp (Instr.buildSlice 26 3 #[(0,(Value.string (ByteArray.mk #[97]))),(1,(Value.string (ByteArray.mk #[98]))),(2,(Value.string (ByteArray.mk #[109])))]) w K:=
 zP (vs:=lks.map Value.string) (l:=lks) cL cG EO dD kK rfl (λw=>DR dD) k
def zHp(k:∀ v w',aB w w'->aK w.heap.size w'.heap.size w' v glb->K v w'):OP tp (Instr.buildSlice 26 4 #[(0,(Value.string (ByteArray.mk #[120]))),(1,(Value.string (ByteArray.mk #[121]))),(2,(Value.string (ByteArray.mk #[122]))),(3,(Value.string (ByteArray.mk #[117])))]) w K:=
 zP (vs:=glb.map Value.string) (l:=glb) cL cG EO dD kK rfl (λw=>DR dD) k
def vj(k:∀ v w',aB w w'->aK w.heap.size w'.heap.size w' v nE->K v w'):OP tp (Instr.buildSlice 26 4 #[(0,(Value.string (ByteArray.mk #[109,97,105,110]))),(1,(Value.string (ByteArray.mk #[112]))),(2,(Value.string (ByteArray.mk #[113]))),(3,(Value.string (ByteArray.mk #[114])))]) w K:=
 zP (vs:=nE.map Value.string) (l:=nE) cL cG EO dD kK rfl (λw=>DR dD) k
end
mutual
theorem zFB:∀(x:aA)(n:Int),0<=n->-1<=CK x n/\CK x n<=n
  | .mk k s t b e,n,hn=>by
    rw[CK];have h1:=YN b (n-1) oo;have h2:=YN e (rE b (n-1)) h1.1;omega
theorem YN:∀(l:List aA)(n:Int),-1<=n->-1<=rE l n/\rE l n<=n
  |[],n,hn=>by rw[rE];omega
  | x :: l,n,hn=>by
    rw[rE];split
    ·rename_i h;have h1:=zFB x n h;have h2:=YN l (CK x n) h1.1;omega
    omega
end
def zB4(x:aA)(n:Int):CK x n=rE x.els (rE x.body (n-1)):=by cases x;rw[CK];rfl
def NM(l:List aA):Prop:=∀{w W:wD}{v:vL}{n:Int},Is W v l->aB W w->-1<=n->n<=1000->aJ tp 69 [v,iV n] w λr w'=>aB w w'/\(r=iV (rE l n))
def Nj{l:(List aA)}{n:Int} (h0:Is W0 v0 l)(e0:aB W0 w)(ih:∀ x∈l,NM x.body/\NM x.els)(g4:-1<=n)(g5:n<=1000) :
   aJ tp 69 [v0,iV n] w λr w'=>aB w w'/\(r=iV (rE l n)):=by
 refine co (g:=kf [] [(2,1073741794,[1,5])] [(4,[0,1,2,3,4,5,6,7,8,9,10,11,12,13,14],4096)]) Tryz.func69 ?_;refine bV (l.length) (λk us w'=>∃(n1:Int),us=[iV n1,iV k]/\aB w w'/\(rE l n=rE (l.drop k) n1/\-1<=n1/\n1<=1000/\k<=l.length)) (0) oo ⟨n,rfl,xx,ss,g4,g5,oo⟩ ?_;rintro k m2 _ g9 _ ⟨n1,hu,y1,g0,_,_,_⟩;obtain⟨g1,g2⟩:=dQ hu;try rw[g1]
 try rw[g2]
 try clear g1 g2
 have:=fD h0;refine aX fJ h0<|bM<|br (λc1=>?_) λc1=>?_
 ·refine pD ?_;refine br (λc2=>?_) λc2=>?_
  ·have y2:=cO g9;have hk:k<l.length:=oo;have g3:=YN (l[k]).body (n1-1) oo;refine bC fJ fB h0 oo λ_ _ gb=>aE pU<|aL fW (yC gb) xx λ_ gc=>bC fJ fB h0 oo λ_ _ gd=>aE rZ<|aL fW (AO gd) xx λ_ gf=>kQ io<|((ih _ (cY hk)).1 gf xx oo oo).mM λ_ y3=>?_;refine⟨y3,?_⟩;refine((ih _ (cY hk)).2 gc xx g3.1 oo).mM λ_ y4=>aU<|⟨m2-1,oo,k+1,oo,_,rfl,xx,?_⟩;have:=YN (l[k]).els _ g3.1;refine⟨?_,oo,oo,oo⟩;rw[g0,tD hk,rE,aP oo,zB4]
  refine⟨y1,?_⟩;rw[g0];cases h:l.drop k with
  |nil=>rw[rE]
  |cons x r=>rw[rE,aH oo]
 refine⟨y1,?_⟩;rw[g0,Bg oo,rE]
def Sn(l:List aA):NM l:=by
 have h:∀x:aA,NM x.body/\NM x.els:=λx=>by
   refine aA.ind (p:=λx=>NM x.body/\NM x.els) (λ_ hb he=>⟨?_,?_⟩) x
   ·intro w W v n h e h0 h1;exact Nj h e hb h0 h1
   intro w W v n h e h0 h1;exact Nj h e he h0 h1
 intro w W v n hv e h0 h1;exact Nj hv e (λx _=>h x) h0 h1
def vg{bs:List UInt8}{s:cR}{body:List aA}(hC:bB W g bs s w)(h1:aK O gp w v1 body)(hlo:O<=w.heap.size)(hhi:gp<=w.heap.size)(hg1:g<O)(hbl:body.length<=1000) :
   aJ tp 71 [pT g 0,v1] w λr w'=>fZ g O w w'/\bB W g bs (NK bs body s).2 w'/\bQ O w'.heap.size 117 w' r (NK bs body s).1:=by
 have:=hC.lt;have gd:((lks.length:Nat):Int)=3:=rfl;refine co (g:=kf [(6,536739968,[7])] [] []) Tryz.func71 ?_;refine Hf λ_ _ g1 o9=>?_;have:=g1.size;refine(LI (hC.ext g1) o9 oo oo oo dD dD).mono ?_;rintro _ _ ⟨g9,gf,rfl,D⟩;have:=g9.size;rw[gd]at gf;refine Hf λ_ _ g2 gq=>?_;have:=g2.size;refine(LI (gf.ext g2) gq oo oo oo dD dD).mono ?_;rintro _ w4 ⟨gb,gg,rfl,g0⟩;have:=gb.size;rw[gd]at gg;refine MG (lo:=w4.heap.size) (hi:=w4.heap.size) (lr _) io D λ_ gh=>CU (β:=aA) fJ fB PK dD (da gh) λgi _ V gc=>?_;have:=V.size;have gj:=gg.ext V;obtain⟨na,g3⟩:∃x,x=nT bs lks s:=⟨_,rfl⟩;obtain⟨nb,g4⟩:∃x,x=nT bs lks (cU bs 3 s):=⟨_,rfl⟩;rw[<-g3]at D gh gc;rw[<-g4]at g0;rw[<-g3,<-g4]
 have hg:NK bs body s=(if na=nb then(uM na :: (body++[BP na]),cU bs 3 (cU bs 3 s))else if mW bs 2 (cU bs 3 (cU bs 3 s))=0 then(uM na :: uM nb :: (body++[BP na]),cU bs 2 (cU bs 3 (cU bs 3 s)))
     else(uM na :: (body++[BP na]),cU bs 2 (cU bs 3 (cU bs 3 s)))):=by unfold NK;rw[<-g3,<-g4]
 clear g3 g4;refine dJ.mk (λus w'=>∃v l s',us=[v]/\aN g (g+1) w4 w'/\bB W g bs s' w'/\bQ w4.heap.size w'.heap.size 117 w' v l/\l.length<=2/\NK bs body s=(l++(body++[BP na]),s')) ?_ ?_
 ·refine GK ?_;refine br (λgl=>?_) λhe=>?_
  ·refine(Ai gj oo).mono ?_;rintro _ w6 ⟨C,g5,rfl⟩;have gr:=C.size;have r6:=gc.chg C oo;refine br (λh0=>?_) λh0=>?_
   ·refine MG (lo:=w6.heap.size) (hi:=w6.heap.size) (lr _) io g0 λ_ gs=>?_;refine oS (α:=aA) fJ fB PK NQ dD r6 oo gs oo oo (by rw[eB];simp) ss λgt w7 M gx=>⟨gt,[uM na,uM nb],_,rfl,aN.out (V.toI.trans C) M oo,g5.chg M oo oo,gx,ss,?_⟩;rw[hg,aH gl,aP h0];rfl
   refine⟨gi,[uM na],_,rfl,V.toI.trans C,g5,r6.mono oo oo,ss,?_⟩;rw[hg,aH gl,aH h0];rfl
  refine⟨gi,[uM na],_,rfl,V.toI,gj,gc,ss,?_⟩;rw[hg,aP (eK.1 he)];rfl
 rintro _ w6 ⟨v,l,s',hu,C,g5,r6,_,gy⟩;try replace hu:=cJ hu
 rw[hu,gy];have gr:=C.size;refine Ph (α:=aA) (lo0:=O) fJ fB NQ r6 oo ((((((h1.ext g1).chg g9 oo).ext g2).chg gb oo)).chg C oo) oo oo oo (by rw[eB];omega) oo λ_ w7 M gA=>?_;have:=M.size;refine MG (lo:=w7.heap.size) (hi:=w7.heap.size) (lr _) io D λ_ gB=>oS (α:=aA) fJ fB PK NQ dD gA oo gB oo oo (by rw[eB,bX];omega) (by rw[bX];omega) λ_ _ gn gC=>⟨(((g1.upG.trans g9.upG1).trans (g2.upG.trans gb.upG1)).trans C.upG1).trans ((M.upG oo).trans (gn.upG oo)),(g5.chg M oo oo).chg gn oo oo,?_⟩;simpa[BP]using gC
def vh{X:Nat->Prop}{m:Sem vL}(h:∀ w':wD,m.run P w'=.ok v w')(k:K v):lH P X m w K:=⟨v,λw' _=>h w',k⟩
def zzl(bs:List UInt8)(s:cR):2<=(FB bs s).length/\(FB bs s).length<=4:=by
 have:=Qh bs s;unfold FB;rw[fY];show 2<=min _ 4/\min _ 4<=4;omega
def qv(L:List aT)(e:Int):Nat->Nat->Rd aD
 |0=>λi=>.error (mQ L e 4 i)
 |r+1=>λi=>tT L e (sG L e r) (i+1)
def JT{L:List aT}{e:Int}(room i:Nat):sG L e room i=yB L e (qv L e room) i:=by cases room<;>rfl
def vq(hk:k<10):aJ tp 185 [iV k] w λr w'=>aB w w'/\r=.string (fM[k]'(by simpa[fM]using hk)):=by
 refine co (g:=kf [] [] []) Tryz.func185 ?_;refine zP (l:=fM) (vs:=fM.map Value.string) cL cG EO dD kK rfl (λw=>DR dD) λ_ _ g0 g1=>bC (i:=k) cL cG g1.is (by simpa[fM]using hk) λ_ _ hA=>eV cG hA xx λ_=>⟨g0,rfl⟩
def mg:∀(k:Nat)(hk:k<10),3<=k->k≠8->∀t:ByteArray,(t=fM[k]'(by simpa[fM]using hk)↔vP t=k):=by
 intro k hk _ _ t;have hc:k=3\/k=4\/k=5\/k=6\/k=7\/k=9:=oo;rcases hc with rfl|rfl|rfl|rfl|rfl|rfl
 all_goals
   constructor
   ·intro h;rw[h];simp only[fM,Ju,Cm];decide
   intro h;unfold vP at h;repeat' split at h
   all_goals first|(simp only[fM,Ju,Cm];assumption)|(exfalso;omega)
def pL{α:Type}(r:Rd α)(st:lU)(ok:α->Nat->Prop):Prop:=match r with|.error f=>st=.error f|.ok (x,j)=>ok x j
theorem RL{α β:Type}{r:Rd α}{k:α->Nat->Rd β}{g1:α->Nat->Prop}{g2:β->Nat->Prop}{g3 g0:lU}(h:pL r g3 g1)(he:∀ f,g3=.error f->g0=.error f)(hk:∀ x j,g1 x j->pL (k x j) g0 g2):pL (r.go k) g0 g2:=by
 match r,h with
 |.error f,h=>exact he f h
 |.ok (x,j),h=>exact hk x j h
def Gp{L:List aT}{e:Int}{t:ByteArray}:pL (rP L e t i) (ET L e t (.ok (i,q))) (λ_ j=>ET L e t (.ok (i,q))=.ok (j,q)):=by
 by_cases h:eE L i t
 ·rw[sB h];exact CM h
 rw[FX h];exact CZ h
def AB(L:List aT)(e:Int):Nat->nV
 |0=>λ_ i=>.error (mQ L e 4 i)
 |r+1=>tS L e (qV L e r)
def Sq{L:List aT}{e:Int}(room q i:Nat):qV L e room q i=yS L e (decide (room=0)) (AB L e room) (q+1) q i:=by cases room<;>rfl
theorem Zo{L:List aT}{e:Int}:∀room,JX (AB L e room)
 |0=>λ_ _ _ _ _ h=>by cases h
 |r+1=>ay (V5 r)
section
variable {W w w0 w1 w':wD}{g n1 n2:Nat}{L:List aT}{v:vL}{e:Int}{st st':lU}{x x':aA}
end
def Hi(k:Int)(s:ByteArray):List vL:=[iV k,.string s,iV 0,iV 0,.string nO,.slice none 0 0,.slice none 0 0,.slice none 0 0]
def Jx{k:Int}(hl:lo<=hi)(hk:bR k)(hs:s.size<=maxLen):aK lo hi w (.agg (Hi k s).toArray) (aA.mk k s bA [] []):=
 QH (l0:=lo) (h0:=lo) (l1:=lo) (h1:=lo) (l2:=lo) (h2:=lo) hk hs EJ pB pB oo oo oo oo oo oo
def sx(hk:k<9):aJ tp 105 [iV k] w λr w'=>aB w w'/\r=.string (oV[k]'(by simpa[oV]using hk)):=by
 refine co (g:=kf [] [] []) Tryz.func105 ?_;refine zP (l:=oV) (vs:=oV.map Value.string) cL cG EO dD kK rfl (λw=>DR dD) λ_ _ g0 g1=>bC (i:=k) cL cG g1.is (by simpa[oV]using hk) λ_ _ hA=>eV cG hA xx λ_=>⟨g0,rfl⟩
def xa{t:ByteArray}:cK t=true↔fQ t=1:=by
 constructor
 ·intro h
  have hk:t∉kw:=by
    unfold cK at h;simp only[iA,xX,decide_eq_false_iff_not]at h;exact h.2
  simp only[kw,bF,dL,dI,not_or]at hk;unfold fQ;simp only[hk,if_false,h,if_true]
 exactλh=>(Ke t).2 h
section
variable {L:List aT}{e:Int}{room:Nat}
end
theorem FM{t:aD}(h:fK n t=true):(∃v,0<=v/\v<=1000000000/\t=.mk 1 v lS [])\/(∃s,cK s=true/\t=.mk 2 0 s []) \/
   (∃m a,n=m+1/\t=.mk 8 0 lS [a]/\fK m a=true)\/∃m a b,∃k:Nat,n=m+1/\t=.mk (k:Int) 0 lS [a,b]/\fK m a=true/\fK m b=true/\3<=k/\k<=9/\k≠8:=by
 obtain⟨k,v,s,ks⟩:=t;by_cases h1:k=1
 ·rw[CV (t:=.mk k v s ks) h1]at h;simp only[iA,lZ]at h;obtain⟨⟨h2,h3⟩,h4⟩:=h;have h2:0<=v/\v<=1000000000:=h2;have h3:s=ByteArray.mk #[]:=h3;have h4:(ks.length:Int)=0:=h4;have:ks=[]:=JR.1 oo;subst this h1 h3;exact .inl ⟨v,h2.1,h2.2,rfl⟩
 by_cases h2:k=2
 ·rw[HS (t:=.mk k v s ks) h2]at h;simp only[iA,lZ]at h;obtain⟨⟨h3,h5⟩,h4⟩:=h;have h3:v=0:=h3;have h4:(ks.length:Int)=0:=h4;have:ks=[]:=JR.1 oo;subst this h2 h3;exact .inr (.inl ⟨s,h5,rfl⟩)
 rw[qH (t:=.mk k v s ks) h1 h2]at h;simp only[iA,lZ]at h;obtain⟨⟨⟨⟨h3,h4⟩,h5⟩,h6⟩,h7⟩:=h;have h3:3<=k/\k<=9:=h3;have h4:v=0:=h4;have h5:s=ByteArray.mk #[]:=h5;have g6:(ks.length:Int)=if k=8 then 1 else 2:=h6;clear h6;cases n with
 |zero=>cases h7
 | succ m=>
   have h7:=nG.1 h7;subst h4 h5;by_cases h8:k=8
   ·rw[aP h8]at g6;obtain⟨a,rfl⟩:=IR.1 (show ks.length=1 by omega);subst h8;exact .inr (.inr (.inl ⟨m,a,rfl,rfl,h7 a (oY.2 rfl)⟩))
   rw[aH h8]at g6
   obtain⟨a,b,rfl⟩:∃a b,ks=[a,b]:=by
     match ks,(show ks.length=2 by omega)with
     |[a,b],_=>exact⟨a,b,rfl⟩
   exact .inr (.inr (.inr ⟨m,a,b,k.toNat,rfl,by rw[show((k.toNat:Nat):Int)=k by omega];rfl,h7 a (bF.2 (.inl rfl)),h7 b (bF.2 (.inr (oY.2 rfl))),oo,oo,oo⟩))
def tE(k:Int):ByteArray:=fM.getD k.toNat lS
def fN:Nat->aD->List UInt8
 |0,.mk k v s ks=>if k=1 then aW (mO v)else aW s
 | n+1,.mk k v s ks=>if k=1 then aW (mO v)else if k=2 then aW s
   else if k=8 then 40 :: (aW wY++(32 :: (fN n (ks.getD 0 JB)++[41])))
   else 40 :: (fN n (ks.getD 0 JB)++(32 :: (aW (tE k)++(32 :: (fN n (ks.getD 1 JB)++[41])))))
def mI:Nat->aD->lX
 |0,.mk k v s ks=>if k=1 then[(2,mO v)]else[(1,s)]
 | n+1,.mk k v s ks=>if k=1 then[(2,mO v)]else if k=2 then[(1,s)]
   else if k=8 then(3,DF) :: (1,wY) :: (mI n (ks.getD 0 JB)++[(3,zF)])
   else(3,DF) :: (mI n (ks.getD 0 JB)++((if k=9 then 1 else 3,tE k) :: (mI n (ks.getD 1 JB)++[(3,zF)])))
def KN(h:cK s=true):tB s=true:=by
 unfold cK at h;exact(iA _ _▸h).1
def vT{b:UInt8}{l:List UInt8}(h:OU b=false):IX (b :: l):=h
def GR(n:Nat)(v:Int):fN n (.mk 1 v lS [])=aW (mO v)/\mI n (.mk 1 v lS [])=[(2,mO v)]:=by cases n<;>exact⟨rfl,rfl⟩
def HD(n:Nat)(s:ByteArray):fN n (.mk 2 0 s [])=aW s/\mI n (.mk 2 0 s [])=[(1,s)]:=by cases n<;>exact⟨rfl,rfl⟩
def cv{l:List UInt8}{ts:lX}(h:bJ l ts):bJ (40 :: l) ((3,DF) :: ts):=h.mark dD (.inl dD)
def O4{l:List UInt8}{ts:lX}(h:bJ l ts):bJ (41 :: l) ((3,zF) :: ts):=h.mark dD (.inl dD)
def Ah{l:List UInt8}{ts:lX}(h:bJ l ts):bJ (59 :: l) ((3,kX) :: ts):=h.mark dD (.inl dD)
def mz(h3:3<=k)(h9:k<=9)(h8:k≠8){l:List UInt8}{ts:lX}(h:bJ (32 :: l) ts):bJ (aW (tE (k:Int))++(32 :: l)) ((if (k:Int)=9 then 1 else 3,tE (k:Int)) :: ts):=by
 have hc:k=3\/k=4\/k=5\/k=6\/k=7\/k=9:=oo;rcases hc with rfl|rfl|rfl|rfl|rfl|rfl
 ·exact bJ.mark (b:=43) dD (.inl dD) h
 ·exact bJ.mark (b:=45) dD (.inl dD) h
 ·exact bJ.mark (b:=42) dD (.inl dD) h
 ·exact bJ.mark (b:=60) dD (.inl dD) h
 ·exact bJ.eq2 h
 exact bJ.word (t:=ByteArray.mk #[97,110,100]) dD (vT dD) h
theorem Ii:∀(n:Nat)(t:aD),fK n t=true->∀(l:List UInt8)(ts:lX),IX l->bJ l ts->bJ (fN n t++l) (mI n t++ts):=by
 intro n
 induction n with
 | zero=>
   intro t ht l ts C h;rcases FM ht with⟨v,h0,h1,rfl⟩|⟨s,hs,rfl⟩|⟨m,a,hm,_⟩|⟨m,a,b,k,hm,_⟩
   ·obtain⟨d1,d2,d3⟩:=QK h0 h1;rw[(GR 0 v).1,(GR 0 v).2];exact bJ.num d1 d3 C h
   ·rw[(HD 0 s).1,(HD 0 s).2];exact bJ.word (KN hs) C h
   ·omega
   omega
 | succ n ih=>
   intro t ht l ts C h;rcases FM ht with⟨v,h0,h1,rfl⟩|⟨s,hs,rfl⟩|⟨m,a,hm,rfl,ha⟩|⟨m,a,b,k,hm,rfl,ha,hb,h3,h9,h8⟩
   ·obtain⟨d1,d2,d3⟩:=QK h0 h1;rw[(GR _ v).1,(GR _ v).2];exact bJ.num d1 d3 C h
   ·rw[(HD _ s).1,(HD _ s).2];exact bJ.word (KN hs) C h
   ·obtain rfl:n=m:=oo;have e1:fN (n+1) (.mk 8 0 lS [a])=40 :: (aW wY++(32 :: (fN n a++[41]))):=rfl;have e2:mI (n+1) (.mk 8 0 lS [a])=(3,DF) :: (1,wY) :: (mI n a++[(3,zF)]):=rfl;rw[e1,e2];simp only[sZ,fR,sL];exact cv (bJ.word dD (vT dD) (bJ.blank (.inl rfl) (ih a ha _ _ (vT dD) (O4 h))))
   obtain rfl:n=m:=oo
   have e1:fN (n+1) (.mk (k:Int) 0 lS [a,b])=40 :: (fN n a++(32 :: (aW (tE (k:Int))++(32 :: (fN n b++[41]))))):=by
     rw[fN,aH oo,aH oo,aH oo];rfl
   have e2:mI (n+1) (.mk (k:Int) 0 lS [a,b])=(3,DF) :: (mI n a++((if (k:Int)=9 then 1 else 3,tE (k:Int)) :: (mI n b++[(3,zF)]))):=by
     rw[mI,aH oo,aH oo,aH oo];rfl
   rw[e1,e2];simp only[sZ,fR,sL];exact cv (ih a ha _ _ (vT dD) (bJ.blank (.inl rfl) (mz h3 h9 h8 (bJ.blank (.inl rfl) (ih b hb _ _ (vT dD) (O4 h))))))
def Hd(L:List aT)(i:Nat)(ts:lX):Prop:=∃rest,(L.map Ei).drop i=ts++rest
section
variable {L:List aT}{e:Int}{i:Nat}
def Hd.cons{k:Int}{t:ByteArray}{ts:lX}(h:Hd L i ((k,t) :: ts)):cV L i=t/\GG L i=k/\i<L.length/\Hd L (i+1) ts:=by
 obtain⟨rest,h⟩:=h;have h1:(L.map Ei)[i]?=some (k,t):=by rw[<-List.head?_drop,h];rfl
 have hi:i<L.length:=by have:=(List.getElem?_eq_some_iff.1 h1).1;rw[kL]at this;exact this
 rw[List.getElem?_map,List.getElem?_eq_getElem hi]at h1;simp only[OT,Ei,iU,mV]at h1;refine⟨by rw[<-UT hi];exact h1.2,by rw[<-Co hi];exact h1.1,hi,rest,?_⟩;rw[<-Fg,h];rfl
def Hd.app{a b:lX}(h:Hd L i (a++b)):Hd L i a/\Hd L (i+a.length) b:=by
 obtain⟨rest,h⟩:=h;refine⟨⟨b++rest,by rw[h,fR]⟩,rest,?_⟩;rw[<-Fg,h,fR,List.drop_left' rfl]
theorem C3{v:Int}(h0:0<=v)(h1:v<=1000000000):¬cK (mO v)=true:=by
 obtain⟨d1,_,_⟩:=QK h0 h1;intro hn;have hw:=KN hn
 have ha:(aW (mO v)).all nK=true:=by
   unfold qT at d1;split at d1
   ·rename_i hh;exact hh.1
   cases d1
 unfold tB at hw;simp only[iA]at hw;cases hb:aW (mO v)with
 |nil=>rw[hb]at hw;cases hw.1.2
 | cons b m=>
   rw[hb,XX,iA]at ha;rw[hb]at hw;have h2:qU b=true:=hw.1.2;have h3:=ha.1;unfold nK at h3;unfold qU at h2;have h2:=of_decide_eq_true h2;have h3:=of_decide_eq_true h3;omega
def om{k:Nat}(h3:3<=k)(h9:k<=9)(h8:k≠8):vP (tE (k:Int))=k:=by
 have hc:k=3\/k=4\/k=5\/k=6\/k=7\/k=9:=oo;rcases hc with rfl|rfl|rfl|rfl|rfl|rfl<;>decide
def zl{n:Nat}{t:aD}(h:fK n t=true){ts:lX}(hh:Hd L i (mI n t++ts)):¬eE L i wY:=by
 intro hn;rcases FM h with⟨v,h0,h1,rfl⟩|⟨s,hs,rfl⟩|⟨m,a,rfl,rfl,ha⟩|⟨m,a,_,_,rfl,rfl,ha,_,_,_,_⟩
 ·rw[(GR n v).2]at hh;have:=hh.cons.1;rw[show cV L i=wY from hn]at this;obtain⟨d1,_,_⟩:=QK h0 h1;rw[<-this]at d1;rw[show qT wY=none by decide]at d1;cases d1
 ·rw[(HD n s).2]at hh;have:=hh.cons.1;rw[show cV L i=wY from hn]at this;rw[<-this]at hs;exact absurd hs dD
 ·have:=hh.cons.1;rw[show cV L i=wY from hn]at this;exact absurd this dD
 rw[mI,aH oo,aH oo,aH oo]at hh;have:=hh.cons.1;rw[show cV L i=wY from hn]at this;exact absurd this dD
theorem s8:∀(n:Nat)(t:aD),fK n t=true->∀(r i:Nat),n<=r->Hd L i (mI n t)->sG L e r i=.ok (t,i+(mI n t).length):=by
 intro n
 induction n with
 | zero=>
   intro t ht r i hr h;rcases FM ht with⟨v,h0,h1,rfl⟩|⟨s,hs,rfl⟩|⟨m,a,hm,_⟩|⟨m,a,b,k,hm,_⟩
   ·rw[(GR 0 v).2]at h ⊢;obtain⟨h2,h3,h4,-⟩:=h.cons;obtain⟨d1,d2,d3⟩:=QK h0 h1;rw[JT];unfold yB;rw[aH (by rw[h2];exact C3 h0 h1),aP h3,h2,d2];rfl
   ·rw[(HD 0 s).2]at h ⊢;obtain⟨h2,h3,h4,-⟩:=h.cons;rw[JT];unfold yB;rw[aP (by rw[h2];exact hs),h2];rfl
   ·omega
   omega
 | succ n ih=>
   intro t ht r i hr h;rcases FM ht with⟨v,h0,h1,rfl⟩|⟨s,hs,rfl⟩|⟨m,a,hm,rfl,ha⟩|⟨m,a,b,k,hm,rfl,ha,hb,h3,h9,h8⟩
   ·rw[(GR _ v).2]at h ⊢;obtain⟨h2,h3,h4,-⟩:=h.cons;obtain⟨d1,d2,d3⟩:=QK h0 h1;rw[JT];unfold yB;rw[aH (by rw[h2];exact C3 h0 h1),aP h3,h2,d2];rfl
   ·rw[(HD _ s).2]at h ⊢;obtain⟨h2,h3,h4,-⟩:=h.cons;rw[JT];unfold yB;rw[aP (by rw[h2];exact hs),h2];rfl
   ·obtain rfl:n=m:=oo;obtain⟨r',rfl⟩:∃r',r=r'+1:=⟨r-1,oo⟩;have e2:mI (n+1) (.mk 8 0 lS [a])=(3,DF) :: (1,wY) :: (mI n a++[(3,zF)]):=rfl;rw[e2]at h ⊢;obtain⟨h2,h3,h4,h⟩:=h.cons;obtain⟨h5,h6,h7,h⟩:=h.cons;obtain⟨h,hs⟩:=h.app;obtain⟨h8,-,-,-⟩:=hs.cons;rw[sG];unfold yB;rw[aH (by rw[h2];decide),aH (by rw[h3];decide),aP (show eE L i DF from h2)];show tT L e (sG L e r') (i+1)=_;unfold tT;rw[aP (show eE L (i+1) wY from h5),ih a ha r' _ oo h];simp only[Rd.go];rw[sB (show eE L _ zF from h8)];simp only[dA,bX,eU];congr 2;omega
   obtain rfl:n=m:=oo;obtain⟨r',rfl⟩:∃r',r=r'+1:=⟨r-1,oo⟩
   have e2:mI (n+1) (.mk (k:Int) 0 lS [a,b])=(3,DF) :: (mI n a++((if (k:Int)=9 then 1 else 3,tE (k:Int)) :: (mI n b++[(3,zF)]))):=by
     rw[mI,aH oo,aH oo,aH oo];rfl
   rw[e2]at h ⊢;obtain⟨h2,g1,h4,h⟩:=h.cons;have g0:=zl ha h;obtain⟨hA,h⟩:=h.app;obtain⟨h5,h6,h7,h⟩:=h.cons;obtain⟨hB,hs⟩:=h.app;obtain⟨g2,-,-,-⟩:=hs.cons;rw[sG];unfold yB;rw[aH (by rw[h2];decide),aH (by rw[g1];decide),aP (show eE L i DF from h2)];show tT L e (sG L e r') (i+1)=_;unfold tT;rw[aH g0,ih a ha r' _ oo hA];simp only[Rd.go];rw[h5,om h3 h9 h8,aH oo,ih b hb r' _ oo hB];simp only[Rd.go];rw[sB (show eE L _ zF from g2)];simp only[dA,bX,eU];congr 2;omega
end
def PY{L:List aT}{e:Int}(h:cK (cV L i)=true):JD L e (.ok (i,q))=.ok (i+1,q):=by
 have h1:Np L (.ok (i,q))=true:=h;unfold JD;rw[h1];rfl
def UU{L:List aT}{e:Int}(h:¬cK (cV L i)=true):JD L e (.ok (i,q))=.error (mQ L e 3 i):=by
 have h1:Np L (.ok (i,q))=false:=by show cK (cV L i)=false;simpa using h
 unfold JD;rw[h1];rfl
def XE{L:List aT}(h:cK (cV L i)=true):KC L (.ok (i,q))=cV L i:=by
 show(if cK (cV L i)=true then cV L i else _)=_;rw[aP h]
def zB7{L:List aT}{e:Int}:pL (uZ L e i) (JD L e (.ok (i,q))) (λx j=>x=KC L (.ok (i,q))/\JD L e (.ok (i,q))=.ok (j,q)):=by
 unfold uZ;by_cases h:cK (cV L i)=true
 ·rw[aP h];exact⟨(XE h).symm,PY h⟩
 rw[aH h];exact UU h
def zFE{α:Type}[Rep α]{a b g lo v0:Nat}{w w':wD}{x:α}(h:fH a b w v0 x)(hu:fZ g lo w w')(h1:b<=lo)(h2:v0<lo)(h3:v0≠g)(h4:g<a\/b<=g):fH a b w' v0 x:=by
 obtain⟨F,hO,hF⟩:=h;refine⟨F,hO.keep λc hc=>?_,hF⟩;have g0:=hO.lts c hc;rcases bF.1 hc with rfl|hc
 ·exact hu.block c g0 h2 h3
 have:=hF c hc;exact hu.block c g0 oo oo
end Go.Proofs.YtcaakhmhlfgogaaGreatDoor
namespace Go.Sh
open Rep (rep)
open Go.Sort Go.Proofs
section
variable {α:Type}[Inhabited α]{enc:α->List vL}{k:Nat}
theorem Y4(hk:∀ x,(enc x).length=k):∀(l:List α),(l.flatMap enc).length=l.length*k
 |[]=>by simp
 |x :: l=>by rw[vE,bX,hk,Y4 hk l,dA,xM];omega
theorem Xg(hk:∀ x,(enc x).length=k)(h0:0<k):∀{l:List α}{t:Nat},t<l.length*k->(l.flatMap enc)[t]?=some ((enc l[t / k]!)[t%k]!)
 |[],t,h=>by simp at h
 | x :: l,t,h=>by
   rw[vE];rcases kR t k with ht|ht
   ·rw[List.getElem?_append_left (by rw[hk];exact ht),WP ht,EF ht];have:t<(enc x).length:=by rw[hk];exact ht
    rw[List.getElem?_eq_getElem this];simp[this]
   rw[List.getElem?_append_right (by rw[hk];exact ht),hk];have h':t-k<l.length*k:=by rw[dA,xM]at h;omega
   rw[Xg hk h0 h']
   have e1:t / k=(t-k) / k+1:=by
     have:t=(t-k)+k:=oo
     conv=>lhs;rw[this]
     rw[Nat.add_div_right _ h0]
   have e2:t%k=(t-k)%k:=by
     have:t=(t-k)+k:=oo
     conv=>lhs;rw[this]
     rw[Nat.add_mod_right]
   rw[e1,e2];simp
def ci(hk:∀ x,(enc x).length=k)(h0:0<k){l:List α}{t:Nat}(h:t<l.length*k):(l.flatMap enc)[t]?=some (flatK enc k l.toArray)[t]!:=by
 rw[Xg hk h0 h,get_flatK enc k l.toArray t (by simpa using h)];simp
end
section
variable {α:Type}[Rep α][dN α][Inhabited α]{w:wD}{enc:α->List vL}{b o n cap:Nat}{l:List α}
theorem N8(henc:∀ {F w cs} {x:α},rep F w cs x->cs=enc x):∀{l:List α}{F:List Nat}{xs:List vL},aO F w xs l->xs=l.flatMap enc
 |[],_,_,⟨_,h⟩=>by simp[h]
 |y :: ys,_,_,⟨F1,F2,c1,c2,_,h,h1,h2⟩=>by rw[h,henc h1,N8 henc h2,vE]
theorem E9{w':wD}(henc:∀ {F w cs} {x:α},rep F w cs x->cs=enc x):∀{l:List α},(∀x∈l,∃F cs,rep F w cs x)->aO [] w' (l.flatMap enc) l
 |[],_=>⟨rfl,rfl⟩
 | y :: ys,h=>by
   obtain⟨F,cs,hr⟩:=h y ss;have hF:=dN.flat hr;subst hF;have hc:=henc hr;subst hc;exact⟨[],[],enc y,ys.flatMap enc,rfl,rfl,Rep.keep hr ss,E9 henc λx hx=>h x (by simp[hx])⟩
theorem V1:∀{l:List α}{F:List Nat}{xs:List vL},aO F w xs l->∀x∈l,∃F cs,rep F w cs x
 | y :: ys,_,_,⟨F1,F2,c1,c2,_,h,h1,h2⟩,x,hx=>by
   rcases bF.1 hx with rfl|hx
   ·exact⟨_,_,h1⟩
   exact V1 h2 x hx
def Gq(g0:∀ {F w cs} {x:α},rep F w cs x->cs=enc x)(hk:∀ x,(enc x).length=Rep.size α)(hw:∃ c e,w.heap[b]?=some (.cells c e (0,0))){xs:List vL}(hc:aO [] w xs l)(hr:w.rangeAt b o xs):HoldsK enc (Rep.size α) w b o l.toArray:=by
 intro j hj;rw[size_flatK]at hj;have g1:j<l.length*Rep.size α:=by simpa using hj
 have:=N8 g0 hc;subst this;refine⟨(hr j _ (ci hk Rep.pos g1)),?_⟩;obtain⟨c,e,he⟩:=hw;simp[World.frozen?,he]
def df(g0:∀ {F w cs} {x:α},rep F w cs x->cs=enc x)(hk:∀ x,(enc x).length=Rep.size α){d':Array α}{m:Nat}{os:Array Obj}{w3:wD}(g4:w3=sortWorldK enc (Rep.size α) w b o m d' os)(hw:∃ c e,w.heap[b]?=some (.cells c e (0,0))){xs:List vL}(hc:aO [] w xs l)(hr:w.rangeAt b o xs)
   (h1:l.length<=cap) (h2:cap<=maxLen) (hl:d'.size=l.length) (hp:∀x∈d'.toList,x∈l):cH [b] w w3/\aZ [b] w3 (.slice (some ⟨b,o,none⟩) l.length cap) d'.toList:=by
 subst g4;have hH:=Gq g0 hk hw hc hr;obtain⟨c,e,he⟩:=hw;have hb:b<w.heap.size:=(Array.getElem?_eq_some_iff.1 he).1;have g1:(putRowK enc (Rep.size α) (Sort.ahead w m) b o d').heap.size=w.heap.size:=by simp[putRowK,putRow,mapBlock,Sort.ahead]
 have g2:∀i,i<w.heap.size->i≠b->(sortWorldK enc (Rep.size α) w b o m d' os).heap[i]?=w.heap[i]?:=λi hi g5=>by
   unfold sortWorldK;rw[heap_grow_old _ _ (by rw[g1];exact hi)];simp[putRowK,putRow,mapBlock,Sort.ahead,Array.getElem?_modify,g5.symm]
 have g9:∃c',(sortWorldK enc (Rep.size α) w b o m d' os).heap[b]?=some (.cells c' e (0,0)):=by
   unfold sortWorldK;rw[heap_grow_old _ _ (by rw[g1];exact hb)];exact⟨_,by simp[putRowK,putRow,mapBlock,Sort.ahead,Array.getElem?_modify,he,onCells];rfl⟩
 have g3:w.heap.size<=(sortWorldK enc (Rep.size α) w b o m d' os).heap.size:=by
   unfold sortWorldK grow;rw[RN,g1];omega
 refine⟨⟨rfl,rfl,rfl,g3,λi hi hm=>g2 i hi λe=>hm (by simp[e])⟩,⟨⟨_,⟨some ⟨b,o,none⟩,cap,[],d'.toList.flatMap enc,rfl,by simpa[hl]using h1,h2,?_,.inr ⟨b,o,rfl,rfl,?_,oo⟩⟩,by simp[fF,Rep.agg,hl]⟩,ss,λi hi=>?_⟩⟩
 ·exact E9 (w:=w) g0 λx hx=>V1 hc x (hp x hx)
 ·intro j _ hv
  have hj:j<d'.toList.length*Rep.size α:=by
    have:=(List.getElem?_eq_some_iff.1 hv).1;rwa[Y4 hk]at this
  rw[ci hk Rep.pos hj,iU]at hv;have gb:j<(flatK enc (Rep.size α) d').size:=by rw[size_flatK];simpa using hj
  have:=cell?_putRow id (Sort.ahead w m) b o (flatK enc (Rep.size α) l.toArray) (flatK enc (Rep.size α) d') hH (by simp[hl]) j gb;unfold sortWorldK;rw[cell?_grow _ _ _ (by rw[g1];exact hb)];show(putRow id (Sort.ahead w m) b o (flatK enc (Rep.size α) d')).cell? _=_;rw[this,<-hv];simp
 simp only[bF,dL,dI]at hi;subst hi;obtain⟨c',gc⟩:=g9;exact⟨c',e,gc⟩
end
end Go.Sh
namespace Go.Proofs.YtcaakhmhlfgogaaGreatDoor
open Go Go.Sh Go.Proofs
open Rep (rep)
variable {F:List Nat}{K:vL->Prop}{P:pG}{W W0 w w1 w4:wD}{a:Int}{cs:List vL}{e g hi i j k lo m n q:Nat}{s:ByteArray}{t:TypeId}{u v:vL}
def Cb:kO tp 3=some [iV 0]:=by kernel_rfl
def AN(x y:Int):Int:=if x<y then -1 else if y<x then 1 else 0
def GC:List Int->List Int->Int
 |[],[]=>0
 |[],_ :: _=>-1
 |_ :: _,[]=>1
 |x :: l,y :: m=>if AN x y≠0 then AN x y else GC l m
def wX{x:Int}:aJ tp 283 [iV x] w λr w'=>w'=w/\r=.bool false:=by
 refine co (g:=kf [] [] []) Tryz.func283 ?_;exact fP ⟨rfl,ss⟩
def wZ{x y:Int}:aJ tp 219 [iV x,iV y] w λr w'=>w'=w/\r=iV (AN x y):=by
 refine co (g:=kf [] [] []) Tryz.func219 ?_;refine wX.mono ?_;rintro _ _ ⟨rfl,rfl⟩;refine wX.mono ?_;rintro _ _ ⟨rfl,rfl⟩;refine bW (λh=>by cases h) λ_=>?_;refine bW (λh=>by cases h) λ_=>?_;refine bM<|br (λh=>⟨rfl,by rw[AN,aP h]⟩) λh=>?_;refine oN<|br (λh2=>⟨rfl,by rw[AN,aH h,aP h2]⟩) (λh2=>⟨rfl,by rw[AN,aH h,aH h2]⟩)
def Cz{t ty e:TypeId}{a:Option Addr}{n c:Nat}(ht:P.underlying t=some (.slice e))(k:K (iV n)) :
   RD P (Builtin.len_ #[t] ty [Value.slice a n c].toArray) w K:=dY (λw' _=>by simp[Builtin.len_,run_underlying ht];rfl) k
def vI(l:List Int):List vL:=l.map λx=>iV x
def E0{l:List Int}(h:k<l.length):(vI l)[k]?=some (iV l[k]):=by simp[vI,h]
def yn{l m:List Int}(h1:k<l.length)(h2:k<m.length):GC (l.drop k) (m.drop k)=if AN l[k] m[k]≠0 then AN l[k] m[k]else GC (l.drop (k+1)) (m.drop (k+1)):=by
 rw[tD h1,tD h2,GC]
def Qi{g1 g2 e1 e2 c1 c2:Nat}{l m:List Int}(h1:cA g1 e1 w (vI l))(h2:cA g2 e2 w (vI m))(hl:l.length<=1000)(hm:m.length<=1000) :
   aJ tp 164 [.slice (some ⟨g1,0,none⟩) l.length c1,.slice (some ⟨g2,0,none⟩) m.length c2] w λr w'=>w'=w/\r=iV (GC l m):=by
 refine co (g:=kf [] [(2,2147482096,[11])] []) Tryz.func164 ?_;refine Cz bG<|bV l.length (λk us w'=>us=[iV k]/\w'=w/\k<=m.length/\GC l m=GC (l.drop k) (m.drop k)) 0 (z0 _) ⟨rfl,rfl,z0 _,rfl⟩ ?_;rintro k mk _ _ _ ⟨hu,rfl,_,hc⟩;try replace hu:=cJ hu
 rw[hu];refine bM<|br (λ_=>?_) λg9=>?_
 ·have g0:k<l.length:=oo;refine Ou bG aG g0 ?_;rw[yE];refine cX aG h1 (E0 g0)<|Cz bG<|pD<|br (λg9=>?_) λg3=>?_
  ·refine⟨rfl,?_⟩;have e0:m.drop k=[]:=Bg oo;rw[hc,tD g0,e0];rfl
  have g4:k<m.length:=oo;refine Ou bG aG g4 ?_;rw[yE];refine cX aG h2 (E0 g4)<|wZ.mono ?_;rintro _ _ ⟨rfl,rfl⟩;have g5:=yn g0 g4;refine fP<|br (λgb=>?_) λgc=>?_
  ·exact⟨rfl,by rw[hc,g5,aP gb]⟩
  refine aU<|⟨mk-1,oo,k+1,oo,rfl,rfl,oo,by rw[hc,g5,aH gc]⟩
 have hk:k=l.length:=oo;subst hk;refine Cz bG<|Cz bG<|bM ?_;rw[BA]at hc;refine br (λg3=>⟨rfl,?_⟩) (λ_=>⟨rfl,?_⟩)
 ·rw[hc,tD oo];rfl
 rw[hc,Bg oo];rfl
section
variable {P:pG}{w:wD}{K:VW}
def YE{t:TypeId}{cs:Array vL}(k:K (pT w.heap.size 0) (w.alloc (.cells cs t))):OP P (Instr.box t (.agg cs)) w K:=
 ⟨_,w.alloc (.cells cs t),by simp[Instr.box,newVar,newRow,Value.cells],k⟩
theorem YU{t e:TypeId}{by_:Nat}{x y z:Int}(ht:P.underlying t=some (.slice e))(he:cT P e=some (1,by_,false))(hz:kO P e=some [iV 0])
   (k:K (.slice (some ⟨w.heap.size,0,none⟩) 3 3) (w.alloc (.cells (vI [x,y,z]).toArray e))):OP P (Instr.buildSlice t 3 #[(0,iV x),(1,iV y),(2,iV z)]) w K:=by
 unfold kO at hz;cases hi:P.info? e with
 |none=>simp[hi]at hz
 | some i=>
   simp only[hi]at hz;obtain⟨v,hv,g1⟩:=CB.1 hz;refine⟨_,w.alloc (.cells (vI [x,y,z]).toArray e),?_,k⟩;have g0:v.cells=#[iV 0]:=GA (by simpa using g1);have e1:∀n:Int,(Value.int .i64 n).cells=#[iV n]:=λ_=>rfl;simp only[Instr.buildSlice,Sem.run_bind,run_underlying ht,Result.andThen_ok,qX he];have e2:Array.range 3=#[0,1,2]:=by decide
   simp[zeroValue,typeInfo,hi,hv,newRow,Instr.fill,g0,vI,e1,e2]
end
def zFF:cA w.heap.size e (w.alloc (.cells cs.toArray e)) cs:=heap_alloc_new w _
def i3(a b c:Int):Array vL:=#[iV a,iV b,iV c]
def NV(w w':wD):Prop:=∃q os,w'=Go.Sort.grow (w.drewN q) os
def Up(o1 o2 o3 o4:Obj):NV w ((((w.alloc o1).alloc o2).alloc o3).alloc o4):=
 ⟨0,#[o1]++#[o2]++#[o3]++#[o4],by
   rw[Go.Sort.alloc_eq_grow,Go.Sort.alloc_eq_grow,Go.Sort.alloc_eq_grow,Go.Sort.alloc_eq_grow,Go.Sort.grow_grow,Go.Sort.grow_grow,Go.Sort.grow_grow];rfl⟩
def EG(x:aR):List Int:=[x.g,x.a,x.b]
def JK(x y:aR):Int:=GC (EG x) (EG y)
def wx{x y:aR}:aJ tp 155 [.agg (i3 x.g x.a x.b),.agg (i3 y.g y.a y.b)] w λr w'=>r=iV (JK x y)/\NV w w':=by
 refine co (g:=kf [] [] []) Tryz.func155 ?_;refine YE ?_;have g0:cA w.heap.size 46 (w.alloc (.cells (i3 x.g x.a x.b) 46)) (vI (EG x)):=heap_alloc_new w _;refine YE ?_;generalize hw1:w.alloc (.cells (i3 x.g x.a x.b) 46)=w1 at *;have g1:cA w1.heap.size 46 (w1.alloc (.cells (i3 y.g y.a y.b) 46)) (vI (EG y)):=heap_alloc_new w1 _;have g2:=oK w1 (.cells (i3 y.g y.a y.b) 46);generalize hw2:w1.alloc (.cells (i3 y.g y.a y.b) 46)=w2 at *;have C:=g0.ext g2;refine aE CQ<|cX aG C rfl<|aE IL<|cX aG C rfl<|aE PA<|cX aG C rfl<|YU bG aG Cb ?_;have g3:=oK w2 (.cells (vI [x.g,x.a,x.b]).toArray 3);have g4:cA w2.heap.size 3 (w2.alloc (.cells (vI [x.g,x.a,x.b]).toArray 3)) (vI (EG x)):=heap_alloc_new w2 _;generalize hw3:w2.alloc (.cells (vI [x.g,x.a,x.b]).toArray 3)=w3 at *;have D:=g1.ext g3;refine aE CQ<|cX aG D rfl<|aE IL<|cX aG D rfl<|aE PA<|cX aG D rfl<|YU bG aG Cb ?_;have g5:=oK w3 (.cells (vI [y.g,y.a,y.b]).toArray 3);have g9:cA w3.heap.size 3 (w3.alloc (.cells (vI [y.g,y.a,y.b]).toArray 3)) (vI (EG y)):=heap_alloc_new w3 _;have hg:NV w (w3.alloc (.cells (vI [y.g,y.a,y.b]).toArray 3)):=by rw[<-hw3,<-hw2,<-hw1];exact Up _ _ _ _
 refine(Qi (l:=EG x) (m:=EG y) (g4.ext g5) g9 (by simp[EG]) (by simp[EG])).mono ?_;rintro _ _ ⟨rfl,rfl⟩;exact⟨rfl,hg⟩
def lI(x y:aR):Prop:=x.g<y.g\/(x.g=y.g/\(x.a<y.a\/(x.a=y.a/\x.b<y.b)))
def SU{x y:Int}(h:x<y):AN x y=-1:=by rw[AN,aP h]
def TG{x y:Int}(h:y<x):AN x y=1:=by rw[AN,aH oo,aP h]
def SP{x y:Int}(h:x=y):AN x y=0:=by rw[AN,aH oo,aH oo]
def py{x y:aR}:JK x y<0↔lI x y:=by
 unfold JK EG lI;simp only[GC];rcases SS x.g y.g with h|h|h
 ·rw[SU h];simp;omega
 ·rw[SP h];rcases SS x.a y.a with h2|h2|h2
  ·rw[SU h2];simp;omega
  ·rw[SP h2];rcases SS x.b y.b with h3|h3|h3
   ·rw[SU h3];simp;omega
   ·rw[SP h3];simp;omega
   rw[TG h3];simp;omega
  rw[TG h2];simp;omega
 rw[TG h];simp;omega
def Nk(ht:P.underlying t=some .string)(h1:i<=j)(h2:j<=s.size)(k:K (.string (s.extract i j))):RD P (Instr.sliceAt t (.string s) (some (iV i)) (some (iV j)) none) w K:=
 dY (λw' _=>by
   have h:=run_slice_string (P:=P) (w:=w') t s .i64 .i64 (i:Int) (j:Int) ht oo oo oo;simp only[qM]at h;simp only[Instr.sliceAt,Sem.run_bind,run_underlying ht,Result.andThen_ok];exact h) k
def YQ:kO tp 165=some [iV 0,.string nO,iV 0]:=by kernel_rfl
def Eu:kO tp 49=some [iV 0,iV 0]:=by kernel_rfl
def RE{k:Int}{t:ByteArray}(hk:bR k)(ht:t.size<=maxLen)(ha:bR a):aK lo hi w (.agg #[iV k,.string t,iV a]) (⟨k,t,a⟩:aT):=⟨[],ej (x:=⟨k,t,a⟩) hk ht ha,ss⟩
def XG{c a:Int}(hc:bR c)(ha:bR a):aK lo hi w (.agg #[iV c,iV a]) (⟨c,a⟩:bY):=⟨[],zyF (x:=⟨c,a⟩) hc ha,ss⟩
def vf(h:pM s k=true):iM s k=(decide (rD s k-k<=12),⟨1,s.extract k (rD s k),k⟩):=by unfold iM;rw[aP h]
def zCa(h:pM s k=false)(h2:sA s k=true):iM s k=((qT (s.extract k (rD s k))).isSome,⟨2,s.extract k (rD s k),k⟩):=by unfold iM;rw[aH (by rw[h];decide),aP h2]
def uz(h:pM s k=false)(h2:sA s k=false)(h3:k+2<=s.size/\s.extract k (k+2)=ByteArray.mk #[61,61]):iM s k=(true,⟨3,s.extract k (k+2),k⟩):=by
 unfold iM;rw[aH (by rw[h];decide),aH (by rw[h2];decide),aP h3]
def ln(h:pM s k=false)(h2:sA s k=false)(h3:¬(k+2<=s.size/\s.extract k (k+2)=ByteArray.mk #[61,61])):iM s k=(decide (s.extract k (k+1)∈mS),⟨3,s.extract k (k+1),k⟩):=by
 unfold iM;rw[aH (by rw[h];decide),aH (by rw[h2];decide),aH h3]
def ee:ByteArray.mk #[61,61]∈mS:=by simp[mS]
theorem zCb{dn:List aT}(hn:s.size<n+k)(hk:s.size<=k):pH s n k dn=(dn,⟨0,0⟩):=by
 cases n with
 |zero=>rw[pH]
 |succ n=>rw[pH,aH oo]
theorem uf{dn:List aT}(hn:s.size<n+k)(hk:k<s.size):∃m,s.size<m+k+1/\pH s n k dn=if CN s k then pH s m (k+1) dn else if (iM s k).1=true then pH s m (k+(iM s k).2.text.size) (dn++[(iM s k).2])else([],⟨2,(k:Int)⟩):=by
 cases n with
 |zero=>omega
 |succ n=>exact⟨n,oo,by rw[pH,aP hk]⟩
def P2(w:wD)(s:ByteArray)(r:vL)(w':wD):Prop:=aB w w'/\∃a,r=.tuple #[a,.agg #[iV (lD s).2.code,iV (lD s).2.at_]]/\eG w.heap.size w' a (lD s).1
def IS{α:Type}(dn:List α)(r:Rd (List α)):Rd (List α):=r.go λl j=>.ok (dn++l,j)
theorem Vs{α:Type}(r:Rd (List α)):IS [] r=r:=by
 match r with
 |.error f=>rfl
 |.ok (l,j)=>rfl
theorem Yl{α:Type}{dn:List α}{s:α}(r:Rd (List α)):IS dn (r.go λl j=>.ok (s :: l,j))=IS (dn++[s]) r:=by
 match r with
 |.error f=>rfl
 |.ok (l,j)=>simp[IS,Rd.go]
def WU(L:List aT)(e:Int)(d j:Nat):Rd (List ByteArray):=if eE L j GP then wK L e d (j+1)else(rP L e kX j).go λ_ j=>.ok ([],j)
theorem xm{L:List aT}{e:Int}(d i:Nat):wK L e (d+1) i=(uZ L e i).go λs j=>(WU L e d j).go λl j=>.ok (s :: l,j):=by
 rw[wK];congr 1;funext s j;unfold WU;split
 ·rfl
 cases rP L e kX j with
 |error f=>rfl
 |ok p=>rfl
section
variable {L:List aT}{e:Int}{i1 q:Nat}{l:List ByteArray}
end
def yN    :
   aJ tp 254 [.string s] w λr w'=>aB w w'/\(r=.bool (decide (s∈mS))):=by
 refine co (g:=kf [] [] []) Tryz.func254 ?_;refine eX<|br (λc1=>?_) λc1=>?_
 ·refine⟨xx,?_⟩;have hm:s∈mS:=by simp[mS, *]
  simp[hm]
 refine eX<|br (λc2=>?_) λc2=>?_
 ·refine⟨xx,?_⟩;have hm:s∈mS:=by simp[mS, *]
  simp[hm]
 refine eX<|br (λc3=>?_) λc3=>?_
 ·refine⟨xx,?_⟩;have hm:s∈mS:=by simp[mS, *]
  simp[hm]
 refine eX<|br (λc4=>?_) λc4=>?_
 ·refine⟨xx,?_⟩;have hm:s∈mS:=by simp[mS, *]
  simp[hm]
 refine eX<|br (λc5=>?_) λc5=>?_
 ·refine⟨xx,?_⟩;have hm:s∈mS:=by simp[mS, *]
  simp[hm]
 refine eX<|br (λc6=>?_) λc6=>?_
 ·refine⟨xx,?_⟩;have hm:s∈mS:=by simp[mS, *]
  simp[hm]
 refine eX<|br (λc7=>?_) λc7=>?_
 ·refine⟨xx,?_⟩;have hm:s∈mS:=by simp[mS, *]
  simp[hm]
 refine eX<|br (λc8=>?_) λc8=>?_
 ·refine⟨xx,?_⟩;have hm:s∈mS:=by simp[mS, *]
  simp[hm]
 refine eX<|br (λc9=>?_) λc9=>?_
 ·refine⟨xx,?_⟩;have hm:s∈mS:=by simp[mS, *]
  simp[hm]
 refine eX<|br (λg0=>?_) λg0=>?_
 ·refine⟨xx,?_⟩;have hm:s∈mS:=by simp[mS, *]
  simp[hm]
 refine eX<|br (λg1=>?_) λg1=>?_
 ·refine⟨xx,?_⟩;have hm:s∈mS:=by simp[mS, *]
  simp[hm]
 refine eX<|br (λg2=>?_) λg2=>?_
 ·refine⟨xx,?_⟩;have hm:s∈mS:=by simp[mS, *]
  simp[hm]
 refine⟨xx,?_⟩;have hm:s∉mS:=by simp[mS, *]
 simp[hm]
def Iq(h:k+2<=s.size):s.extract k (k+2)=ByteArray.mk #[61,61]↔tW s k=61/\tW s (k+1)=61:=by
 have h0:k<(aW s).length:=by rw[dO];omega
 have h1:k+1<(aW s).length:=by rw[dO];omega
 have e:aW (s.extract k (k+2))=[(aW s)[k],(aW s)[k+1]]:=by
   rw[SQ,SI,show k+2-k=2 by omega,tD h0,tD h1];rfl
 have b0:tW s k=(((aW s)[k]).toNat:Int):=by unfold tW;rw[List.getElem?_eq_getElem h0]
 have b1:tW s (k+1)=(((aW s)[k+1]).toNat:Int):=by unfold tW;rw[List.getElem?_eq_getElem h1]
 rw[b0,b1]
 have u:∀x:UInt8,((x.toNat:Int)=61↔x=61):=λx=>by
   constructor
   ·intro hx;apply UInt8.toNat_inj.1;have:x.toNat=61:=oo;rw[this];rfl
   intro hx;rw[hx];rfl
 rw[u,u];constructor
 ·intro hh;rw[hh]at e;have e2:aW (ByteArray.mk #[61,61])=[61,61]:=rfl;rw[e2]at e;simp only[zI,and_true]at e;exact⟨e.1.symm,e.2.symm⟩
 rintro⟨h2,h3⟩;rw[h2,h3]at e;exact MZ (e.trans rfl)
def zzr(hT:oF W0)(e0:aB W0 w)(hm:s.size<=6000)(hk:k<s.size) :
   aJ tp 197 [.string s,iV k] w λr w'=>aB w w'/\r=.tuple #[.agg #[iV (iM s k).2.kind,.string (iM s k).2.text,iV k],.bool (iM s k).1]:=by
 refine co (g:=kf [(5,1099507433536,[6]),(12,2417842415857221494636608,[6])] [(3,1099507433536,[6])] [(12,[0,1,2,3,4,5,6,7,8,9,10,11,12],1024)]) Tryz.func197 ?_;refine rK YQ λw1 g4 gg=>?_;have D:=Bm (s:=s) (i:=k) oo;have g2:∀e,(s.extract k e).size<=maxLen:=λe=>by rw[SN,eB];omega
 have V:∀{w2:wD}{kd:Int}{t:ByteArray}{ok:Bool} , aB w1 w2->iM s k=(ok,⟨kd,t,(k:Int)⟩)->bR kd->t.size<=maxLen ->
     fA tp (Instr.storeAt 165 (pT w.heap.size 0) (.agg #[iV kd,.string t,iV k])) w2 λw3=>RD tp (qP 165 (pT w.heap.size 0)) w3 λv=>aB w w3/\Value.tuple [v,.bool ok].toArray=.tuple #[.agg #[iV (iM s k).2.kind,.string (iM s k).2.text,iV k],.bool (iM s k).1]:=by
   intro w2 kd t ok g1 hq gh ht;refine tA (α:=aT) (lo:=0) (hi:=0) AA rfl (gg.ext g1) rfl (RE gh ht io) λw3 gi gj=>AX gj AA<|⟨(g4.t g1).xI gi (lr _),by rw[hq]⟩
 refine aU<|uG u9 hk<|kN.mM λw2 g1=>?_;rw[<-Lu hk]
 have g3:(pM s k || sA s k)=true->∀{w3:wD},aB w1 w3->iB [6] [iV ((k+1:Nat):Int)] w3 λu w' next=>
     RD tp (Builtin.len_ #[9] 3 #[Value.string s]) w' λv=>RD tp (bin BinOp.lss 3 (Operand.tmp 0) (Operand.tmp 0) (u 6) v) w' λv=>BR v
       (RD tp (Instr.index 9 (Value.string s) (u 6)) w' λv=>aJ tp 202 [v] w' λv w'=>AV v
         (RD tp (bin BinOp.add 3 (Operand.tmp 0) (Operand.const undef) (u 6) (Value.int IntKind.i64 1)) w' λv=>next [v] w')
         (RD tp (Instr.index 9 (Value.string s) (u 6)) w' λv=>aJ tp 203 [v] w' λv w'=>BR v
           (RD tp (bin BinOp.add 3 (Operand.tmp 0) (Operand.const undef) (u 6) (Value.int IntKind.i64 1)) w' λv=>next [v] w')
           ((λus w'=>us=[Value.int .i64 (rD s k:Int)]/\aB w1 w') [u 6] w')) False)
       ((λus w'=>us=[Value.int .i64 (rD s k:Int)]/\aB w1 w') [u 6] w'):=by
   intro hq w3 M;have g5:=RC hq;have g9:=D.lt;refine bV (rD s k) (λj us w'=>us=[iV j]/\k<=j/\aB w1 w') (k+1) g5 ⟨rfl,oo,M⟩ ?_;rintro j m u w4 _ ⟨hu,gl,C⟩;try replace hu:=cJ hu
   rw[hu];refine xA u9<|bM<|br (λhj=>?_) (λhj=>⟨by rw[show j=rD s k by omega],C⟩);have hj:j<s.size:=oo
   have gb:(pM s j || sA s j)=true->j<rD s k:=λhh=>by
     rcases kR j (rD s k)with h1|h1
     ·exact h1
     have:=D.stop oo;rw[show rD s k=j by omega,hh]at this;cases this
   refine uG u9 hj<|kN.mM λw5 O=>?_;rw[<-Lu hj];refine XQ (λhl=>?_) λhl=>?_
   ·have:=gb (by rw[hl];rfl);refine aU<|⟨m-1,oo,j+1,oo,rfl,oo,xx⟩
   refine uG u9 hj<|nJ.mM λ_ gc=>?_;rw[<-D9 hj];refine bW (λhf=>?_) λhf=>?_
   ·have:=gb (by rw[hl,hf];rfl);refine aU<|⟨m-1,oo,j+1,oo,rfl,oo,xx⟩
   have:j=rD s k:=by
     rcases kR j (rD s k)with h1|h1
     ·have:=D.all j gl h1;rw[hl,hf]at this;cases this
     omega
   exact⟨by rw[this],xx⟩
 have g0:∀(u:cW){w3:wD},(pM s k || sA s k)=true->aB w1 w3->u 6=Value.int .i64 (rD s k:Int)->RD tp (Instr.sliceAt 9 (Value.string s) (some (Value.int IntKind.i64 ↑k)) (some (u 6)) none) w3 λv=>RD tp (Instr.index 9 (Value.string s) (Value.int IntKind.i64 ↑k)) w3 λv_1=>aJ tp 202 [v_1] w3 λv_2 w'=>BR v_2
     (RD tp (Instr.build 165 #[(0,Value.int IntKind.i64 1),(1,v),(2,Value.int IntKind.i64 ↑k)]) w' λv_3=>RD tp (Builtin.len_ #[9] 3 #[v]) w' λv=>RD tp (bin BinOp.leq 3 (Operand.tmp 0) (Operand.const undef) v (Value.int IntKind.i64 12)) w' λv=>
       fA tp (Instr.storeAt 165 (pT w.heap.size 0) v_3) w' λw'=>RD tp (qP 165 (pT w.heap.size 0)) w' λv_4=>aB w w'/\Value.tuple [v_4,v].toArray=.tuple #[.agg #[iV (iM s k).2.kind,.string (iM s k).2.text,iV k],.bool (iM s k).1])
     (aJ tp 253 [v] w' λv_3 w'=>RD tp (Instr.extract v_3 0) w' λv_4=>RD tp (Instr.extract v_3 1) w' λv_5=>RD tp (Instr.build 165 #[(0,Value.int IntKind.i64 2),(1,v),(2,Value.int IntKind.i64 ↑k)]) w' λv_6=>
       fA tp (Instr.storeAt 165 (pT w.heap.size 0) v_6) w' λw'=>RD tp (qP 165 (pT w.heap.size 0)) w' λv_7=>aB w w'/\Value.tuple [v_7,v_5].toArray=.tuple #[.agg #[iV (iM s k).2.kind,.string (iM s k).2.text,iV k],.bool (iM s k).1]):=by
   intro u w3 hq M hu;rw[hu];have g5:=RC hq;have g9:=D.lt;refine Nk u9 oo g9<|uG u9 hk<|kN.mM λw4 C=>?_;rw[<-Lu hk];refine bW (λhl=>?_) λhl=>?_
   ·refine fI (cells:=#[iV 1,.string (s.extract k (rD s k)),iV k]) kK ?_;refine xA u9<|tR<|V xx ?_ io (g2 _);rw[vf hl];congr 1;rw[decide_eq_decide,SN];omega
   have hf:sA s k=true:=by rw[hl]at hq;simpa using hq
   refine(A7 hT xx).mM λw5 O=>fO rfl<|fO rfl<|fI (cells:=#[iV 2,.string (s.extract k (rD s k)),iV k]) kK<|V xx (zCa hl hf) io (g2 _)
 have hJ:∀{w3:wD},aB w1 w3->(pM s k || sA s k)=true->_:=λ{w3} M hq=>And.intro (g3 hq M) (λ(u:cW)(w':wD)(hu:[u 6]=[Value.int .i64 (rD s k:Int)]/\aB w1 w')=>g0 u hq hu.2 (by simpa using hu.1));refine bW (λhl=>dJ.mk (λus w'=>us=[iV (rD s k:Int)]/\aB w1 w') (hJ g1 (by rw[hl];rfl)).1 (λu w' hu=>(hJ g1 (by rw[hl];rfl)).2 u w' hu)) (λhl=>?_);refine uG u9 hk<|nJ.mM λw3 M=>?_;rw[<-D9 hk];have Z:=g1.t M;refine bW (λhf=>dJ.mk (λus w'=>us=[iV (rD s k:Int)]/\aB w1 w') (hJ Z (by rw[hf];simp)).1 (λu w' hu=>(hJ Z (by rw[hf];simp)).2 u w' hu)) (λhf=>?_);refine dJ.mk (λus w'=>w'=w3/\∃e:Nat,us=[iV e]/\((e=k+2/\k+2<=s.size/\s.extract k (k+2)=ByteArray.mk #[61,61])\/(e=k+1/\¬(k+2<=s.size/\s.extract k (k+2)=ByteArray.mk #[61,61])))) ?_ ?_
 ·refine uG u9 hk ?_;rw[SJ hk];refine bI<|br (λh1=>?_) (λh1=>⟨rfl,k+1,rfl,.inr ⟨rfl,λh=>h1 ((Iq h.1).1 h.2).1⟩⟩);refine xA u9<|bM<|br (λh2=>?_) (λh2=>⟨rfl,k+1,rfl,.inr ⟨rfl,λh=>h2 (by have:=h.1;omega)⟩⟩);have gd:k+1<s.size:=oo;refine uG u9 gd ?_;rw[SJ gd];refine bI<|br (λh3=>?_) (λh3=>⟨rfl,k+1,rfl,.inr ⟨rfl,λh=>h3 ((Iq h.1).1 h.2).2⟩⟩);refine aU<|⟨rfl,k+2,rfl,.inl ⟨rfl,oo,(Iq oo).2 ⟨h1,h3⟩⟩⟩
 rintro u w4 ⟨rfl,e,hu,he⟩;try replace hu:=cJ hu
 rw[hu];have gf:k<e/\e<=s.size:=oo
 have hq:iM s k=(decide (s.extract k e∈mS),⟨3,s.extract k e,(k:Int)⟩):=by
   rcases he with⟨rfl,h1,h2⟩|⟨rfl,h1⟩
   ·rw[uz hl hf ⟨h1,h2⟩,decide_eq_true (by rw[h2];exact ee)]
   exact ln hl hf h1
 have C:=cO w4;refine Nk u9 oo gf.2<|fI (cells:=#[iV 3,.string (s.extract k e),iV k]) kK<|Nk u9 oo gf.2<|yN.mM λw5 O=>?_;refine⟨O,?_⟩;exact V xx hq io (g2 _)
def yo(hT:oF W0)(e0:aB W0 w):aJ tp 121 [.string s] w (P2 w s):=by
 refine co (g:=kf [] [(5,576460752303419636,[4,5])] []) Tryz.func121 ?_;refine rK Eu λw1 g9 gb=>?_;have hb1:=gb.lt
 have D:∀{w2:wD}{a:vL}{l:List aT}{f:bY}{lo hi:Nat},aB w1 w2->lD s=(l,f)->aK lo hi w2 a l->w1.heap.size<=lo->bR f.code->bR f.at_ ->
     fA tp (Instr.storeAt 49 (pT w.heap.size 0) (.agg #[iV f.code,iV f.at_])) w2 λw3=>RD tp (qP 49 (pT w.heap.size 0)) w3 λv=>P2 w s (.tuple [a,v].toArray) w3:=by
   intro w2 a l f lo hi gc hl ho _ hc ha;refine tA (α:=bY) (lo:=0) (hi:=0) tF9 rfl (gb.ext gc) rfl (XG hc ha) λw3 gd gl=>AX gl tF9<|⟨(g9.t gc).xI gd (lr _),a,by rw[hl],?_⟩;rw[hl];exact(ho.chg gd (.inr oo)).own.mono oo
 have g0:∀w2:wD,aK (α:=List aT) w1.heap.size w1.heap.size w2 (.slice none 0 0) []:=λw2=>pB;refine xA u9<|oN<|br (λ_=>?_) λ_=>?_
 ·refine fI (cells:=#[iV 1,iV 0]) kK ?_;exact D (f:=⟨1,0⟩) xx (by unfold lD;rw[aP oo]) (g0 _) (lr _) (by unfold bR;simp only;omega) (by unfold bR;simp only;omega)
 have hm:s.size<=6000:=oo;have hD:lD s=pH s (s.size+1) 0 []:=by unfold lD;rw[aH oo]
 refine bV s.size (λk us w'=>∃(out:vL)(dn:List aT)(n:Nat),us=[out,iV k]/\k<=s.size/\s.size<n+k/\lD s=pH s n k dn/\dn.length<=k/\aB w1 w'/\bQ w1.heap.size w'.heap.size 165 w' out dn) 0 (z0 _) ⟨_,[],s.size+1,rfl,z0 _,oo,hD,ss,xx,uC _ _ _ _⟩ ?_;rintro k m _ w3 _ ⟨out,dn,n,hu,_,hn,hL,_,O,g2⟩;obtain⟨gn,gp⟩:=dQ hu;rw[gn,gp];have hs3:=O.size;refine xA u9<|bM<|br (λ_=>?_) λ_=>?_
 case refine_2=>rw[zCb hn oo]at hL;refine fI (cells:=#[iV 0,iV 0]) kK<|D (f:=⟨0,0⟩) O hL g2.own (lr _) (by unfold bR;simp only;omega) (by unfold bR;simp only;omega)
 have hk:k<s.size:=oo;obtain⟨n',_,gf⟩:=uf (dn:=dn) hn hk;rw[gf]at hL
 have C:CN s k->RD tp (bin .add 3 (.tmp 0) (.const undef) (iV k) (Value.int .i64 1)) w3 λgq=>∃m',m'<m/\∃k',k'+m'=s.size/\∃(out':vL)(dn:List aT)(n:Nat),[out,gq]=[out',iV k']/\k'<=s.size/\s.size<n+k'/\lD s=pH s n k' dn/\dn.length<=k'/\aB w1 w3/\bQ w1.heap.size w3.heap.size 165 w3 out' dn:=λhb=>by
   rw[aP hb]at hL;refine aU<|⟨m-1,oo,k+1,oo,out,dn,n',rfl,oo,oo,hL,oo,O,g2⟩
 refine uG u9 hk ?_;rw[SJ hk];refine bI<|br (λhb=>C (.inl hb)) λ_=>?_;refine uG u9 hk ?_;rw[SJ hk];refine bI<|br (λhb=>C (.inr (.inl hb))) λ_=>?_;refine uG u9 hk ?_;rw[SJ hk];refine bI<|br (λhb=>C (.inr (.inr (.inl hb)))) λ_=>?_;refine uG u9 hk ?_;rw[SJ hk];refine bI<|br (λhb=>C (.inr (.inr (.inr hb)))) λ_=>?_;have gr:¬CN s k:=λhb=>by rcases hb with h|h|h|h<;>contradiction
 rw[aH gr]at hL;clear C gf;have hz:=It hk
 have hkd:1<=(iM s k).2.kind/\(iM s k).2.kind<=3:=by
   unfold iM;split
   ·simp only;omega
   split
   ·simp only;omega
   split<;>(simp only;omega)
 have gs:(iM s k).2=⟨(iM s k).2.kind,(iM s k).2.text,(k:Int)⟩:=by
   unfold iM;split
   ·rfl
   split
   ·rfl
   split<;>rfl
 refine(zzr hT xx hm hk).mM λ_ g3=>?_;have hs4:=g3.size;generalize iM s k=X at *;refine fO rfl<|fO rfl<|rK YQ λ_ gg gt=>?_;have hs5:=gg.size;have g1:X.2.text.size<=maxLen:=by rw[eB];omega
 refine tA (α:=aT) (lo:=0) (hi:=0) AA rfl gt rfl (RE io g1 io) λw6 gh gi=>?_;have hs6:=gh.size;have M:aB w3 w6:=(g3.t gg).xI gh g3.size;refine dG<|bW (λg4=>?_) λg5=>?_
 ·have g4:X.1=false:=by simpa using g4
  rw[aH (by rw[g4];decide)]at hL;refine fI (cells:=#[iV 2,iV k]) kK<|D (f:=⟨2,(k:Int)⟩) xx hL (g0 _) (lr _) (by unfold bR;simp only;omega) (by unfold bR;simp only;omega)
 have g5:X.1=true:=by simpa using g5
 rw[aP g5]at hL;refine SD gi AA<|oS (lo2:=w6.heap.size) (hi2:=w6.heap.size) (x:=(⟨X.2.kind,X.2.text,(k:Int)⟩:aT)) QO AA kq dr dD (g2.ext M) oo (RE io g1 io) oo oo (by rw[eB];omega) oo λv8 _ gj gx=>aE TB<|cX cG (gi.xI gj (.inr oo)) rfl<|xA u9<|rQ io ?_;rw[show(k:Int)+(X.2.text.size:Int)=((k+X.2.text.size:Nat):Int) by omega];rw[gs]at hL;exact⟨s.size-(k+X.2.text.size),oo,k+X.2.text.size,oo,v8,_,n',rfl,hz.2,oo,hL,by rw[bX,FG];omega,(O.t M).xI gj oo,gx⟩
def xG    :
   aJ tp 296 [.string s] w λr w'=>aB w w'/\(r=iV (fQ s:Int)):=by
 refine co (g:=kf [] [] []) Tryz.func296 ?_;refine eX<|br (λc1=>?_) λc1=>?_
 ·refine⟨xx,?_⟩;simp[fQ, *]
 refine eX<|br (λc2=>?_) λc2=>?_
 ·refine⟨xx,?_⟩;simp[fQ, *]
 refine eX<|br (λc3=>?_) λc3=>?_
 ·refine⟨xx,?_⟩;simp[fQ, *]
 refine eX<|br (λc4=>?_) λc4=>?_
 ·refine⟨xx,?_⟩;simp[fQ, *]
 refine eX<|br (λc5=>?_) λc5=>?_
 ·refine⟨xx,?_⟩;simp[fQ, *]
 refine eX<|br (λc6=>?_) λc6=>?_
 ·refine⟨xx,?_⟩;simp[fQ, *]
 refine eX<|br (λc7=>?_) λc7=>?_
 ·refine⟨xx,?_⟩;simp[fQ, *]
 refine(cI ).mM λ_ y1=>bW (λc8=>?_) λc8=>?_
 ·refine⟨y1,?_⟩;simp[fQ, *]
 refine⟨y1,?_⟩;simp[fQ, *]
def GT(k:Int):ByteArray:=if k=3 then .mk #[43]else if k=4 then .mk #[45]else if k=5 then .mk #[42]else if k=6 then .mk #[60]else if k=7 then .mk #[61,61]else if k=9 then .mk #[97,110,100]else .mk #[]
def ztF{k:Int}    :
   aJ tp 319 [iV k] w λr w'=>aB w w'/\(r=.string (GT k)):=by
 refine co (g:=kf [] [] []) Tryz.func319 ?_;refine bI<|br (λc1=>?_) λc1=>?_
 ·refine⟨xx,?_⟩;simp[GT, *]
 refine bI<|br (λc2=>?_) λc2=>?_
 ·refine⟨xx,?_⟩;simp[GT, *]
 refine bI<|br (λc3=>?_) λc3=>?_
 ·refine⟨xx,?_⟩;simp[GT, *]
 refine bI<|br (λc4=>?_) λc4=>?_
 ·refine⟨xx,?_⟩;simp[GT, *]
 refine bI<|br (λc5=>?_) λc5=>?_
 ·refine⟨xx,?_⟩;simp[GT, *]
 refine bI<|br (λc6=>?_) λc6=>?_
 ·refine⟨xx,?_⟩;simp[GT, *]
 refine⟨xx,?_⟩;simp[GT, *]
def zzs{t:ByteArray}(h3:3<=k)(h9:k<=9)(h8:k≠8):GT (k:Int)=t↔vP t=k:=by
 have h:GT (k:Int)=fM[k]'(by simp[fM];omega):=by
   have hc:k=3\/k=4\/k=5\/k=6\/k=7\/k=9:=oo;rcases hc with rfl|rfl|rfl|rfl|rfl|rfl<;>rfl
 rw[h,<-mg k oo h3 h8 t];exact eq_comm
def xK{t:ByteArray} :
   aJ tp 318 [.string t] w λr w'=>aB w w'/\r=iV (vP t:Int):=by
 refine co (g:=kf [] [(2,131068,[3])] []) Tryz.func318 ?_;have g3:=Kk t;refine bV 10 (λk us w'=>us=[iV k]/\3<=k/\aB w w'/\∀k',3<=k'->k'<k->vP t≠k') 3 oo ⟨rfl,oo,xx,λk' h1 h2=>oo⟩ ?_;rintro k m _ _ _ ⟨hu,h3,hx,g0⟩;try replace hu:=cJ hu
 rw[hu];refine tR<|br (λ_=>?_) λ_=>?_
 rotate_left
 ·refine⟨hx,?_⟩;rcases g3 with h|h
  ·rw[h];rfl
  exact absurd rfl (g0 (vP t) h.1 oo)
 have C:∀{w2:wD},aB w w2->vP t≠k->RD tp (bin BinOp.add 3 (Operand.tmp 0) (Operand.const undef) (Value.int IntKind.i64 (k:Int)) (Value.int IntKind.i64 1)) w2 λx=>∃m',m'<m/\∃k',k'+m'=10/\[x]=[Value.int IntKind.i64 (k':Int)]/\3<=k'/\aB w w2/\∀k2,3<=k2->k2<k'->vP t≠k2:=
   λh1 h2=>K4 oo ⟨m-1,oo,k+1,oo,rfl,oo,h1,λk2 h3 _=>by
     rcases kR k2 k with h5|h5
     ·exact g0 k2 h3 h5
     rw[show k2=k by omega];exact h2⟩
 refine fP<|br (λh8=>?_) (λh8=>C hx oo);have g4:k≠8:=λhh=>h8 (by rw[hh];rfl);refine(ztF (k:=(k:Int))).mM λw2 g1=>eX ?_;have g2:=zzs (t:=t) h3 oo g4;refine bW (λhb=>⟨xx,by rw[g2.1 (of_decide_eq_true hb)]⟩) (λhb=>C xx λhh=>of_decide_eq_false hb (g2.2 hh))
def CO{k a:Int}{t:ByteArray}(k1:K (.string t)):RD tp (Instr.field 165 (.agg #[iV k,.string t,iV a]) 1) w K:=
 dY (λw' _=>by kernel_rfl) k1
def ka{x:aT}(h:rep F w cs x):cs=[iV x.kind,.string x.text,iV x.at_]/\bR x.kind/\x.text.size<=maxLen/\bR x.at_:=by
 obtain⟨_,_,_,_,rfl,rfl,⟨-,rfl,h1⟩,_,_,_,_,rfl,rfl,⟨-,rfl,h2⟩,-,rfl,h3⟩:=h;exact⟨rfl,h1,h2,h3⟩
def BD(v:vL)(e:Int)(i:Nat)(f:bY):List vL:=[v,iV e,iV i,iV f.code,iV f.at_]
structure iW(W:wD)(g:Nat)(L:List aT)(v:vL)(e:Int)(st:lU)(w:wD):Prop where
 is_:Is W v L
 ext:aB W w
 lo:W.heap.size<=g
 many:L.length<=6000
 sg:∀x∈L,qE x
 e0:bR e
 pow:oF W
 blk:∃i f q,cA g 107 w (BD v e i f)/\bR f.code/\bR f.at_/\Je L st i f q
section
variable {W w w':wD}{g:Nat}{L:List aT}{v:vL}{e:Int}{st:lU}
def iW.step(h:iW W g L v e st w)(hx:aB w w'):iW W g L v e st w':=by
 obtain⟨i,f,q,hB,hr⟩:=h.blk;exact⟨h.is_,h.ext.trans hx,h.lo,h.many,h.sg,h.e0,h.pow,i,f,q,hB.ext hx,hr⟩
def iW.chg{a b:Nat}(h:iW W g L v e st w)(hc:aN a b w w')(hg:g<a\/b<=g)(ha:W.heap.size<=a):iW W g L v e st w':=by
 obtain⟨i,f,q,hB,hr⟩:=h.blk;exact⟨h.is_,h.ext.xI hc ha,h.lo,h.many,h.sg,h.e0,h.pow,i,f,q,hB.keep (hc.block g hB.lt hg),hr⟩
def iW.lt(h:iW W g L v e st w):g<w.heap.size:=by
 obtain⟨_,_,_,hB,_⟩:=h.blk;exact hB.lt
def iW.at{i q:Nat}(h:iW W g L v e (.ok (i,q)) w):cA g 107 w (BD v e i ⟨0,0⟩)/\i<=L.length:=by
 obtain⟨_,_,_,hB,_,_,rfl,rfl,_,hl⟩:=h.blk;exact⟨hB,hl⟩
def iW.of{i q:Nat}{st:lU}(h:iW W g L v e st w)(hx:aB W w')(hB:cA g 107 w' (BD v e i ⟨0,0⟩))(hl:i<=L.length):iW W g L v e (.ok (i,q)) w':=
 ⟨h.is_,hx,h.lo,h.many,h.sg,h.e0,h.pow,i,⟨0,0⟩,q,hB,pJ,pJ,rfl,rfl,rfl,hl⟩
def Au{i:Nat}{f:bY}(g1:Is W v L)(hB:cA g 107 w (BD v e i f)) :
   aJ tp 123 [pT g 0] w λr w'=>aB w w'/\r=.bool (decide (L.length<=i)):=by
 refine co (g:=kf [] [] [(1,[0,1,2,3,4,5,6,7,8,9,10],0)]) Tryz.func123 ?_;have g0:=cO w;have hB:=hB.ext g0;refine bZ.mk rfl<|aE NY<|cX aG hB rfl<|bZ.mk rfl<|aE UF<|cX WC hB rfl<|aX QO g1<|pD<|⟨g0,by congr 1;rw[decide_eq_decide];omega⟩
def BM{i q:Nat}(h:iW W g L v e (.ok (i,q)) w) :
   aJ tp 124 [pT g 0] w λr w'=>aB w w'/\∃a:Int,r=.agg #[iV (GG L i),.string (cV L i),iV a]/\bR (GG L i)/\(cV L i).size<=maxLen/\bR a:=by
 refine co (g:=kf [] [] [(3,[0,1,2,3,4,5,6,7,8,9,10],0)]) Tryz.func124 ?_;refine rK YQ λ_ g0 g4=>(Au h.is_ (h.step g0).at.1).mM λw2 C=>br (λg5=>?_) λ_=>?_
 ·rw[Lr g5,RX g5];refine fI (cells:=#[iV 0,.string nO,iV 0]) kK<|tA (α:=aT) (lo:=0) (hi:=0) AA rfl (g4.ext C) rfl (RE pJ wS pJ) λw3 g9 g1=>AX g1 AA<|⟨(g0.t C).xI g9 (lr _),0,rfl,pJ,wS,pJ⟩
 have g2:=cO w2;have h3:=(h.step (g0.t C)).step g2;have g1:=(g4.ext C).ext g2;have g3:=(g0.t C).trans g2;generalize World.drew1 w2=w3 at *;obtain⟨hB,hi⟩:=h3.at;have hi:i<L.length:=oo;refine bZ.mk rfl<|aE UF<|cX WC hB rfl<|bZ.mk rfl<|aE NY<|cX aG hB rfl<|bC QO AA h.is_ hi λ_ _ hA=>?_;obtain⟨_,_,hr,hc⟩:=hA;obtain⟨gb,k1,k2,k3⟩:=ka hr;refine Mv AA (rH hr h3.ext) (yV hc h3.ext) ?_;rw[gb];refine tA (α:=aT) (lo:=0) (hi:=0) AA rfl g1 rfl (RE k1 k2 k3) λ_ gc gd=>AX gd AA ?_;rw[Co hi,UT hi]at *;exact⟨g3.xI gc (lr _),_,rfl,k1,k2,k3⟩
def xy{i0 q0:Nat}(h:iW W g L v e (.ok (i0,q0)) w){c:Int}{i:Nat}:bR (mQ L e c i).at_:=by
 rcases kR i L.length with hi|hi
 ·rw[W5 hi];have:=h.sg _ (cY hi);have h1:=this.at0;have h2:=this.at1;unfold bR;simp only;omega
 rw[V9 hi];exact h.e0
def IW{i q:Nat}{c:Int}(h:iW W g L v e (.ok (i,q)) w)(gg:c≠0)(g4:bR c) :
   aJ tp 125 [pT g 0,iV c] w λr w'=>aN g (g+1) w w'/\iW W g L v e (.error (mQ L e c i)) w'/\r=.bool false:=by
 refine co (g:=kf [] [] [(4,[0,1,2,3,4,5,6,7,8,9,10,11,12,13,14,15],0)]) Tryz.func125 ?_;obtain⟨hB,hi⟩:=h.at;have gf:=xy (c:=c) (i:=i) h;refine bZ.mk rfl<|aE YK<|aE Ck<|cX aG hB rfl<|bI<|br (λ_=>?_) (λhn=>absurd rfl hn);refine bZ.mk rfl<|aE zE8<|cX aG hB rfl<|fI (cells:=#[iV c,iV e]) kK<|bZ.mk rfl<|aE YK ?_;have hm:rep (α:=bY) [] w [iV c,iV e] ⟨c,e⟩:=⟨[],[],[iV c],[iV e],rfl,rfl,⟨rfl,rfl,g4⟩,rfl,rfl,h.e0⟩;refine Jf (α:=bY) tF9 hB hm rfl (by simp[BD,Rep.size]) λw1 g2 g1=>?_;have g2:aN g (g+1) w w1:=g2.toI ss;have g1:cA g 107 w1 (BD v e i ⟨c,e⟩):=g1;refine(Au h.is_ g1).mM λw2 g5=>?_;have g9:=g1.ext g5;have gb:=g2.trans g5.toI
 have g0:∀{w3:wD}{f':bY},aN g (g+1) w w3->f'=mQ L e c i->cA g 107 w3 (BD v e i f')->aN g (g+1) w w3/\iW W g L v e (.error (mQ L e c i)) w3/\Value.bool false=.bool false:=λ{w3 f'} h1 h2 h3=>
   ⟨h1,⟨h.is_,h.ext.xI h1 h.lo,h.lo,h.many,h.sg,h.e0,h.pow,i,f',0,h3,by rw[h2];exact g4,by rw[h2];exact gf,h2,gg⟩,rfl⟩
 refine dG<|bW (λhb=>?_) λhb=>?_
 rotate_left
 ·refine g0 gb ?_ g9;have:L.length<=i:=by simpa using hb
  rw[V9 this]
 have hi:i<L.length:=by simpa using hb
 have gc:=cO w2;have g3:=g9.ext gc;have gd:=gb.trans gc.toI;have gh:=h.ext.xI gd h.lo;generalize World.drew1 w2=w3 at *;refine bZ.mk rfl<|aE UF<|cX WC g3 rfl<|bZ.mk rfl<|aE NY<|cX aG g3 rfl<|bC QO AA h.is_ hi λ_ _ hA=>aE sr<|aS aG (sy hA) gh λgi=>bZ.mk rfl<|aE YK<|aE Wp<|qL (α:=Int) (lo:=0) (hi:=0) aG rfl rfl g3 (by simp[BD]) (ownI_int gi) λ_ gj gl=>g0 (f':=⟨c,L[i].at_⟩) (gd.trans gj) (by rw[W5 hi]) gl
def zY{i q:Nat}{K:wD->Prop}(h:iW W g L v e (.ok (i,q)) w)(hi:i<L.length)
   (k:∀w',aN g (g+1) w w'->iW W g L v e (.ok (i+1,q)) w'->K w') :
   bZ (pT g 0) (RD tp (Instr.fieldAt 107 (pT g 0) 2) w λa=>RD tp (Instr.loadAt 3 a) w λb=>RD tp (bin .add 3 (.tmp 0) (.const undef) b (iV 1)) w λc=>
     bZ (pT g 0) (RD tp (Instr.fieldAt 107 (pT g 0) 2) w λd=>fA tp (Instr.storeAt 3 d c) w K)):=by
 obtain⟨hB,_⟩:=h.at;have:=h.many;refine bZ.mk rfl<|aE NY<|cX aG hB rfl<|aU<|bZ.mk rfl<|aE NY<|qL (α:=Int) (lo:=0) (hi:=0) aG rfl rfl hB (by simp[BD]) (ownI_int io) λw1 g0 g1=>k w1 g0 (h.of (h.ext.xI g0 h.lo) g1 hi)
def kW(st:lU):Bool:=match st with|.ok _=>true|.error _=>false
def IF{i q:Nat}{t:ByteArray}(h:iW W g L v e (.ok (i,q)) w)(ht:t≠ByteArray.mk #[]) :
   aJ tp 198 [pT g 0,.string t] w λr w'=>aN g (g+1) w w'/\iW W g L v e (ET L e t (.ok (i,q))) w'/\r=.bool (kW (ET L e t (.ok (i,q)))):=by
 refine co (g:=kf [] [] []) Tryz.func198 ?_;refine(BM h).mono ?_;rintro _ _ ⟨g0,_,rfl,-⟩;refine CO<|GK<|br (λhb=>?_) λhb=>?_
 ·have hb:¬eE L i t:=hb;rw[CZ hb];refine(IW (c:=3) (h.step g0) dD io).mono ?_;rintro _ w2 ⟨g1,h2,rfl⟩;exact⟨g0.toI.trans g1,h2,rfl⟩
 have hb:eE L i t:=eK.1 hb;rw[CM hb];refine zY (h.step g0) (MF hb ht) λw2 g1 h2=>⟨g0.toI.trans g1,h2,rfl⟩
def Bu{i q:Nat}(h:iW W g L v e (.ok (i,q)) w) :
   aJ tp 199 [pT g 0] w λr w'=>aN g (g+1) w w'/\iW W g L v e (JD L e (.ok (i,q))) w'/\r=.tuple #[.string (KC L (.ok (i,q))),.bool (kW (JD L e (.ok (i,q))))]/\(KC L (.ok (i,q))).size<=maxLen:=by
 refine co (g:=kf [] [] []) Tryz.func199 ?_;refine(BM h).mono ?_;rintro _ _ ⟨g0,_,rfl,-,g3,-⟩;refine CO<|cI.mM λ_ g1=>dG<|bW (λhb=>?_) λhb=>?_
 ·have hb:¬cK (cV L i)=true:=by simpa using hb
  rw[UU hb];have e1:KC L (.ok (i,q))=nO:=by show(if cK (cV L i)=true then cV L i else _)=_;rw[aH hb];rfl
  rw[e1];refine(IW (c:=3) ((h.step g0).step g1) dD io).mono ?_;rintro _ w3 ⟨g2,h3,rfl⟩;exact⟨(g0.t g1).toI.trans g2,h3,rfl,wS⟩
 have hb:cK (cV L i)=true:=by simpa using hb
 rw[PY hb];have e1:KC L (.ok (i,q))=cV L i:=XE hb;rw[e1];refine zY ((h.step g0).step g1) (Jg hb) λw3 g2 h3=>⟨(g0.t g1).toI.trans g2,h3,rfl,g3⟩
end
def QV(W:wD)(g:Nat)(L:List aT)(v:vL)(e:Int)(w:wD)(R:aD->lU->Prop)(r:vL)(w':wD):Prop:=
 aN g (g+1) w w'/\∃u t st',r=.tuple #[u,.bool (kW st')]/\iW W g L v e st' w'/\aK w.heap.size w'.heap.size w' u t/\R t st'
def Lw(room:Nat):Prop:=∀{W w:wD}{g:Nat}{L:List aT}{v:vL}{e:Int}{i q:Nat}{d:Int},iW W g L v e (.ok (i,q)) w->d+(room:Int)=6 ->
 aJ tp 312 [pT g 0,iV d] w (QV W g L v e w λt st'=>pL (sG L e room i) st' λx j=>x=t/\st'=.ok (j,q))
def Ta(m:Nat):Prop:=∀{W w:wD}{g:Nat}{L:List aT}{v:vL}{e:Int}{i q:Nat}{d:Int},iW W g L v e (.ok (i,q)) w->d+(m:Int)=6 ->
 aJ tp 317 [pT g 0,iV d] w (QV W g L v e w λt st'=>pL (tT L e (sG L e m) i) st' λx j=>x=t/\st'=.ok (j,q))
theorem ME{α:Type}{r:Rd α}{st:lU}{x0:α}(h:pL r st λx j=>x=x0/\st=.ok (j,q))(ho:kW st=true):∃j,st=.ok (j,q)/\r=.ok (x0,j):=by
 match r,h with
 |.error f,h=>rw[show st=.error f from h]at ho;cases ho
 |.ok (x,j),h=>exact⟨j,h.2,by rw[h.1]⟩
theorem zS{α:Type}{r:Rd α}{st:lU}{ok:α->Nat->Prop}(h:pL r st ok)(hk:∀ x j,ok x j->∃ p,st=.ok p)(ho:kW st=false):∃f,st=.error f/\r=.error f:=by
 match r,h with
 |.error f,h=>exact⟨f,h,rfl⟩
 |.ok (x,j),h=>obtain⟨p,hp⟩:=hk x j h;rw[hp]at ho;cases ho
def J7{α:Type}[Rep α]{t by_ n0 a b lo hi:Nat}{w:wD}{u:vL}{x x0:α}{K:VW}(ht:cT tp t=some (Rep.size α,by_,Rep.agg α))(hv:fH a b w n0 x0)(hu:aK lo hi w u x)(hn:n0<lo\/hi<=n0)
   (k:∀r w',aN n0 (n0+1) w w'->aK lo hi w' r x->K r w'):fA tp (Instr.storeAt t (pT n0 0) u) w λw'=>RD tp (qP t (pT n0 0)) w' λr=>K r w':=
 oU ht hv hu hn λw' hc hv'=>uX ht hv' xx λr hr=>k r w' hc hr
def bm{L:List aT}{e:Int}{R:aD->lU->Prop}{st':lU}{t:aD}{b:Bool}(g2:aB w w1)(g1:fH w1.heap.size w1.heap.size w1 w.heap.size (aV.zv:aD))(hg:g<w.heap.size)(hW:W.heap.size<=w.heap.size)
   (hu:fZ g w1.heap.size w1 w4) (hr:iW W g L v e st' w4) (ho:aK lo hi w4 u t) (hlo:w1.heap.size<=lo) (hhi:hi<=w4.heap.size) (hb:kW st'=b) (hR:R t st') :
   fA tp (Instr.storeAt 67 (pT w.heap.size 0) u) w4 λw5=>RD tp (qP 67 (pT w.heap.size 0)) w5 λr=>QV W g L v e w R (.tuple [r,.bool b].toArray) w5:=by
 have g3:=g1.lt;have:=g2.size;refine J7 dK (zFE g1 hu (lr _) g3 oo (.inl oo)) ho (.inl oo) λr w5 g0 g4=>?_;have:=g0.size;exact⟨aN.out (fZ.toI (g2.upG.trans hu) oo) g0 oo,r,t,st',by rw[hb],hr.chg g0 oo oo,g4.mono oo oo,hR⟩
def Vf{room:Nat}(hr6:room<=6)(ih:∀ m,m+1=room->Ta m):Lw room:=by
 intro W w g L v e i q _ h _;have hg:=h.lt;have hW:=h.ext.size;refine co (g:=kf [] [] []) Tryz.func312 ?_;refine sY (α:=aD) BZ λw1 g5 gd=>?_;have hb1:=gd.lt;refine(BM (h.step g5)).mono ?_;rintro _ w2 ⟨gf,a,rfl,kI,sI,aI⟩;have hs2:=gf.size;refine rK YQ λ_ gh gi=>tA (α:=aT) (lo:=0) (hi:=0) AA rfl gi rfl (RE kI sI aI) λw4 gj M=>?_;have gl:=M.lt;have g0:aB w1 w4:=(gf.t gh).xI gj oo;have h4:=h.step (g5.t g0);have gg:fZ g w1.heap.size w1 w4:=g0.upG;have M:cA w2.heap.size 165 w4 [iV (GG L i),.string (cV L i),iV a]:=M
 have D:∀{w5:wD}{st':lU}{u:vL}{t:aD}{lo hi:Nat}{b:Bool},fZ g w1.heap.size w1 w5->iW W g L v e st' w5->aK lo hi w5 u t->w1.heap.size<=lo->hi<=w5.heap.size->kW st'=b->(pL (sG L e room i) st' λx j=>x=t/\st'=.ok (j,q)) ->
     fA tp (Instr.storeAt 67 (pT w.heap.size 0) u) w5 λw5=>RD tp (qP 67 (pT w.heap.size 0)) w5 λr=>QV W g L v e w (λt st'=>pL (sG L e room i) st' λx j=>x=t/\st'=.ok (j,q)) (.tuple [r,.bool b].toArray) w5:=
   λa1 a2 a3 a4 a5 a6 a7=>bm (R:=λt st'=>pL (sG L e room i) st' λx j=>x=t/\st'=.ok (j,q)) g5 gd hg oo a1 a2 a3 a4 a5 a6 a7
 have gn:cK (cV L i)=true->GG L i=1:=λhn=>by
   have hi:=Jg hn;have:=h.sg _ (cY hi);rw[<-Co hi];exact this.name (by rw[UT hi];exact hn)
 refine aE lj<|cX aG M rfl<|bI<|br (λhk=>?_) λg9=>?_
 ·have hi:i<L.length:=by
    rcases kR i L.length with h1|h1
    ·exact h1
    rw[Lr h1]at hk;cases hk
  have O:¬cK (cV L i)=true:=λhn=>by have:=gn hn;omega
  refine zY h4 hi λw5 gb h5=>?_;have gp:=gb.size;have V:=M.keep (gb.block _ gl (.inr oo));refine aE TB<|cX cG V rfl ?_;have g1:=Xr h.sg hk;have hin:=A0 g1;refine(A7 h.pow h5.ext).mM λw6 gc=>?_;have g2:=gc.size;rw[g1];refine fO rfl<|fO rfl<|fI (cells:=#[iV 1,iV (sE (aW (cV L i))),.string nO,.slice none 0 0]) kK<|D ((gg.trans gb.upG1).trans gc.upG) (h5.step gc) (FT io io wS pB) (lr _) oo rfl ?_;rw[JT];unfold yB;rw[aH O,aP hk];exact⟨rfl,rfl⟩
 refine aE TB<|cX cG M rfl<|cI.mM λw5 g3=>?_;have gp:=g3.size;have h5:=h4.step g3;have V:=M.ext g3;have g4:=gg.trans (g3.upG (g:=g) (lo:=w1.heap.size));refine bW (λhn=>?_) λhn=>?_
 ·refine zY h5 (Jg hn) λw6 C h6=>?_;have g2:=C.size;refine aE TB<|cX cG (V.keep (C.block _ V.lt (.inr oo))) rfl<|fI (cells:=#[iV 2,iV 0,.string (cV L i),.slice none 0 0]) kK<|D (g4.trans C.upG1) h6 (FT io pJ sI pB) (lr _) oo rfl ?_;rw[JT];unfold yB;rw[aP hn];exact⟨rfl,rfl⟩
 have O:¬cK (cV L i)=true:=by rw[hn];decide
 refine aE TB<|cX cG V rfl<|GK<|br (λhb=>?_) λhb=>?_
 ·have hb:¬eE L i DF:=hb;refine fI (cells:=#[iV 0,iV 0,.string nO,.slice none 0 0]) kK<|(IW (c:=3) h5 dD io).mono ?_;rintro _ w6 ⟨C,h6,rfl⟩;have g2:=C.size;refine D (g4.trans C.upG1) h6 EJ (lr _) oo rfl ?_;rw[JT];unfold yB;rw[aH O,aH g9,aH hb];rfl
 have hb:eE L i DF:=eK.1 hb;refine bI<|br (λh6=>?_) λh6=>?_
 ·refine fI (cells:=#[iV 0,iV 0,.string nO,.slice none 0 0]) kK<|(IW (c:=4) h5 dD io).mono ?_;rintro _ w6 ⟨C,h6,rfl⟩;have g2:=C.size;refine D (g4.trans C.upG1) h6 EJ (lr _) oo rfl ?_;have gr:room=0:=oo;rw[JT];unfold yB;rw[aH O,aH g9,aP hb,gr];rfl
 obtain⟨m,rfl⟩:∃m,room=m+1:=⟨room-1,oo⟩;refine zY h5 (MF hb dD) λw6 C h6=>?_;have g2:=C.size;refine rQ io<|(ih m rfl h6 oo).mono ?_;rintro _ _ ⟨gs,u,t,_,rfl,h7,o7,gt⟩;refine fO rfl<|fO rfl<|D ((g4.trans C.upG1).trans gs.upG1) h7 o7 oo (lr _) rfl ?_;rw[JT];unfold yB;rw[aH O,aH g9,aP hb];exact gt
def zzv(hr6:m<=6)(ih:Lw m):Ta m:=by
 intro W w g L v e i q _ h hd;have hg:=h.lt;have:=h.ext.size;have:=h.lo;refine co (g:=kf [] [] []) Tryz.func317 ?_;refine sY (α:=aD) BZ λw1 gp gz=>?_;have:=gz.lt
 have D:∀{w5:wD}{st':lU}{u:vL}{t:aD}{lo hi:Nat}{b:Bool},fZ g w1.heap.size w1 w5->iW W g L v e st' w5->aK lo hi w5 u t->w1.heap.size<=lo->hi<=w5.heap.size->kW st'=b->(pL (tT L e (sG L e m) i) st' λx j=>x=t/\st'=.ok (j,q)) ->
     fA tp (Instr.storeAt 67 (pT w.heap.size 0) u) w5 λw5=>RD tp (qP 67 (pT w.heap.size 0)) w5 λr=>QV W g L v e w (λt st'=>pL (tT L e (sG L e m) i) st' λx j=>x=t/\st'=.ok (j,q)) (.tuple [r,.bool b].toArray) w5:=
   λa1 a2 a3 a4 a5 a6 a7=>bm (R:=λt st'=>pL (tT L e (sG L e m) i) st' λx j=>x=t/\st'=.ok (j,q)) gp gz hg oo a1 a2 a3 a4 a5 a6 a7
 have hz:∀{w5:wD}{st':lU}{b:Bool},fZ g w1.heap.size w1 w5->iW W g L v e st' w5->kW st'=b->(pL (tT L e (sG L e m) i) st' λx j=>x=bA/\st'=.ok (j,q)) ->
     RD tp (Instr.build 67 #[]) w5 λu=>fA tp (Instr.storeAt 67 (pT w.heap.size 0) u) w5 λw5=>RD tp (qP 67 (pT w.heap.size 0)) w5 λr=>QV W g L v e w (λt st'=>pL (tT L e (sG L e m) i) st' λx j=>x=t/\st'=.ok (j,q)) (.tuple [r,.bool b].toArray) w5:=by
   intro w5 st' b a1 a2 a3 a4;refine fI (cells:=#[iV 0,iV 0,.string nO,.slice none 0 0]) kK<|D a1 a2 EJ (lr _) a1.size a3 a4
 refine(BM (h.step gp)).mono ?_;rintro _ w2 ⟨gq,_,rfl,_,_,_⟩;have:=gq.size;have h2:=(h.step gp).step gq;have gA:fZ g w1.heap.size w1 w2:=gq.upG;refine CO<|eX<|br (λhn=>?_) λhn=>?_
 ·have hn:eE L i wY:=hn;refine zY h2 (MF hn dD) λ_ gB h3=>?_;have:=gB.size;refine(ih h3 hd).mono ?_;rintro _ w4 ⟨g3,u,t,g4,rfl,h4,o4,g5⟩;have gG:=g3.size;refine fO rfl<|fO rfl<|sY (α:=aD) BZ λw5 M gi=>?_;have gH:=M.size;refine oU dK gi (o4.ext M) (.inr oo) λw6 g0 gr=>?_;have gI:=g0.size;have h6:=(h4.step M).chg g0 oo oo;have g9:fZ g w1.heap.size w1 w6:=(((gA.trans gB.upG1).trans g3.upG1).trans M.upG).trans (g0.upG oo);refine dG<|bW (λho=>?_) λho=>?_
  ·have ho:kW g4=false:=by simpa using ho
   obtain⟨f,rfl,hp⟩:=zS g5 (λx j hh=>⟨_,hh.2⟩) ho;refine hz g9 h6 rfl ?_;unfold tT;rw[aP hn,hp];rfl
  have ho:kW g4=true:=by simpa using ho
  obtain⟨j,rfl,hp⟩:=ME g5 ho;refine(IF (t:=zF) h6 dD).mono ?_;rintro _ w7 ⟨gs,h7,rfl⟩;have gJ:=gs.size;have gC:=g9.trans (gs.upG1 (lo:=w1.heap.size));refine dG ?_;by_cases hs:eE L j zF
  ·rw[CM hs]at h7 ⊢;refine bW (λho=>by cases ho) λ_=>?_;refine DJ dK (gr.chg gs (.inr oo) (.inr oo)) xx λ_ o8=>Cr mY dK RH dD o8 oo λ_ w8 Z o9=>?_;have gK:=Z.size;obtain⟨a8,c8,rfl⟩:=HZ o9;refine fI (cells:=#[iV 8,iV 0,.string nO,.slice a8 [t].length c8]) kK<|D (gC.trans Z.upG) (h7.step Z) (FT io pJ wS o9) oo (lr _) rfl ?_;unfold tT;rw[aP hn,hp];simp only[Rd.go];rw[sB hs];exact⟨rfl,rfl⟩
  rw[CZ hs]at h7 ⊢;refine bW (λ_=>?_) (λho=>by cases ho);refine hz gC h7 rfl ?_;unfold tT;rw[aP hn,hp];simp only[Rd.go];rw[FX hs];rfl
 have hn:¬eE L i wY:=hn;refine(ih h2 hd).mono ?_;rintro _ w4 ⟨g3,u,t,g4,rfl,h4,o4,g5⟩;have gG:=g3.size;refine fO rfl<|fO rfl<|sY (α:=aD) BZ λw5 M gi=>?_;have gH:=M.size;have:=gi.lt;refine oU dK gi (o4.ext M) (.inr oo) λw6 g0 gr=>?_;have gI:=g0.size;have h6:=(h4.step M).chg g0 oo oo;have g9:fZ g w1.heap.size w1 w6:=((gA.trans g3.upG1).trans M.upG).trans (g0.upG oo);refine dG<|bW (λho=>?_) λho=>?_
 ·have ho:kW g4=false:=by simpa using ho
  obtain⟨f,rfl,hp⟩:=zS g5 (λx j hh=>⟨_,hh.2⟩) ho;refine hz g9 h6 rfl ?_;unfold tT;rw[aH hn,hp];rfl
 have ho:kW g4=true:=by simpa using ho
 obtain⟨j,rfl,hp⟩:=ME g5 ho;refine(BM h6).mono ?_;rintro _ w7 ⟨gj,a7,rfl,-,-,-⟩;have gJ:=gj.size;refine CO<|xK.mM λw8 Z=>?_;have gK:=Z.size;have h8:=(h6.step gj).step Z;have gD:fZ g w1.heap.size w1 w8:=(g9.trans gj.upG).trans Z.upG;have gL:=(gr.ext gj).ext Z;refine bI<|br (λhk=>?_) λhk=>?_
 ·have hk:vP (cV L j)=0:=oo;refine fI (cells:=#[iV 0,iV 0,.string nO,.slice none 0 0]) kK<|(IW (c:=3) h8 dD io).mono ?_;rintro _ w9 ⟨g2,h9,rfl⟩;have gM:=g2.size;refine D (gD.trans g2.upG1) h9 EJ (lr _) oo rfl ?_;unfold tT;rw[aH hn,hp];simp only[Rd.go];rw[aP hk];rfl
 have hk:¬vP (cV L j)=0:=oo;have:=Kk (cV L j)
 have hj:j<L.length:=by
   rcases kR j L.length with h1|h1
   ·exact h1
   rw[RX h1]at hk;exact absurd dD hk
 refine zY h8 hj λw9 g2 h9=>?_;have gM:=g2.size;refine(ih h9 hd).mono ?_;rintro _ _ ⟨g1,_,t2,gb,rfl,gN,gO,gc⟩;have:=g1.size;have gt:=(gL.chg g2 (.inr oo) (.inr oo)).chg g1 (.inr oo) (.inr oo);refine fO rfl<|fO rfl<|sY (α:=aD) BZ λ_ C gx=>?_;have:=C.size;refine oU dK gx (gO.ext C) (.inr oo) λgP O gy=>?_;have:=O.size;have gE:=(gN.step C).chg O oo oo;have gd:fZ g w1.heap.size w1 gP:=(((gD.trans g2.upG1).trans g1.upG1).trans C.upG).trans (O.upG oo);have gf:=(gt.ext C).chg O (.inl oo) (.inl oo);refine dG<|bW (λho=>?_) λho=>?_
 ·have ho:kW gb=false:=by simpa using ho
  obtain⟨f,rfl,gl⟩:=zS gc (λx j hh=>⟨_,hh.2⟩) ho;refine hz gd gE rfl ?_;unfold tT;rw[aH hn,hp];simp only[Rd.go];rw[aH hk,gl];rfl
 have ho:kW gb=true:=by simpa using ho
 obtain⟨j2,rfl,gl⟩:=ME gc ho;refine(IF (t:=zF) gE dD).mono ?_;rintro _ _ ⟨V,gn,rfl⟩;have:=V.size;have gg:=gd.trans (V.upG1 (lo:=w1.heap.size));refine dG ?_;by_cases hs:eE L j2 zF
 ·rw[CM hs]at gn ⊢;refine bW (λho=>by cases ho) λ_=>?_;refine DJ dK (gf.chg V (.inr oo) (.inr oo)) xx λ_ oa=>DJ dK (gy.chg V (.inr oo) (.inr oo)) xx λ_ ob=>bj (lo:=w1.heap.size) mY dK RH dD oa ob (.inl oo) oo λ_ _ gh gF=>?_;obtain⟨a8,c8,rfl⟩:=HZ gF;refine fI (cells:=#[iV (vP (cV L j):Int),iV 0,.string nO,.slice a8 [t,t2].length c8]) kK<|D (gg.trans gh.upG) (gn.step gh) (FT io pJ wS gF) (lr _) (lr _) rfl ?_;unfold tT;rw[aH hn,hp];simp only[Rd.go];rw[aH hk,gl];simp only[Rd.go];rw[sB hs];exact⟨rfl,rfl⟩
 rw[CZ hs]at gn ⊢;refine bW (λ_=>?_) (λho=>by cases ho);refine hz gg gn rfl ?_;unfold tT;rw[aH hn,hp];simp only[Rd.go];rw[aH hk,gl];simp only[Rd.go];rw[FX hs];rfl
theorem Oa:∀room,room<=6->Lw room
 |0,h=>Vf h λm hm=>oo
 | r + 1, h => Vf h λm hm => zzv oo (by
     have:m=r:=oo;subst this;exact @Oa m oo)
end Go.Proofs.YtcaakhmhlfgogaaGreatDoor
