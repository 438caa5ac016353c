/-
  Parts of the proof, put together by program.
-/
import Derived.Test.YtkgiigmcbgifdaaGreatPFnKnots2
set_option maxRecDepth 20000
set_option linter.defProp false
set_option linter.unusedVariables false
set_option linter.unusedSimpArgs false
set_option linter.unusedSectionVars false
open Go renaming Value→vL,World→wD,Program→pG
namespace Go.Proofs.YtkgiigmcbgifdaaGreat
open Go Go.Sh Go.Proofs
open Rep (rep)
variable {W0 W1 w:wD} {a op:Int} {c:DCode} {i j k n:Nat} {v0 v1:vL}
def zId:DIns:=⟨0,0,term0,0⟩
def en (c:DCode) (i:Nat):Int:=c.entry.getD i 0
def zal (c:DCode) (j:Nat):DIns:=c.ins.getD j zId
def zbO (h:i<c.entry.length):c.entry[i]=en c i:=by unfold en;rw [List.getD_eq_getElem?_getD,List.getElem?_eq_getElem h];rfl
def zaG (h:i<c.ins.length):c.ins[i]=zal c i:=by unfold zal;rw [List.getD_eq_getElem?_getD,List.getElem?_eq_getElem h];rfl
def prc (c:DCode) (a:Int):Nat->Int
 | 0=>-1
 | n+1=>if en c n<=a then n else prc c a n
def zas (c:DCode) (a:Int):Int:=prc c a c.entry.length
theorem zlt {c:DCode} {a:Int} {m:Nat}:∀ {n:Nat},m<=n->(∀ j,m<=j->j<n->a<en c j)->prc c a n=prc c a m
 | 0,h,_=>by rw [Nat.le_zero.1 h]
 | n+1,h,hj=>by
   by_cases e:m=n+1
   . rw [e]
   rw [prc,qab (by have:=hj n oo oo;omega)];exact zlt oo λj h1 h2=>hj j h1 oo
theorem zDo {c:DCode} {a:Int}:∀ (n:Nat),-1<=prc c a n/\prc c a n<n
 | 0=>by simp [prc]
 | n+1=>by
   have:=zDo (c:=c) (a:=a) n;rw [prc];split<;>omega
def zjr:-1<=zas c a/\zas c a<c.entry.length:=zDo _
def zgd (c:DCode) (p:Int):Int:=if p+1<c.entry.length then en c (p+1).toNat-1 else (c.ins.length:Int)-1
def zeX (c:DCode) (i:Nat):Int:=if i+1<c.entry.length then en c (i+1) else c.ins.length
def zeh (c:DCode) (i:Nat):zgd c i=zeX c i-1:=by
 unfold zgd zeX;have e:((i:Int)+1).toNat=i+1:=oo;by_cases h:i+1<c.entry.length
 . rw [qah oo,qah h,e]
 rw [qab oo,qab h]
def zog  (h0:Is W0 v0 c) (e0:Ext W0 w)  :
   CALL tp 147 [v0,.int .i64 a] w λr w'=>Ext w w'/\(r=.int .i64 (zas c a)):=by
 refine co (g:=kf [] [(2,4193328,[5])] []) Tryz.func147 ?_;refine zax zbY rfl h0 e0 λg0 y1 g2 _=>zaa zbq<|zab zaS (zaq g2) (xrf g0) λ_ h7=>?_;have:=zak h7;refine zae u25 h7<|zbe io<|zap (c.entry.length) (λk us w'=>us=[.int .i64 ((c.entry.length:Int)-1-(k:Int))]/\Ext g0 w'/\(∀ j,c.entry.length-k<=j->j<c.entry.length->a<en c j)) (0) oo ⟨sS,xrf g0,λj h1 h2=>oo⟩ ?_;rintro k m2 _ _ _ ⟨hu,y2,C⟩;try replace hu:=zbv hu
 try rw [hu]
 try clear hu
 have:=zak h7;refine zb9<|br (λc1=>?_) (λc1=>?_)
 . refine zaa zbq ?_;refine zab zaS (zaq g2) y2 λ_ g4=>zaC u25 ty3 g4 oo oo λ_ _ g3=>?_;have g1:((c.entry.length:Int)-1-(k:Int)).toNat=c.entry.length-k-1:=oo;simp only [g1] at g3;refine zac ty3 g3 y2 λ_=>zew<|br (λc2=>?_) (λc2=>?_)
   . refine ⟨(y1.t y2),?_⟩;rw [zbO] at c2;unfold zas;rw [zlt (m:=c.entry.length-k) oo C,show c.entry.length-k=(c.entry.length-k-1)+1 by omega,prc,qah c2];congr 1;omega
   refine zbe io<|⟨m2-1,oo,k+1,oo,by simp;omega,y2,?_⟩;intro j h1 h2;by_cases hj:j=c.entry.length-k-1
   . subst hj;rw [zbO] at c2;omega
   exact C j oo h2
 refine ⟨(y1.t y2),?_⟩;unfold zas;rw [zlt (m:=c.entry.length-k) oo C,show c.entry.length-k=0 by omega];rfl
def zmf {p:Int}  (h0:Is W0 v0 c) (e0:Ext W0 w) (hp0:-1<=p) (hp1:p<1000000000000) (hE:∀ i,i<c.entry.length->0<=en c i) :
   CALL tp 146 [v0,.int .i64 p] w λr w'=>Ext w w'/\(r=.int .i64 (zgd c p)):=by
 refine co (g:=kf [] [] []) Tryz.func146 ?_;refine zax zbY rfl h0 e0 λg0 y1 g1 _=>zcY io<|zaa zbq<|zab zaS (zaq g1) (xrf g0) λ_ h8=>?_;have:=zak h8;refine zae u25 h8<|zaf<|br (λc1=>?_) (λc1=>?_)
 . refine zaa zbq ?_;refine zab zaS (zaq g1) (xrf g0) λ_ g3=>zcY io<|zaC u25 ty3 g3 oo oo λ_ _ g4=>zac ty3 g4 (xrf g0) λ_=>?_;have g5:=hE (p+1).toNat oo;rw [<-zbO oo] at g5;refine zbe (by unfold I64 at *;omega)<|⟨y1,?_⟩;unfold zgd;rw [qah c1,zbO]
 refine zaa zaY<|zab zdD (zam g1) (xrf g0) λ_ g2=>?_;have:=zak g2;refine zae u26 g2<|zbe (by unfold I64;have:=zak g2;omega)<|⟨y1,?_⟩;unfold zgd;rw [qab c1]
def zip:ByteArray:=ByteArray.mk #[109,97,105,110]
def NamesR (c:DCode):Prop:=(decide ((c.globals.length:Int)<=6)&&c.globals.all zbD)=true/\(decide ((c.locks.length:Int)<=6)&&c.locks.all zbD)=true/\(decide ((c.procs.length:Int)<=8)&&c.procs.all zbD)=true /\
 c.globals.Nodup/\c.locks.Nodup/\c.procs.Nodup/\zip∈c.procs
instance (c:DCode):Decidable (NamesR c):=by unfold NamesR;infer_instance
def EntS (c:DCode):Prop:=c.entry.length=c.procs.length/\c.ins.length<=1500/\(∀ i,i<c.entry.length->(i=0->en c 0=0)/\(0<i->en c (i-1)<en c i)/\en c i<c.ins.length) /\
 ∀ j,j<c.ins.length->((zal c j).op=9↔zgd c (zas c j)=j)
instance (c:DCode):Decidable (EntS c):=by unfold EntS;infer_instance
def zjs {P:Nat->Prop} (h:∀ i,i<k->P i) (hk:P k):∀ i,i<k+1->P i:=λi hi=>by
 by_cases e:i=k
 . rw [e];exact hk
 exact h i oo
theorem zkh {c:DCode} {n:Nat} {m:Int} (h:∀ i,i<n->(i=0->en c 0=0)/\(0<i->en c (i-1)<en c i)/\en c i<m):∀ i,i<n->0<=en c i
 | 0,hi=>by rw [(h 0 hi).1 rfl];omega
 | i+1,hi=>by
   have h1:=zkh h i oo;have h2:=(h (i+1) hi).2.1 oo;simp only [qbM] at h2;omega
def ztd  (h0:Is W0 v0 c) (e0:Ext W0 w)  :
   CALL tp 84 [v0] w λr w'=>Ext w w'/\(r=.bool (decide (NamesR c/\EntS c))):=by
 refine co (g:=kf [] [(4,5070602400912773490798736965644,[3]),(9,21267642861956253053543306977672691732,[4])] [(6,[0,1,2,3,4,5,6,7,8,9,10,11,12,13,14,15,16,17,18,19,20,21,22,23,24,25,26,27,28,29,30,31,32,33,34,35,36,37],0),(11,[0,1,2,3,4,5,6,7,8,9,12,10,11,13,14],3072)]) Tryz.func84 ?_;refine zax zbY rfl h0 e0 λgF y1 D gG=>zaa zee<|zab zdt (zbs D) (xrf gF) λ_ h6=>?_;refine (zfH h6 (xrf gF)).mono ?_;rintro _ _ ⟨y2,rfl⟩;refine za2<|zbX (λc1=>?_) (λc1=>?_)
 . refine ⟨(y1.t y2),?_⟩;have:¬(NamesR c/\EntS c):=λh=>by rw [h.1.1] at c1;cases c1
   simp only [this,qam]
 refine zaa zfk<|zab zdt (zbU D) y2 λ_ gR=>?_;refine (zfH gR y2).mono ?_;rintro _ _ ⟨y3,rfl⟩;refine za2<|zbX (λc2=>?_) (λc2=>?_)
 . refine ⟨(y1.t (y2.t y3)),?_⟩;have:¬(NamesR c/\EntS c):=λh=>by rw [h.1.2.1] at c2;cases c2
   simp only [this,qam]
 refine zaa zdl<|zab zdt (zbd D) (y2.t y3) λ_ gS=>?_;refine (zfH gS (y2.t y3)).mono ?_;rintro _ _ ⟨y4,rfl⟩;refine za2<|zbX (λc3=>?_) (λc3=>?_)
 . refine ⟨(y1.t (y2.t (y3.t y4))),?_⟩;have:¬(NamesR c/\EntS c):=λh=>by rw [h.1.2.2.1] at c3;cases c3
   simp only [this,qam]
 refine zaa zee<|zab zdt (zbs D) (y2.t (y3.t y4)) λ_ gU=>?_;refine (zeH gU (y2.t (y3.t y4))).mono ?_;rintro _ _ ⟨y5,rfl⟩;refine br (λc4=>?_) (λc4=>?_)
 . refine ⟨(y1.t (y2.t (y3.t (y4.t y5)))),?_⟩;have:¬(NamesR c/\EntS c):=λh=>c4 h.1.2.2.2.1;simp only [this,qam]
 refine zaa zfk<|zab zdt (zbU D) (y2.t (y3.t (y4.t y5))) λ_ gV=>?_;refine (zeH gV (y2.t (y3.t (y4.t y5)))).mono ?_;rintro _ _ ⟨y6,rfl⟩;refine br (λc5=>?_) (λc5=>?_)
 . refine ⟨(y1.t (y2.t (y3.t (y4.t (y5.t y6))))),?_⟩;have:¬(NamesR c/\EntS c):=λh=>c5 h.1.2.2.2.2.1;simp only [this,qam]
 refine zaa zdl<|zab zdt (zbd D) (y2.t (y3.t (y4.t (y5.t y6)))) λ_ gW=>?_;refine (zeH gW (y2.t (y3.t (y4.t (y5.t y6))))).mono ?_;rintro _ _ ⟨y7,rfl⟩;refine br (λc6=>?_) (λc6=>?_)
 . refine ⟨(y1.t (y2.t (y3.t (y4.t (y5.t (y6.t y7)))))),?_⟩;have:¬(NamesR c/\EntS c):=λh=>c6 h.1.2.2.2.2.2.1;simp only [this,qam]
 refine zaa zbq<|zab zaS (zaq D) (y2.t (y3.t (y4.t (y5.t (y6.t y7))))) λ_ gH=>?_;have gI:=zak gH;refine zae u25 gH<|zaa zdl<|zab zdt (zbd D) (y2.t (y3.t (y4.t (y5.t (y6.t y7))))) λ_ gJ=>?_;have gK:=zak gJ;refine zae u24 gJ<|zaT<|br (λc7=>?_) (λc7=>?_)
 . refine ⟨(y1.t (y2.t (y3.t (y4.t (y5.t (y6.t y7)))))),?_⟩;have:¬(NamesR c/\EntS c):=λh=>c7 (by rw [h.2.1]);simp only [this,qam]
 refine zaa zaY<|zab zdD (zam D) (y2.t (y3.t (y4.t (y5.t (y6.t y7))))) λ_ gM=>?_;have gN:=zak gM;refine zae u26 gM<|zcO<|br (λc8=>?_) (λc8=>?_)
 . refine ⟨(y1.t (y2.t (y3.t (y4.t (y5.t (y6.t y7)))))),?_⟩;have:¬(NamesR c/\EntS c):=λh=>by have:=h.2.2.1;omega
   simp only [this,qam]
 refine zaa zdl<|zab zdt (zbd D) (y2.t (y3.t (y4.t (y5.t (y6.t y7))))) λ_ gX=>?_;refine (zcL gX (y2.t (y3.t (y4.t (y5.t (y6.t y7)))))).mono ?_;rintro _ gO ⟨y8,rfl⟩;refine zaf<|br (λc9=>?_) (λc9=>?_)
 . refine ⟨(y1.t (y2.t (y3.t (y4.t (y5.t (y6.t (y7.t y8))))))),?_⟩;have:¬(NamesR c/\EntS c):=λh=>by have:=zgb.2 h.1.2.2.2.2.2.2;unfold zip at this;omega
   simp only [this,qam]
 refine zap (c.entry.length) (λk us w'=>us=[.int .i64 (k:Int)]/\Ext gO w'/\(∀ i,i<k->(i=0->en c 0=0)/\(0<i->en c (i-1)<en c i)/\en c i<c.ins.length)) (0) oo ⟨sS,xrf gO,λi h=>oo⟩ ?_;rintro k m4 _ gd _ ⟨hu,y9,V⟩;try replace hu:=zbv hu
 try rw [hu]
 try clear hu
 refine zaa zbq<|zab zaS (zaq D) (y2.t (y3.t (y4.t (y5.t (y6.t (y7.t (y8.t y9))))))) λ_ gP=>?_;have gQ:=zak gP;refine zae u25 gP<|zaf<|br (λgY=>?_) (λgY=>?_)
 . have C:=zag gd;refine zai<|br (λg2=>?_) (λg2=>?_)
   . refine zaa zbq ?_;refine zab zaS (zaq D) (y2.t (y3.t (y4.t (y5.t (y6.t (y7.t (y8.t (y9.t C)))))))) λ_ gZ=>zaC u25 ty3 gZ oo oo λ_ _ h2=>zac ty3 h2 (y2.t (y3.t (y4.t (y5.t (y6.t (y7.t (y8.t (y9.t C)))))))) λ_=>zaT<|br (λg3=>?_) (λg3=>?_)
     . refine ⟨(y1.t (y2.t (y3.t (y4.t (y5.t (y6.t (y7.t (y8.t (y9.t C))))))))),?_⟩;rw [zbO] at g3;have:¬(NamesR c/\EntS c):=λh=>g3 ((h.2.2.2.1 0 oo).1 rfl);simp only [this,qam]
     refine zcO<|gbr (λh4=>?_) (λh4=>?_)
     . refine zaa zbq ?_;refine zab zaS (zaq D) (y2.t (y3.t (y4.t (y5.t (y6.t (y7.t (y8.t (y9.t C)))))))) λh5 gf=>zad u25 ty3 gf oo λh9 ha gg=>zac ty3 gg (y2.t (y3.t (y4.t (y5.t (y6.t (y7.t (y8.t (y9.t C)))))))) λgh=>zaa zbq<|zab zaS (zaq D) (y2.t (y3.t (y4.t (y5.t (y6.t (y7.t (y8.t (y9.t C)))))))) λhb gi=>zbe io<|zaC u25 ty3 gi oo oo λhc hd gj=>zac ty3 gj (y2.t (y3.t (y4.t (y5.t (y6.t (y7.t (y8.t (y9.t C)))))))) λgl=>?_;have Y:((k:Int)-1).toNat=k-1:=oo;refine zew<|br (λhe=>?_) (λhe=>?_)
       . refine ⟨(y1.t (y2.t (y3.t (y4.t (y5.t (y6.t (y7.t (y8.t (y9.t C))))))))),?_⟩;exact absurd g2 oo
       refine zaa zbq<|zab zaS (zaq D) (y2.t (y3.t (y4.t (y5.t (y6.t (y7.t (y8.t (y9.t C)))))))) λgp Z=>zad u25 ty3 Z oo λgq gr g0=>zac ty3 g0 (y2.t (y3.t (y4.t (y5.t (y6.t (y7.t (y8.t (y9.t C)))))))) λg1=>zaa zaY<|zab zdD (zam D) (y2.t (y3.t (y4.t (y5.t (y6.t (y7.t (y8.t (y9.t C)))))))) λgs I=>?_;have O:=zak I;refine zae u26 I<|zb9<|br (λhf=>?_) (λhf=>?_)
       . refine ⟨(y1.t (y2.t (y3.t (y4.t (y5.t (y6.t (y7.t (y8.t (y9.t C))))))))),?_⟩;exact absurd g2 oo
       refine zau<|⟨m4-1,oo,k+1,oo,sS,(y9.t C),?_⟩;exact absurd g2 oo
     refine zaa zbq<|zab zaS (zaq D) (y2.t (y3.t (y4.t (y5.t (y6.t (y7.t (y8.t (y9.t C)))))))) λgp Z=>zad u25 ty3 Z oo λgq gr g0=>zac ty3 g0 (y2.t (y3.t (y4.t (y5.t (y6.t (y7.t (y8.t (y9.t C)))))))) λg1=>zaa zaY<|zab zdD (zam D) (y2.t (y3.t (y4.t (y5.t (y6.t (y7.t (y8.t (y9.t C)))))))) λgs I=>?_;have O:=zak I;refine zae u26 I<|zb9<|br (λgt=>?_) (λgt=>?_)
     . refine ⟨(y1.t (y2.t (y3.t (y4.t (y5.t (y6.t (y7.t (y8.t (y9.t C))))))))),?_⟩;rw [zbO] at gt;have:¬(NamesR c/\EntS c):=λh=>by have:=(h.2.2.2.1 k oo).2.2;omega
       simp only [this,qam]
     refine zau<|⟨m4-1,oo,k+1,oo,sS,(y9.t C),?_⟩;rw [zbO] at gt g3;have hg:k=0:=oo;subst hg;exact zjs V ⟨λ_=>qai.1 g3,λh=>oo,oo⟩
   refine zcO<|gbr (λhh=>?_) (λhh=>?_)
   . refine zaa zbq ?_;refine zab zaS (zaq D) (y2.t (y3.t (y4.t (y5.t (y6.t (y7.t (y8.t (y9.t C)))))))) λh5 gf=>zad u25 ty3 gf oo λh9 ha gg=>zac ty3 gg (y2.t (y3.t (y4.t (y5.t (y6.t (y7.t (y8.t (y9.t C)))))))) λgh=>zaa zbq<|zab zaS (zaq D) (y2.t (y3.t (y4.t (y5.t (y6.t (y7.t (y8.t (y9.t C)))))))) λhb gi=>zbe io<|zaC u25 ty3 gi oo oo λhc hd gj=>zac ty3 gj (y2.t (y3.t (y4.t (y5.t (y6.t (y7.t (y8.t (y9.t C)))))))) λgl=>?_;have Y:((k:Int)-1).toNat=k-1:=oo;refine zew<|br (λg4=>?_) (λg4=>?_)
     . refine ⟨(y1.t (y2.t (y3.t (y4.t (y5.t (y6.t (y7.t (y8.t (y9.t C))))))))),?_⟩;rw [zbO,zbO] at g4;simp only [Y] at g4;have:¬(NamesR c/\EntS c):=λh=>by have:=(h.2.2.2.1 k oo).2.1 oo;omega
       simp only [this,qam]
     refine zaa zbq<|zab zaS (zaq D) (y2.t (y3.t (y4.t (y5.t (y6.t (y7.t (y8.t (y9.t C)))))))) λgp Z=>zad u25 ty3 Z oo λgq gr g0=>zac ty3 g0 (y2.t (y3.t (y4.t (y5.t (y6.t (y7.t (y8.t (y9.t C)))))))) λg1=>zaa zaY<|zab zdD (zam D) (y2.t (y3.t (y4.t (y5.t (y6.t (y7.t (y8.t (y9.t C)))))))) λgs I=>?_;have O:=zak I;refine zae u26 I<|zb9<|br (λgx=>?_) (λgx=>?_)
     . refine ⟨(y1.t (y2.t (y3.t (y4.t (y5.t (y6.t (y7.t (y8.t (y9.t C))))))))),?_⟩;rw [zbO] at gx;have:¬(NamesR c/\EntS c):=λh=>by have:=(h.2.2.2.1 k oo).2.2;omega
       simp only [this,qam]
     refine zau<|⟨m4-1,oo,k+1,oo,sS,(y9.t C),?_⟩;rw [zbO] at gx;rw [zbO,zbO] at g4;simp only [Y] at g4;exact zjs V ⟨λh=>oo,λ_=>oo,oo⟩
   refine zaa zbq<|zab zaS (zaq D) (y2.t (y3.t (y4.t (y5.t (y6.t (y7.t (y8.t (y9.t C)))))))) λgp Z=>zad u25 ty3 Z oo λgq gr g0=>zac ty3 g0 (y2.t (y3.t (y4.t (y5.t (y6.t (y7.t (y8.t (y9.t C)))))))) λg1=>zaa zaY<|zab zdD (zam D) (y2.t (y3.t (y4.t (y5.t (y6.t (y7.t (y8.t (y9.t C)))))))) λgs I=>?_;have O:=zak I;refine zae u26 I<|zb9<|br (λhj=>?_) (λhj=>?_)
   . refine ⟨(y1.t (y2.t (y3.t (y4.t (y5.t (y6.t (y7.t (y8.t (y9.t C))))))))),?_⟩;exact absurd g2 oo
   refine zau<|⟨m4-1,oo,k+1,oo,sS,(y9.t C),?_⟩;exact absurd g2 oo
 refine zap (c.ins.length) (λk us w'=>us=[.int .i64 (k:Int)]/\Ext gd w'/\(∀ j,j<k->((zal c j).op=9↔zgd c (zas c j)=j))) (0) oo ⟨sS,xrf gd,λi h=>oo⟩ ?_;rintro k m9 _ gy _ ⟨hu,U,g5⟩;try replace hu:=zbv hu
 try rw [hu]
 try clear hu
 refine zaa zaY<|zab zdD (zam D) (y2.t (y3.t (y4.t (y5.t (y6.t (y7.t (y8.t (y9.t U)))))))) λ_ g9=>?_;have gz:=zak g9;refine zae u26 g9<|zaf<|br (λhk=>?_) (λhk=>?_)
 . have X:=zag gy;refine zaa zaY<|zab zdD (zam D) (y2.t (y3.t (y4.t (y5.t (y6.t (y7.t (y8.t (y9.t (U.t X))))))))) λ_ gC=>zad u26 zbm gC oo λ_ _ gD=>zaa za8<|zac ty3 (zay gD) (y2.t (y3.t (y4.t (y5.t (y6.t (y7.t (y8.t (y9.t (U.t X))))))))) λ_=>zai<|zbr gG (y2.t (y3.t (y4.t (y5.t (y6.t (y7.t (y8.t (y9.t (U.t X)))))))))<|zbr gG (y2.t (y3.t (y4.t (y5.t (y6.t (y7.t (y8.t (y9.t (U.t X))))))))) ?_
   have h8:c.entry.length<=8:=by
     simp only [qb8,qar,qau] at c3;have:=c3.1;omega
   refine (zog h0 (e0.t (y1.t (y2.t (y3.t (y4.t (y5.t (y6.t (y7.t (y8.t (y9.t (U.t X)))))))))))).mono ?_;rintro _ _ ⟨gc,rfl⟩;refine ⟨gc,?_⟩;refine (zmf h0 (e0.t (y1.t (y2.t (y3.t (y4.t (y5.t (y6.t (y7.t (y8.t (y9.t (U.t (X.t gc)))))))))))) (by have:=zjr (c:=c) (a:=k);omega) (by have:=zjr (c:=c) (a:=k);omega) (zkh λi hi=>V i oo)).mono ?_;rintro _ _ ⟨gE,rfl⟩;refine ⟨gE,?_⟩;refine zai<|zEt u4<|br (λgb=>?_) (λgb=>?_)
   . refine ⟨(y1.t (y2.t (y3.t (y4.t (y5.t (y6.t (y7.t (y8.t (y9.t (U.t (X.t (gc.t gE)))))))))))),?_⟩;rw [zaG] at gb;have:¬(NamesR c/\EntS c):=λh=>gb (decide_eq_decide.2 (h.2.2.2.2 k oo));simp only [this,qam]
   refine zau<|⟨m9-1,oo,k+1,oo,sS,(U.t (X.t (gc.t gE))),?_⟩;rw [zaG] at gb;exact zjs g5 (decide_eq_decide.1 (qai.1 gb))
 refine ⟨(y1.t (y2.t (y3.t (y4.t (y5.t (y6.t (y7.t (y8.t (y9.t U))))))))),?_⟩
 have:NamesR c/\EntS c:=by
   refine ⟨⟨by simpa using c1,by simpa using c2,by simpa using c3,qai.1 c4,qai.1 c5,qai.1 c6,zgb.1 (by unfold zip;omega)⟩,oo,oo,λi hi=>V i oo,λj _=>g5 j oo⟩
 simp only [this,and_self,qa6]
def zcz (c:DCode) (op:Int):Int:=if op=1 then c.globals.length else if op=4\/op=5 then c.procs.length else if op=6\/op=7 then c.locks.length else 1
def ziw (c:DCode) (a:DIns) (b e:Int):Prop:=(1<=a.op/\a.op<=9)/\(0<=a.arg/\a.arg<zcz c a.op) /\
 (if a.op=1\/a.op=2 then zbj 6 a.term=true/\(∀ s∈zb4 a.term,s∈c.globals) else a.term=term0)/\(if a.op=2\/a.op=3 then b<=a.to/\a.to<e else a.to=0)
instance (c:DCode) (a:DIns) (b e:Int):Decidable (ziw c a b e):=by unfold ziw;infer_instance
def zyC  (h0:Is W0 v0 c) (e0:Ext W0 w) (hj:j<c.ins.length) (hE:∀ i,i<c.entry.length->0<=en c i) (h8:c.entry.length<=8) (hp:0<=zas c j) :
   CALL tp 85 [v0,.int .i64 (j:Int)] w λr w'=>Ext w w'/\(r=.bool (decide (ziw c (zal c j) (en c (zas c j).toNat) (zgd c (zas c j)+1)))):=by
 refine co (g:=kf [(12,137438920768,[6]),(25,4835703278177041722114448,[]),(27,9898684611004583682494169104,[])] [(19,151106504079791792062736,[8])] [(21,[0,1,2,3,4,5,6,7],0),(28,[0,1,2,3,4,5,6,7,8,9,10,11],512)]) Tryz.func85 ?_;have hpl:=zjr (c:=c) (a:=j);refine zax zbY rfl h0 e0 λgi y1 O gH=>zaa zaY<|zab zdD (zam O) (xrf gi) λ_ gQ=>zad u26 zbm gQ oo λ_ _ gR=>zab zbm gR (xrf gi) λ_ gj=>?_;rw [zaG] at gj;obtain ⟨a,ha⟩:∃ a,a=zal c j:=⟨_,rfl⟩;rw [<-ha] at gj ⊢;refine zcP ziG rfl zbm rfl gj (xrf gi) λU y2 I _=>JOIN.mk (λus w'=>us=[.int .i64 (zcz c a.op-1)]/\Ext U w'/\(True)) ?_ ?_
 . refine zaa za8 ?_;refine zac ty3 (zay I) (xrf U) λ_=>zai<|br (λc1=>?_) (λc1=>?_)
   . refine zaa zee ?_;refine zab zdt (zbs O) y2 λ_ gl=>?_;have gI:=zak gl;refine zae u24 gl<|zbe (by unfold I64;have:=zak gl;omega)<|⟨by unfold zcz;rw [qah c1],xrf U,?_⟩;trivial
   refine zai<|br (λc2=>?_) (λc2=>?_)
   . refine zaa zfk ?_;refine zab zdt (zbU O) y2 λgS X=>?_;have g4:=zak X;refine zae u24 X<|zbe (by unfold I64;have:=zak X;omega)<|⟨by unfold zcz;rw [qab oo,qab oo,qah oo],xrf U,?_⟩;trivial
   refine zai<|br (λc3=>?_) (λc3=>?_)
   . refine zaa zfk ?_;refine zab zdt (zbU O) y2 λgS X=>?_;have g4:=zak X;refine zae u24 X<|zbe (by unfold I64;have:=zak X;omega)<|⟨by unfold zcz;rw [qab oo,qab oo,qah oo],xrf U,?_⟩;trivial
   refine zai<|br (λc4=>?_) (λc4=>?_)
   . refine zaa zdl ?_;refine zab zdt (zbd O) y2 λgU Y=>?_;have g5:=zak Y;refine zae u24 Y<|zbe (by unfold I64;have:=zak Y;omega)<|⟨by unfold zcz;rw [qab oo,qah oo],xrf U,?_⟩;trivial
   refine zai<|br (λc5=>?_) (λc5=>?_)
   . refine zaa zdl ?_;refine zab zdt (zbd O) y2 λgU Y=>?_;have g5:=zak Y;refine zae u24 Y<|zbe (by unfold I64;have:=zak Y;omega)<|⟨by unfold zcz;rw [qab oo,qah oo],xrf U,?_⟩;trivial
   refine ⟨by unfold zcz;rw [qab oo,qab oo,qab oo];rfl,xrf U,?_⟩;trivial
 rintro _ _ ⟨hu,y3,C⟩;try replace hu:=zbv hu
 try rw [hu]
 try clear hu
 refine zaa za8<|zac ty3 (zay I) y3 λ_=>?_;refine (l01In_ok ).mono ?_;rintro _ _ ⟨y4,rfl⟩;refine zav<|br (λc6=>?_) (λc6=>?_)
 . refine ⟨(y1.t (y2.t (y3.t y4))),?_⟩;have:¬ziw c a (en c (zas c j).toNat) (zgd c (zas c j)+1):=λh=>c6 h.1;simp only [this,qam]
 refine zaa zaZ<|zac ty3 (zat I) (y3.t y4) λ_=>?_;refine (l01In_ok ).mono ?_;rintro _ gJ ⟨y5,rfl⟩;refine zav<|br (λc7=>?_) (λc7=>?_)
 . refine ⟨(y1.t (y2.t (y3.t (y4.t y5)))),?_⟩;have:¬ziw c a (en c (zas c j).toNat) (zgd c (zas c j)+1):=λh=>c7 (by have:=h.2.1;omega);simp only [this,qam]
 refine JOIN.mk (λus w'=>us=[]/\Ext gJ w'/\(if a.op=1\/a.op=2 then zbj 6 a.term=true/\(∀ s∈zb4 a.term,s∈c.globals) else a.term=term0)) ?_ ?_
 . refine zaa za8 ?_;refine zac ty3 (zay I) (y3.t (y4.t y5)) λ_=>zai<|br (λc8=>?_) (λc8=>?_)
   . refine zaa zdL ?_;refine zab zbl (zco I) (y3.t (y4.t y5)) λgV gp=>?_;refine (zc2 gp (y3.t (y4.t y5))).mono ?_;rintro _ _ ⟨y7,rfl⟩;refine za2<|zbX (λc9=>?_) (λc9=>?_)
     . refine ⟨(y1.t (y2.t (y3.t (y4.t (y5.t y7))))),?_⟩;have:¬ziw c a (en c (zas c j).toNat) (zgd c (zas c j)+1):=λh=>by have:=h.2.2.1;rw [qah (.inl c8)] at this;rw [this.1] at c9;cases c9
       simp only [this,qam]
     refine zaa zdL<|zab zbl (zco I) (y3.t (y4.t (y5.t y7))) λgW gq=>?_;refine (zeW gq (y3.t (y4.t (y5.t y7)))).mono ?_;rintro gX gK ⟨y8,Z⟩;refine zap ((zb4 a.term).length) (λk us w'=>us=[.int .i64 (k:Int)]/\Ext gK w'/\(∀ s∈(zb4 a.term).take k,s∈c.globals)) (0) oo ⟨sS,xrf gK,sS⟩ ?_;rintro k gr gs gY gt ⟨hu,y9,C⟩;try replace hu:=zbv hu
     try rw [hu]
     try clear hu
     have g9:=zak Z;refine zae u24 Z<|zaf<|br (λgZ=>?_) (λgZ=>?_)
     . have gb:=zag gY;refine zaa zee<|zab zdt (zbs O) (y2.t (y3.t (y4.t (y5.t (y7.t (y8.t (y9.t gb))))))) λh2 gx=>zad u24 ty9 Z oo λh4 h5 gy=>zar ty9 gy (y9.t gb) λgz=>?_;refine (zcL gx (y2.t (y3.t (y4.t (y5.t (y7.t (y8.t (y9.t gb)))))))).mono ?_;rintro _ _ ⟨gM,rfl⟩;refine zaf<|br (λh6=>?_) (λh6=>?_)
       . refine ⟨(y1.t (y2.t (y3.t (y4.t (y5.t (y7.t (y8.t (y9.t (gb.t gM))))))))),?_⟩
         have:¬ziw c a (en c (zas c j).toNat) (zgd c (zas c j)+1):=λh=>by
           have:=h.2.2.1;rw [qah (.inl c8)] at this;have:=zgb.2 (this.2 _ (qac (n:=k) oo));omega
         simp only [this,qam]
       refine zau<|⟨gr-1,oo,k+1,oo,sS,(y9.t (gb.t gM)),?_⟩;intro s hs;rw [tk oo] at hs;rcases qae.1 hs with hs | hs
       . exact C s hs
       simp only [qaa,qad,qaq] at hs;subst hs;exact zgb.1 oo
     refine ⟨sS,(y7.t (y8.t y9)),?_⟩;rw [qah (.inl c8)];rw [qaf oo] at C;exact ⟨by simpa using c9,C⟩
   refine zaa za8<|zac ty3 (zay I) (y3.t (y4.t y5)) λ_=>zai<|br (λgf=>?_) (λgf=>?_)
   . refine zaa zdL ?_;refine zab zbl (zco I) (y3.t (y4.t y5)) λgV gp=>?_;refine (zc2 gp (y3.t (y4.t y5))).mono ?_;rintro _ _ ⟨g0,rfl⟩;refine za2<|zbX (λgg=>?_) (λgg=>?_)
     . refine ⟨(y1.t (y2.t (y3.t (y4.t (y5.t g0))))),?_⟩;have:¬ziw c a (en c (zas c j).toNat) (zgd c (zas c j)+1):=λh=>by have:=h.2.2.1;rw [qah (.inr gf)] at this;rw [this.1] at gg;cases gg
       simp only [this,qam]
     refine zaa zdL<|zab zbl (zco I) (y3.t (y4.t (y5.t g0))) λgW gq=>?_;refine (zeW gq (y3.t (y4.t (y5.t g0)))).mono ?_;rintro gX gc ⟨gh,Z⟩;refine zap ((zb4 a.term).length) (λk us w'=>us=[.int .i64 (k:Int)]/\Ext gc w'/\(∀ s∈(zb4 a.term).take k,s∈c.globals)) (0) oo ⟨sS,xrf gc,sS⟩ ?_;rintro k gr gs gC gt ⟨hu,g1,C⟩;try replace hu:=zbv hu
     try rw [hu]
     try clear hu
     have g9:=zak Z;refine zae u24 Z<|zaf<|br (λh9=>?_) (λh9=>?_)
     . have gd:=zag gC;refine zaa zee<|zab zdt (zbs O) (y2.t (y3.t (y4.t (y5.t (g0.t (gh.t (g1.t gd))))))) λh2 gx=>zad u24 ty9 Z oo λh4 h5 gy=>zar ty9 gy (g1.t gd) λgz=>?_;refine (zcL gx (y2.t (y3.t (y4.t (y5.t (g0.t (gh.t (g1.t gd)))))))).mono ?_;rintro _ _ ⟨gN,rfl⟩;refine zaf<|br (λhb=>?_) (λhb=>?_)
       . refine ⟨(y1.t (y2.t (y3.t (y4.t (y5.t (g0.t (gh.t (g1.t (gd.t gN))))))))),?_⟩
         have:¬ziw c a (en c (zas c j).toNat) (zgd c (zas c j)+1):=λh=>by
           have:=h.2.2.1;rw [qah (.inr gf)] at this;have:=zgb.2 (this.2 _ (qac (n:=k) oo));omega
         simp only [this,qam]
       refine zau<|⟨gr-1,oo,k+1,oo,sS,(g1.t (gd.t gN)),?_⟩;intro s hs;rw [tk oo] at hs;rcases qae.1 hs with hs | hs
       . exact C s hs
       simp only [qaa,qad,qaq] at hs;subst hs;exact zgb.1 oo
     refine ⟨sS,(g0.t (gh.t g1)),?_⟩;rw [qah (.inr gf)];rw [qaf oo] at C;exact ⟨by simpa using gg,C⟩
   refine zaa zdL<|zab zbl (zco I) (y3.t (y4.t y5)) λ_ hc=>zyz (α:=DTerm) zHg zv5 kK rfl λ_ hd=>?_;refine (zk3 hc (y3.t (y4.t y5)) hd (xrf gJ) rfl).mono ?_;rintro _ _ ⟨D,rfl⟩;refine zav<|br (λgD=>?_) (λgD=>?_)
   . refine ⟨(y1.t (y2.t (y3.t (y4.t (y5.t D))))),?_⟩;have:¬ziw c a (en c (zas c j).toNat) (zgd c (zas c j)+1):=λh=>by have:=h.2.2.1;rw [qab oo] at this;exact gD this
     simp only [this,qam]
   refine ⟨sS,D,?_⟩;rw [qab oo];exact qai.1 gD
 rintro _ gE ⟨hu,D,hT⟩;try replace hu:=zbv hu
 clear hu;refine JOIN.mk (λus w'=>us=[]/\Ext gE w'/\(a.op=2\/a.op=3)) ?_ ?_
 . refine zaa za8 ?_;refine zac ty3 (zay I) (y3.t (y4.t (y5.t D))) λ_=>zaT<|br (λhe=>?_) (λhe=>?_)
   . refine zaa za8 ?_;refine zac ty3 (zay I) (y3.t (y4.t (y5.t D))) λ_=>zaT<|br (λhf=>?_) (λhf=>?_)
     . refine zaa zdg ?_;refine zac ty3 (zcc I) (y3.t (y4.t (y5.t D))) λ_=>zai<|⟨(y1.t (y2.t (y3.t (y4.t (y5.t D))))),?_⟩;congr 1;rw [decide_eq_decide];constructor
       . exact λh=>⟨qai.1 c6,oo,hT,by rw [qab oo];exact h⟩
       intro h;have:=h.2.2.2;rw [qab oo] at this;exact this
     refine ⟨sS,xrf gE,?_⟩;omega
   refine ⟨sS,xrf gE,?_⟩;omega
 rintro _ _ ⟨hu,V,gO⟩;try replace hu:=zbv hu
 clear hu;refine zbr gH (y2.t (y3.t (y4.t (y5.t (D.t V))))) ?_;refine (zog h0 (e0.t (y1.t (y2.t (y3.t (y4.t (y5.t (D.t V)))))))).mono ?_;rintro _ gF ⟨g2,rfl⟩;have g3:=zag gF;refine zaa zdg<|zac ty3 (zcc I) (y3.t (y4.t (y5.t (D.t (V.t (g2.t g3)))))) λ_=>zaa zbq<|zab zaS (zaq O) (y2.t (y3.t (y4.t (y5.t (D.t (V.t (g2.t g3))))))) λ_ hg=>zaC u25 ty3 hg oo oo λ_ _ gG=>zac ty3 gG (y2.t (y3.t (y4.t (y5.t (D.t (V.t (g2.t g3))))))) λ_=>zbr gH (y2.t (y3.t (y4.t (y5.t (D.t (V.t (g2.t g3))))))) ?_;refine (zmf h0 (e0.t (y1.t (y2.t (y3.t (y4.t (y5.t (D.t (V.t (g2.t g3))))))))) oo oo aA).mono ?_;rintro _ _ ⟨gP,rfl⟩;refine ⟨gP,?_⟩;refine (l01In_ok ).mono ?_;rintro _ _ ⟨hh,rfl⟩;refine ⟨(y1.t (y2.t (y3.t (y4.t (y5.t (D.t (V.t (g2.t (g3.t (gP.t hh)))))))))),?_⟩;congr 1;rw [decide_eq_decide,zbO];constructor
 . exact λh=>⟨qai.1 c6,oo,hT,by rw [qah gO];omega⟩
 intro h;have:=h.2.2.2;rw [qah gO] at this;omega
def CodeR (c:DCode):Prop:=NamesR c/\EntS c/\∀ j,j<c.ins.length->ziw c (zal c j) (en c (zas c j).toNat) (zgd c (zas c j)+1)
instance (c:DCode):Decidable (CodeR c):=by unfold CodeR;infer_instance
def EntS.nonneg (h:EntS c):∀ i,i<c.entry.length->0<=en c i:=zkh h.2.2.1
def NamesR.procs8 (h:NamesR c):c.procs.length<=8/\0<c.procs.length:=by
 have h1:=h.2.2.1;simp only [qar,qau] at h1;have:=qb4 h.2.2.2.2.2.2;omega
theorem zki {c:DCode} {a:Int} (h0:en c 0<=a):∀ {n:Nat},0<n->0<=prc c a n
 | 1,_=>by rw [prc,qah h0];omega
 | n+2,_=>by
   rw [prc];split
   . omega
   exact zki h0 oo
def zpD (hn:NamesR c) (h:EntS c) {a:Int} (ha:0<=a):0<=zas c a:=by
 have:=hn.procs8;have:=h.1;exact zki (by have:=(h.2.2.1 0 oo).1 rfl;omega) oo
def zgU  (h0:Is W0 v0 c) (e0:Ext W0 w)  :
   CALL tp 35 [v0] w λr w'=>Ext w w'/\(r=.bool (decide (CodeR c))):=by
 refine co (g:=kf [] [(4,262028,[3])] []) Tryz.func35 ?_;refine zax zbY rfl h0 e0 λg4 y1 g5 g1=>zbr g1 (xrf g4) ?_;refine (ztd h0 (e0.t y1)).mono ?_;rintro _ g2 ⟨y2,rfl⟩
 skip
 refine zav<|br (λc1=>?_) (λc1=>?_)
 . refine ⟨(y1.t y2),?_⟩;have:¬CodeR c:=λh=>c1 ⟨h.1,h.2.1⟩;simp only [this,qam]
 refine zap (c.ins.length) (λk us w'=>us=[.int .i64 (k:Int)]/\Ext g2 w'/\(∀ j,j<k->ziw c (zal c j) (en c (zas c j).toNat) (zgd c (zas c j)+1))) (0) oo ⟨sS,xrf g2,λ_ h=>oo⟩ ?_;rintro k m4 _ _ _ ⟨hu,y3,g0⟩;try replace hu:=zbv hu
 try rw [hu]
 try clear hu
 replace c1:=qai.1 c1;refine zaa zaY<|zab zdD (zam g5) (y2.t y3) λ_ h9=>?_;have g3:=zak h9;refine zae u26 h9<|zaf<|br (λc2=>?_) (λc2=>?_)
 . refine zbr g1 (y2.t y3) ?_;refine (zyC h0 (e0.t (y1.t (y2.t y3))) oo c1.2.nonneg (by have:=c1.1.procs8;have:=c1.2.1;omega) (zpD c1.1 c1.2 oo)).mono ?_;rintro _ _ ⟨y4,rfl⟩;refine zav<|br (λc3=>?_) (λc3=>?_)
   . refine ⟨(y1.t (y2.t (y3.t y4))),?_⟩;have:¬CodeR c:=λh=>c3 (h.2.2 k oo);simp only [this,qam]
   refine zau<|⟨m4-1,oo,k+1,oo,sS,(y3.t y4),?_⟩;exact zjs g0 (qai.1 c3)
 refine ⟨(y1.t (y2.t y3)),?_⟩;have:CodeR c:=⟨c1.1,c1.2,λj _=>g0 j oo⟩;simp only [this,qa6]
def zpE  (h0:Is W0 v0 c) (e0:Ext W0 w)  :
   CALL tp 105 [v0] w λr w'=>Ext w w'/\(r=.bool (decide (NamesR c))):=by
 refine co (g:=kf [] [] []) Tryz.func105 ?_;refine zax zbY rfl h0 e0 λg0 y1 C _=>zaa zee<|zab zdt (zbs C) (xrf g0) λ_ h4=>?_;refine (ziK h4 (xrf g0)).mono ?_;rintro _ _ ⟨y2,rfl⟩;refine za2<|zbX (λc1=>?_) (λc1=>?_)
 . refine ⟨(y1.t y2),?_⟩;have:¬NamesR c:=λh=>by rw [h.1] at c1;cases c1
   simp only [this,qam]
 refine zaa zfk<|zab zdt (zbU C) y2 λ_ h9=>?_;refine (ziK h9 y2).mono ?_;rintro _ _ ⟨y3,rfl⟩;refine za2<|zbX (λc2=>?_) (λc2=>?_)
 . refine ⟨(y1.t (y2.t y3)),?_⟩;have:¬NamesR c:=λh=>by rw [h.2.1] at c2;cases c2
   simp only [this,qam]
 refine zaa zdl<|zab zdt (zbd C) (y2.t y3) λ_ g1=>?_;refine (ziK g1 (y2.t y3)).mono ?_;rintro _ _ ⟨y4,rfl⟩;refine za2<|zbX (λc3=>?_) (λc3=>?_)
 . refine ⟨(y1.t (y2.t (y3.t y4))),?_⟩;have:¬NamesR c:=λh=>by rw [h.2.2.1] at c3;cases c3
   simp only [this,qam]
 refine zaa zee<|zab zdt (zbs C) (y2.t (y3.t y4)) λ_ g2=>?_;refine (ziL g2 (y2.t (y3.t y4))).mono ?_;rintro _ _ ⟨y5,rfl⟩;refine br (λc4=>?_) (λc4=>?_)
 . refine ⟨(y1.t (y2.t (y3.t (y4.t y5)))),?_⟩;have:¬NamesR c:=λh=>c4 h.2.2.2.1;simp only [this,qam]
 refine zaa zfk<|zab zdt (zbU C) (y2.t (y3.t (y4.t y5))) λ_ g3=>?_;refine (ziL g3 (y2.t (y3.t (y4.t y5)))).mono ?_;rintro _ _ ⟨y6,rfl⟩;refine br (λc5=>?_) (λc5=>?_)
 . refine ⟨(y1.t (y2.t (y3.t (y4.t (y5.t y6))))),?_⟩;have:¬NamesR c:=λh=>c5 h.2.2.2.2.1;simp only [this,qam]
 refine zaa zdl<|zab zdt (zbd C) (y2.t (y3.t (y4.t (y5.t y6)))) λ_ g4=>?_;refine (ziL g4 (y2.t (y3.t (y4.t (y5.t y6))))).mono ?_;rintro _ _ ⟨y7,rfl⟩;refine br (λc6=>?_) (λc6=>?_)
 . refine ⟨(y1.t (y2.t (y3.t (y4.t (y5.t (y6.t y7)))))),?_⟩;have:¬NamesR c:=λh=>c6 h.2.2.2.2.2.1;simp only [this,qam]
 refine zaa zdl<|zab zdt (zbd C) (y2.t (y3.t (y4.t (y5.t (y6.t y7))))) λ_ g5=>?_;refine (zde g5 (y2.t (y3.t (y4.t (y5.t (y6.t y7)))))).mono ?_;rintro _ _ ⟨y8,rfl⟩;refine ⟨(y1.t (y2.t (y3.t (y4.t (y5.t (y6.t (y7.t y8))))))),?_⟩;congr 1;rw [decide_eq_decide];exact ⟨λh=>⟨by simpa using c1,by simpa using c2,by simpa using c3,qai.1 c4,qai.1 c5,qai.1 c6,h⟩,λh=>h.2.2.2.2.2.2⟩
def zpF (c:DCode):Nat->Nat
 | 0=>0
 | k+1=>zpF c k+if (zal c k).op=9 then 1 else 0
theorem zyD (c:DCode):∀ k,zpF c k<=k
 | 0=>qaz _
 | k+1=>by have:=zyD c k;rw [zpF];split<;>omega
def EntI (c:DCode):Prop:=c.ins.length<=1500/\c.entry.length=c.procs.length/\en c 0=0/\zpF c c.ins.length=c.entry.length /\
 ∀ i,i<c.entry.length->en c i<zeX c i/\zeX c i<=c.ins.length/\(zal c (zeX c i-1).toNat).op=9
instance (c:DCode):Decidable (EntI c):=by unfold EntI;infer_instance
theorem ziM {c:DCode} (h0:en c 0=0):∀ {q:Nat},q<c.entry.length->(∀ i,i<q->en c i<zeX c i)->0<=en c q
 | 0,_,_=>oo
 | q+1,hq,h=>by
   have h1:=ziM h0 (q:=q) oo λi hi=>h i oo;have h2:=h q oo;unfold zeX at h2;rw [qah hq] at h2;omega
def zmg  (h0:Is W0 v0 c) (e0:Ext W0 w) (hp:0<c.procs.length) :
   CALL tp 106 [v0] w λr w'=>Ext w w'/\(r=.bool (decide (EntI c))):=by
 refine co (g:=kf [(18,9442427122730076733696,[8])] [(5,4393751543848,[3,32]),(13,19807040628564958498479145412,[50])] [(15,[0,1,2,3,4,5,6,7,8,9],0)]) Tryz.func106 ?_;refine zax zbY rfl h0 e0 λD y1 C _=>zaa zaY<|zab zdD (zam C) (xrf D) λ_ g3=>?_;have g4:=zak g3;refine zae u26 g3<|zcO<|br (λc1=>?_) (λc1=>?_)
 . refine ⟨y1,?_⟩;have:¬EntI c:=λh=>by have:=h.1;omega
   simp only [this,qam]
 refine zaa zbq<|zab zaS (zaq C) (xrf D) λ_ g5=>?_;have g9:=zak g5;refine zae u25 g5<|zaa zdl<|zab zdt (zbd C) (xrf D) λ_ gb=>?_;have gc:=zak gb;refine zae u24 gb<|zaT<|br (λc2=>?_) (λc2=>?_)
 . refine ⟨y1,?_⟩;have:¬EntI c:=λh=>by have:=h.2.1;omega
   simp only [this,qam]
 refine zaa zbq<|zab zaS (zaq C) (xrf D) λ_ gC=>zaC u25 ty3 gC oo oo λ_ _ gD=>zac ty3 gD (xrf D) λ_=>zaT<|br (λc3=>?_) (λc3=>?_)
 . refine ⟨y1,?_⟩;rw [zbO] at c3;have:¬EntI c:=λh=>c3 h.2.2.1;simp only [this,qam]
 refine zaa zaY<|zab zdD (zam C) (xrf D) λ_ g1=>?_;have gd:=zak g1;refine zae u26 g1<|zap (c.ins.length) (λk us w'=>us=[.int .i64 (zpF c k:Int),.int .i64 (k:Int)]/\Ext D w'/\(True)) (0) oo ⟨rfl,xrf D,trivial⟩ ?_;rintro k m5 _ gf _ ⟨hu,y2,g2⟩;obtain ⟨gg,gh⟩:=zcZ hu;clear hu;try rw [gg]
 try rw [gh]
 try clear gg gh
 have hel:=zyD c k;refine zaf<|br (λc4=>?_) (λc4=>?_)
 . refine zad u26 zbm g1 oo λ_ _ gE=>?_;refine zab zbm gE y2 λ_ gi=>?_;rw [zaG] at gi;refine zcP ziG rfl zbm rfl gi y2 λgF y3 gG _=>zaa za8<|zac ty3 (zay gG) (xrf gF) λ_=>zai<|br (λc5=>?_) (λc5=>?_)
   . refine zau ?_;refine zau<|⟨m5-1,oo,k+1,oo,by rw [zpF,qah c5],(y2.t y3),?_⟩;trivial
   refine zau<|⟨m5-1,oo,k+1,oo,by rw [zpF,qab c5];rfl,(y2.t y3),?_⟩;trivial
 refine zaa zbq<|zab zaS (zaq C) y2 λ_ gj=>?_;have gl:=zak gj;refine zae u25 gj<|zaT<|br (λc6=>?_) (λc6=>?_)
 . refine ⟨(y1.t y2),?_⟩;have:¬EntI c:=λh=>c6 (by rw [show k=c.ins.length by omega,h.2.2.2.1]);simp only [this,qam]
 refine zaa zbq<|zab zaS (zaq C) y2 λ_ gp=>?_;have gq:=zak gp;refine zae u25 gp<|zap (c.entry.length) (λq us w'=>us=[.int .i64 (q:Int)]/\Ext gf w'/\(∀ i,i<q->en c i<zeX c i/\zeX c i<=c.ins.length/\(zal c (zeX c i-1).toNat).op=9)) (0) oo ⟨sS,xrf gf,λi h=>oo⟩ ?_;rintro q gH _ g0 _ ⟨hu,y4,I⟩;try replace hu:=zbv hu
 try rw [hu]
 try clear hu
 refine zaf<|br (λc7=>?_) (λc7=>?_)
 . have y5:=zag g0;refine zaa zbq<|zab zaS (zaq C) (y2.t (y4.t y5)) λ_ gI=>zad u25 ty3 gI oo λ_ _ gJ=>zac ty3 gJ (y2.t (y4.t y5)) λ_=>zaa zaY<|zab zdD (zam C) (y2.t (y4.t y5)) λ_ gr=>?_;have gs:=zak gr;refine zae u26 gr<|JOIN.mk (λus w'=>us=[.int .i64 (zeX c q)]/\Ext (World.drew1 g0) w'/\(True)) ?_ ?_
   . refine zau ?_;refine zaa zbq<|zab zaS (zaq C) (y2.t (y4.t y5)) λ_ gt=>?_;have gx:=zak gt;refine zae u25 gt<|zaf<|br (λc8=>?_) (λc8=>?_)
     . refine zaa zbq ?_;refine zab zaS (zaq C) (y2.t (y4.t y5)) λ_ gK=>zau<|zad u25 ty3 gK oo λ_ _ gM=>zac ty3 gM (y2.t (y4.t y5)) λ_=>⟨by unfold zeX;rw [qah oo,zbO],xrf (World.drew1 g0),?_⟩;trivial
     refine ⟨by unfold zeX;rw [qab oo],xrf (World.drew1 g0),?_⟩;trivial
   rintro _ _ ⟨hu,y6,g2⟩;try replace hu:=zbv hu
   try rw [hu]
   try clear hu
   refine zew<|br (λc9=>?_) (λc9=>?_)
   . refine ⟨(y1.t (y2.t (y4.t (y5.t y6)))),?_⟩;rw [zbO] at c9;have:¬EntI c:=λh=>by have:=(h.2.2.2.2 q oo).1;omega
     simp only [this,qam]
   refine zaa zaY<|zab zdD (zam C) (y2.t (y4.t (y5.t y6))) λ_ gy=>?_;have gz:=zak gy;refine zae u26 gy<|zcO<|br (λgN=>?_) (λgN=>?_)
   . refine ⟨(y1.t (y2.t (y4.t (y5.t y6)))),?_⟩;have:¬EntI c:=λh=>by have:=(h.2.2.2.2 q oo).2.1;omega
     simp only [this,qam]
   refine zaa zaY<|zab zdD (zam C) (y2.t (y4.t (y5.t y6))) λ_ gO=>?_;rw [zbO] at c3 c9;have hq0:=ziM (qai.1 c3) (q:=q) oo λi hi=>(I i hi).1;refine zbe io<|zaC u26 zbm gO oo oo λ_ _ gP=>zaa za8<|zac ty3 (zay gP) (y2.t (y4.t (y5.t y6))) λ_=>zaT<|br (λO=>?_) (λO=>?_)
   . refine ⟨(y1.t (y2.t (y4.t (y5.t y6)))),?_⟩;rw [zaG] at O;have:¬EntI c:=λh=>O (h.2.2.2.2 q oo).2.2;simp only [this,qam]
   refine zau<|⟨gH-1,oo,q+1,oo,sS,(y4.t (y5.t y6)),?_⟩;rw [zaG] at O;exact zjs I ⟨oo,oo,qai.1 O⟩
 refine ⟨(y1.t (y2.t y4)),?_⟩;rw [zbO] at c3;have:EntI c:=⟨oo,oo,qai.1 c3,by rw [show c.ins.length=k by omega];omega,λi hi=>I i oo⟩;simp only [this,qa6]
def zv8  (h0:Is W0 v0 c) (e0:Ext W0 w)  :
   CALL tp 166 [v0,.int .i64 op] w λr w'=>Ext w w'/\(r=.int .i64 (zcz c op)):=by
 refine co (g:=kf [] [] []) Tryz.func166 ?_;refine zax zbY rfl h0 e0 λC y1 D _=>zai<|br (λc1=>?_) (λc1=>?_)
 . refine zaa zee ?_;refine zab zdt (zbs D) (xrf C) λ_ h9=>?_;have:=zak h9;refine zae u24 h9<|⟨y1,?_⟩;unfold zcz;rw [qah c1]
 refine zai<|br (λc2=>?_) (λc2=>?_)
 . refine zaa zdl ?_;refine zab zdt (zbd D) (xrf C) λg2 I=>?_;have g0:=zak I;refine zae u24 I<|⟨y1,?_⟩;unfold zcz;rw [qab oo,qah oo]
 refine zai<|br (λc3=>?_) (λc3=>?_)
 . refine zaa zdl ?_;refine zab zdt (zbd D) (xrf C) λg2 I=>?_;have g0:=zak I;refine zae u24 I<|⟨y1,?_⟩;unfold zcz;rw [qab oo,qah oo]
 refine zai<|br (λc4=>?_) (λc4=>?_)
 . refine zaa zfk ?_;refine zab zdt (zbU D) (xrf C) λg3 O=>?_;have g1:=zak O;refine zae u24 O<|⟨y1,?_⟩;unfold zcz;rw [qab oo,qab oo,qah oo]
 refine zai<|br (λc5=>?_) (λc5=>?_)
 . refine zaa zfk ?_;refine zab zdt (zbU D) (xrf C) λg3 O=>?_;have g1:=zak O;refine zae u24 O<|⟨y1,?_⟩;unfold zcz;rw [qab oo,qab oo,qah oo]
 refine ⟨y1,?_⟩;unfold zcz;rw [qab oo,qab oo,qab oo]
def zte {a:DIns} {b:Int} {e:Int}  (h0:Is W0 v0 c) (e0:Ext W0 w) (h1:Is W1 v1 a) (e1:Ext W1 w)  :
   CALL tp 108 [v0,v1,.int .i64 b,.int .i64 e] w λr w'=>Ext w w'/\(r=.bool (decide (ziw c a b e))):=by
 refine co (g:=kf [(14,9223372028264842496,[])] [(7,575897802350003456,[49])] [(1,[0,1,2,3,4,5,6,7,8,9,10,11,12,13,14,15,16,17,18,19,20,21],524288)]) Tryz.func108 ?_;refine zax zbY rfl h0 e0 λ_ y1 gi gp=>zax zbm rfl h1 (e1.trans y1) λgq y2 C _=>?_;have y3:=zag gq;refine zaa za8<|zac ty3 (zay C) y3 λ_=>zaf<|br (λc1=>?_) (λc1=>?_)
 . refine ⟨(y1.t (y2.t y3)),?_⟩;have:¬ziw c a b e:=λh=>by have:=h.1;omega
   simp only [this,qam]
 refine zaa za8<|zac ty3 (zay C) y3 λ_=>zcO<|br (λc2=>?_) (λc2=>?_)
 . refine ⟨(y1.t (y2.t y3)),?_⟩;have:¬ziw c a b e:=λh=>by have:=h.1;omega
   simp only [this,qam]
 refine zaa zaZ<|zac ty3 (zat C) y3 λ_=>zaf<|br (λc3=>?_) (λc3=>?_)
 . refine ⟨(y1.t (y2.t y3)),?_⟩;have:¬ziw c a b e:=λh=>by have:=h.2.1;omega
   simp only [this,qam]
 refine zaa zaZ<|zac ty3 (zat C) y3 λ_=>zbr gp (y2.t y3)<|zaa za8<|zac ty3 (zay C) y3 λ_=>?_;refine (zv8 h0 (e0.t (y1.t (y2.t y3)))).mono ?_;rintro _ gr ⟨y4,rfl⟩;refine ⟨y4,?_⟩;refine zb9<|br (λc4=>?_) (λc4=>?_)
 . refine ⟨(y1.t (y2.t (y3.t y4))),?_⟩;have:¬ziw c a b e:=λh=>by have:=h.2.1;omega
   simp only [this,qam]
 refine JOIN.mk (λus w'=>us=[]/\Ext gr w'/\(if a.op=1\/a.op=2 then zbj 6 a.term=true/\(∀ s∈zb4 a.term,s∈c.globals) else a.term=term0)) ?_ ?_
 . refine zaa za8 ?_;refine zac ty3 (zay C) (y3.t y4) λ_=>zai<|br (λc5=>?_) (λc5=>?_)
   . refine zaa zdL ?_;refine zab zbl (zco C) (y3.t y4) λgs g4=>?_;refine (zgS g4 (y3.t y4)).mono ?_;rintro _ _ ⟨y6,rfl⟩;refine za2<|zbX (λc6=>?_) (λc6=>?_)
     . refine ⟨(y1.t (y2.t (y3.t (y4.t y6)))),?_⟩;have:¬ziw c a b e:=λh=>by have:=h.2.2.1;rw [qah (.inl c5)] at this;rw [this.1] at c6;cases c6
       simp only [this,qam]
     refine zaa zdL<|zab zbl (zco C) (y3.t (y4.t y6)) λgt g5=>?_;refine (zgc g5 (y3.t (y4.t y6))).mono ?_;rintro gx gj ⟨y7,O⟩;have g0:=zak O;refine zae u24 O<|zap ((zb4 a.term).length) (λk us w'=>us=[.int .i64 (k:Int)]/\Ext gj w'/\(∀ s∈(zb4 a.term).take k,s∈c.globals)) (0) oo ⟨sS,xrf gj,sS⟩ ?_;rintro k m7 gy _ gz ⟨hu,y8,D⟩;try replace hu:=zbv hu
     try rw [hu]
     try clear hu
     refine zaf<|br (λc7=>?_) (λc7=>?_)
     . refine zad u24 ty9 O oo λgC gD g9=>?_;refine zar ty9 g9 y8 λgb=>zaa zee<|zab zdt (zbs gi) (y2.t (y3.t (y4.t (y6.t (y7.t y8))))) λgE gc=>?_;refine (zde gc (y2.t (y3.t (y4.t (y6.t (y7.t y8)))))).mono ?_;rintro _ _ ⟨y9,rfl⟩;refine zav<|br (λc8=>?_) (λc8=>?_)
       . refine ⟨(y1.t (y2.t (y3.t (y4.t (y6.t (y7.t (y8.t y9))))))),?_⟩
         have:¬ziw c a b e:=λh=>by
           have:=h.2.2.1;rw [qah (.inl c5)] at this;exact c8 (this.2 _ (qac (n:=k) oo))
         simp only [this,qam]
       refine zau<|⟨m7-1,oo,k+1,oo,sS,(y8.t y9),?_⟩;intro s hs;rw [tk oo] at hs;rcases qae.1 hs with hs | hs
       . exact D s hs
       simp only [qaa,qad,qaq] at hs;subst hs;exact qai.1 c8
     refine ⟨sS,(y6.t (y7.t y8)),?_⟩;rw [qah (.inl c5)];rw [qaf oo] at D;exact ⟨by simpa using c6,D⟩
   refine zaa za8<|zac ty3 (zay C) (y3.t y4) λ_=>zai<|br (λc9=>?_) (λc9=>?_)
   . refine zaa zdL ?_;refine zab zbl (zco C) (y3.t y4) λgs g4=>?_;refine (zgS g4 (y3.t y4)).mono ?_;rintro _ _ ⟨U,rfl⟩;refine za2<|zbX (λg2=>?_) (λg2=>?_)
     . refine ⟨(y1.t (y2.t (y3.t (y4.t U)))),?_⟩;have:¬ziw c a b e:=λh=>by have:=h.2.2.1;rw [qah (.inr c9)] at this;rw [this.1] at g2;cases g2
       simp only [this,qam]
     refine zaa zdL<|zab zbl (zco C) (y3.t (y4.t U)) λgt g5=>?_;refine (zgc g5 (y3.t (y4.t U))).mono ?_;rintro gx g1 ⟨g3,O⟩;have g0:=zak O;refine zae u24 O<|zap ((zb4 a.term).length) (λk us w'=>us=[.int .i64 (k:Int)]/\Ext g1 w'/\(∀ s∈(zb4 a.term).take k,s∈c.globals)) (0) oo ⟨sS,xrf g1,sS⟩ ?_;rintro k m7 gy _ gz ⟨hu,V,D⟩;try replace hu:=zbv hu
     try rw [hu]
     try clear hu
     refine zaf<|br (λgF=>?_) (λgF=>?_)
     . refine zad u24 ty9 O oo λgC gD g9=>?_;refine zar ty9 g9 V λgb=>zaa zee<|zab zdt (zbs gi) (y2.t (y3.t (y4.t (U.t (g3.t V))))) λgE gc=>?_;refine (zde gc (y2.t (y3.t (y4.t (U.t (g3.t V)))))).mono ?_;rintro _ _ ⟨gl,rfl⟩;refine zav<|br (λgd=>?_) (λgd=>?_)
       . refine ⟨(y1.t (y2.t (y3.t (y4.t (U.t (g3.t (V.t gl))))))),?_⟩
         have:¬ziw c a b e:=λh=>by
           have:=h.2.2.1;rw [qah (.inr c9)] at this;exact gd (this.2 _ (qac (n:=k) oo))
         simp only [this,qam]
       refine zau<|⟨m7-1,oo,k+1,oo,sS,(V.t gl),?_⟩;intro s hs;rw [tk oo] at hs;rcases qae.1 hs with hs | hs
       . exact D s hs
       simp only [qaa,qad,qaq] at hs;subst hs;exact qai.1 gd
     refine ⟨sS,(U.t (g3.t V)),?_⟩;rw [qah (.inr c9)];rw [qaf oo] at D;exact ⟨by simpa using g2,D⟩
   refine zaa zdL<|zab zbl (zco C) (y3.t y4) λ_ gG=>?_;refine (zpz gG (y3.t y4)).mono ?_;rintro _ _ ⟨I,rfl⟩;refine zav<|br (λgf=>?_) (λgf=>?_)
   . refine ⟨(y1.t (y2.t (y3.t (y4.t I)))),?_⟩;have:¬ziw c a b e:=λh=>by have:=h.2.2.1;rw [qab oo] at this;exact gf this
     simp only [this,qam]
   refine ⟨sS,I,?_⟩;rw [qab oo];exact qai.1 gf
 rintro _ _ ⟨hu,I,hT⟩;try replace hu:=zbv hu
 clear hu;refine zaa za8<|zac ty3 (zay C) (y3.t (y4.t I)) λ_=>zai<|br (λgH=>?_) (λgH=>?_)
 . refine zaa zdg ?_;refine zac ty3 (zcc C) (y3.t (y4.t I)) λgg=>zb9<|br (λgI=>?_) (λgI=>?_)
   . refine zaa zdg ?_;refine zac ty3 (zcc C) (y3.t (y4.t I)) λgh=>zaf<|⟨(y1.t (y2.t (y3.t (y4.t I)))),?_⟩
     first
       | (have no:¬ziw c a b e:=λh=>by
           have h4:=h.2.2.2;rw [qah oo] at h4;omega
          simp only [no,qam]
          done)
       | (congr 1
          rw [decide_eq_decide];constructor
          . exact λh=>⟨oo,oo,hT,by first | (rw [qah oo];omega) | (rw [qab oo];omega)⟩
          intro h;have h4:=h.2.2.2
          first | (rw [qah oo] at h4;omega) | (rw [qab oo] at h4;omega))
   refine ⟨(y1.t (y2.t (y3.t (y4.t I)))),?_⟩
   first
     | (have no:¬ziw c a b e:=λh=>by
         have h4:=h.2.2.2;rw [qah oo] at h4;omega
        simp only [no,qam]
        done)
     | (congr 1
        rw [decide_eq_decide];constructor
        . exact λh=>⟨oo,oo,hT,by first | (rw [qah oo];omega) | (rw [qab oo];omega)⟩
        intro h;have h4:=h.2.2.2
        first | (rw [qah oo] at h4;omega) | (rw [qab oo] at h4;omega))
 refine zaa za8<|zac ty3 (zay C) (y3.t (y4.t I)) λ_=>zai<|br (λgJ=>?_) (λgJ=>?_)
 . refine zaa zdg ?_;refine zac ty3 (zcc C) (y3.t (y4.t I)) λgg=>zb9<|br (λgK=>?_) (λgK=>?_)
   . refine zaa zdg ?_;refine zac ty3 (zcc C) (y3.t (y4.t I)) λgh=>zaf<|⟨(y1.t (y2.t (y3.t (y4.t I)))),?_⟩
     first
       | (have no:¬ziw c a b e:=λh=>by
           have h4:=h.2.2.2;rw [qah oo] at h4;omega
          simp only [no,qam]
          done)
       | (congr 1
          rw [decide_eq_decide];constructor
          . exact λh=>⟨oo,oo,hT,by first | (rw [qah oo];omega) | (rw [qab oo];omega)⟩
          intro h;have h4:=h.2.2.2
          first | (rw [qah oo] at h4;omega) | (rw [qab oo] at h4;omega))
   refine ⟨(y1.t (y2.t (y3.t (y4.t I)))),?_⟩
   first
     | (have no:¬ziw c a b e:=λh=>by
         have h4:=h.2.2.2;rw [qah oo] at h4;omega
        simp only [no,qam]
        done)
     | (congr 1
        rw [decide_eq_decide];constructor
        . exact λh=>⟨oo,oo,hT,by first | (rw [qah oo];omega) | (rw [qab oo];omega)⟩
        intro h;have h4:=h.2.2.2
        first | (rw [qah oo] at h4;omega) | (rw [qab oo] at h4;omega))
 refine zaa zdg<|zac ty3 (zcc C) (y3.t (y4.t I)) λ_=>zai<|⟨(y1.t (y2.t (y3.t (y4.t I)))),?_⟩
 first
   | (have no:¬ziw c a b e:=λh=>by
       have h4:=h.2.2.2;rw [qah oo] at h4;omega
      simp only [no,qam]
      done)
   | (congr 1
      rw [decide_eq_decide];constructor
      . exact λh=>⟨oo,oo,hT,by first | (rw [qah oo];omega) | (rw [qab oo];omega)⟩
      intro h;have h4:=h.2.2.2
      first | (rw [qah oo] at h4;omega) | (rw [qab oo] at h4;omega))
def zd1  (h0:Is W0 v0 c) (e0:Ext W0 w) (hi:i<1000000000000) :
   CALL tp 107 [v0,.int .i64 (i:Int)] w λr w'=>Ext w w'/\(r=.int .i64 (zeX c i)):=by
 refine co (g:=kf [] [] []) Tryz.func107 ?_;refine zax zbY rfl h0 e0 λg0 y1 g1 _=>zau<|zaa zbq<|zab zaS (zaq g1) (xrf g0) λ_ h8=>?_;have:=zak h8;refine zae u25 h8<|zaf<|br (λc1=>?_) (λc1=>?_)
 . refine zaa zbq ?_;refine zab zaS (zaq g1) (xrf g0) λ_ g3=>zau<|zad u25 ty3 g3 oo λ_ _ g4=>zac ty3 g4 (xrf g0) λ_=>⟨y1,?_⟩;unfold zeX;rw [qah oo,zbO]
 refine zaa zaY<|zab zdD (zam g1) (xrf g0) λ_ g2=>?_;have:=zak g2;refine zae u26 g2<|⟨y1,?_⟩;unfold zeX;rw [qab oo]
structure EntF (c:DCode):Prop where
 len:c.entry.length=c.procs.length
 ins:c.ins.length<=1500
 zero:en c 0=0
 lt:∀ i,i<c.entry.length->en c i<zeX c i/\zeX c i<=c.ins.length
def EntF.nonneg (h:EntF c) {i:Nat} (hi:i<c.entry.length):0<=en c i:=ziM h.zero hi λj hj=>(h.lt j oo).1
def EntF.step (h:EntF c) {i:Nat} (hi:i+1<c.entry.length):zeX c i=en c (i+1):=by unfold zeX;rw [qah hi]
def EntF.last (h:EntF c) {i:Nat} (hi:i+1=c.entry.length):zeX c i=c.ins.length:=by unfold zeX;rw [qab oo]
theorem EntF.mono (h:EntF c):∀ {i j:Nat},i<j->j<c.entry.length->zeX c i<=en c j
 | i,j+1,hij,hj=>by
   by_cases e:i=j
   . subst e;rw [h.step hj];exact qdd _
   have h1:=h.mono (i:=i) (j:=j) oo oo;have h2:=(h.lt j oo).1;rw [h.step hj] at h2;omega
def EntF.proc (h:EntF c) {i:Nat} {a:Int} (hi:i<c.entry.length) (h1:en c i<=a) (h2:a<zeX c i):zas c a=i:=by
 unfold zas;rw [zlt (m:=i+1) oo λj _ g0=>by have:=h.mono (i:=i) (j:=j) oo g0;omega];rw [prc,qah h1]
def EntF.find (h:EntF c) (hp:0<c.procs.length) {a:Int} (h0:0<=a) (h1:a<c.ins.length):∃ i,i<c.entry.length/\en c i<=a/\a<zeX c i/\zas c a=i:=by
 have:=h.len;have:0<=zas c a:=zki (by rw [h.zero];exact h0) oo;have:=(zjr (c:=c) (a:=a)).2
 have g1:∀ n,n<=c.entry.length->(∀ j,n<=j->j<c.entry.length->a<en c j)->0<n->∃ i,i<n/\en c i<=a/\a<zeX c i:=by
   intro n
   induction n with
   | zero=>intro _ _ h;omega
   | succ n ih=>
     intro _ hj _;by_cases hle:en c n<=a
     . refine ⟨n,oo,hle,?_⟩;by_cases hl:n+1<c.entry.length
       . rw [h.step hl];exact hj (n+1) oo hl
       rw [h.last oo];exact h1
     by_cases h0n:n=0
     . subst h0n;rw [h.zero] at hle;omega
     obtain ⟨i,hi,hx⟩:=ih oo (λj g2 g0=>by
       by_cases e:j=n
       . subst e;omega
       exact hj j oo g0) oo
     exact ⟨i,oo,hx⟩
 obtain ⟨i,hi,hx,hy⟩:=g1 c.entry.length (lr _) (λj g2 g0=>oo) oo;exact ⟨i,hi,hx,hy,h.proc hi hx hy⟩
def EntS.f (h:EntS c) (hp:0<c.procs.length):EntF c:=by
 obtain ⟨h1,h2,h3,_⟩:=h;refine ⟨h1,h2,(h3 0 oo).1 rfl,λi hi=>?_⟩;unfold zeX;split
 . rename_i hl;have:=h3 (i+1) hl;have h5:=this.2.1 oo;simp only [qbM] at h5;exact ⟨h5,oo⟩
 exact ⟨(h3 i hi).2.2,qdd _⟩
def EntI.f (h:EntI c):EntF c:=⟨h.2.1,h.1,h.2.2.1,λi hi=>⟨(h.2.2.2.2 i hi).1,(h.2.2.2.2 i hi).2.1⟩⟩
theorem zyE (c:DCode) (a:Nat):∀ (d:Nat),zpF c a<=zpF c (a+d)/\(zpF c (a+d)=zpF c a↔∀ j,a<=j->j<a+d->¬(zal c j).op=9)
 | 0=>⟨qaz _,⟨λ_ j h1 h2=>oo,λ_=>rfl⟩⟩
 | d+1=>by
   obtain ⟨h1,h2⟩:=zyE c a d;rw [<-qcr,zpF];refine ⟨oo,?_⟩;split
   . rename_i h9;exact ⟨λh=>oo,λh=>absurd h9 (h (a+d) oo oo)⟩
   rename_i h9;rw [qco,h2];constructor
   . intro h j hj1 hj2;by_cases e:j=a+d
     . subst e;exact h9
     exact h j hj1 oo
   exact λh j hj1 hj2=>h j hj1 oo
def eb (c:DCode) (n:Nat):Nat:=if n=0 then 0 else (zeX c (n-1)).toNat
def EntF.eb_en (h:EntF c) {n:Nat} (hn:n<c.entry.length):(eb c n:Int)=en c n:=by
 unfold eb;split
 . rename_i h0;subst h0;rw [h.zero];rfl
 have h1:=h.nonneg hn
 have h2:zeX c (n-1)=en c n:=by
   have:=h.step (i:=n-1) oo;rwa [show n-1+1=n by omega] at this
 rw [h2];omega
def EntF.eb_succ (h:EntF c) {n:Nat} (hn:n<c.entry.length):(eb c (n+1):Int)=zeX c n:=by
 unfold eb;rw [qab oo,qbM];have:=(h.lt n hn).1;have:=h.nonneg hn;omega
theorem zkj {c:DCode} (h:EntF c) (he:∀ i,i<c.entry.length->(zal c (zeX c i-1).toNat).op=9):∀ n,n<=c.entry.length ->
   n<=zpF c (eb c n)/\(zpF c (eb c n)=n↔∀ j:Nat,j<eb c n->(zal c j).op=9->∃ i,i<n/\zeX c i=j+1)
 | 0,_=>⟨qbP _,⟨λ_ j hj=>by simp [eb] at hj,λ_=>rfl⟩⟩
 | n+1,hn=>by
   obtain ⟨_,h2⟩:=zkj h he n oo;have:=h.eb_en (n:=n) oo;have:=h.eb_succ (n:=n) oo;have:=(h.lt n oo).1;have h9:=he n oo;have e9:(zeX c n-1).toNat=eb c (n+1)-1:=oo;rw [e9] at h9;obtain ⟨d,hd⟩:∃ d,eb c (n+1)=eb c n+d+1:=⟨eb c (n+1)-eb c n-1,oo⟩;have g1:eb c (n+1)-1=eb c n+d:=oo;rw [g1] at h9;obtain ⟨_,h4⟩:=zyE c (eb c n) d;rw [hd,zpF,qah h9];refine ⟨oo,?_⟩;have g0:zpF c (eb c n+d)+1=n+1↔(zpF c (eb c n)=n/\zpF c (eb c n+d)=zpF c (eb c n)):=oo;rw [g0,h2,h4];constructor
   . rintro ⟨p1,p2⟩ j hj r;by_cases hja:j<eb c n
     . obtain ⟨i,hi,hx⟩:=p1 j hja r;exact ⟨i,oo,hx⟩
     by_cases hje:j=eb c n+d
     . exact ⟨n,oo,oo⟩
     exact absurd r (p2 j oo oo)
   intro p;constructor
   . intro j hj r;obtain ⟨i,hi,hx⟩:=p j oo r;by_cases hin:i=n
     . subst hin;omega
     exact ⟨i,oo,hx⟩
   intro j _ _ r;obtain ⟨i,hi,hx⟩:=p j oo r;by_cases hin:i=n
   . subst hin;omega
   have:=h.mono (i:=i) (j:=n) oo oo;omega
def zyF (hp:0<c.procs.length):EntI c↔EntS c:=by
 constructor
 . intro h;have hf:=h.f;obtain ⟨_,_,_,hc,g0⟩:=h;have g1:=hf.len;have he:∀ i,i<c.entry.length->(zal c (zeX c i-1).toNat).op=9:=λi hi=>(g0 i hi).2.2;obtain ⟨_,h2⟩:=zkj hf he c.entry.length (lr _)
   have hb:eb c c.entry.length=c.ins.length:=by
     have:=hf.eb_succ (n:=c.entry.length-1) oo;rw [hf.last oo,show c.entry.length-1+1=c.entry.length by omega] at this;omega
   rw [hb] at h2;have h3:=h2.1 hc;refine ⟨hf.len,hf.ins,λi hi=>⟨λ_=>hf.zero,λh0=>?_,?_⟩,λj hj=>?_⟩
   . have h4:=(hf.lt (i-1) oo).1;have h5:=hf.step (i:=i-1) oo;rw [show i-1+1=i by omega] at h5;omega
   . have:=hf.lt i hi;omega
   obtain ⟨i,hi,hx,hy,g2⟩:=hf.find hp (a:=j) oo oo;rw [g2,zeh];constructor
   . intro h9;obtain ⟨i',hi',_⟩:=h3 j hj h9;have:=hf.lt i' hi';have g3:=hf.proc (a:=j) hi' oo oo;have:i'=i:=oo;subst this;omega
   intro h9;have:=he i hi;rwa [show (zeX c i-1).toNat=j by omega] at this
 intro h;have hf:=h.f hp;have g1:=hf.len;have h4:=h.2.2.2
 have he:∀ i,i<c.entry.length->(zal c (zeX c i-1).toNat).op=9:=λi hi=>by
   have h1:=hf.lt i hi;have h0:=hf.nonneg hi;have:=(h4 (zeX c i-1).toNat oo).2;refine this ?_;rw [hf.proc (i:=i) hi oo oo,zeh];omega
 obtain ⟨_,h2⟩:=zkj hf he c.entry.length (lr _)
 have hb:eb c c.entry.length=c.ins.length:=by
   have:=hf.eb_succ (n:=c.entry.length-1) oo;rw [hf.last oo,show c.entry.length-1+1=c.entry.length by omega] at this;omega
 rw [hb] at h2;refine ⟨hf.ins,hf.len,hf.zero,h2.2 λj hj h9=>?_,λi hi=>⟨(hf.lt i hi).1,(hf.lt i hi).2,he i hi⟩⟩;obtain ⟨i,hi,hx,hy,g2⟩:=hf.find hp (a:=j) oo oo;have:=(h4 j hj).1 h9;rw [g2,zeh] at this;exact ⟨i,hi,oo⟩
def zq8 (hn:NamesR c) (he:EntI c):CodeR c↔∀ i,i<c.entry.length->∀ j:Nat,en c i<=j->(j:Int)<zeX c i->ziw c (zal c j) (en c i) (zeX c i):=by
 have hf:=he.f;have hp:=hn.procs8.2;constructor
 . intro h i hi j h1 h2;have h3:=hf.lt i hi;have:=h.2.2 j oo;rw [hf.proc hi h1 h2,zeh,qal] at this;rwa [Int.sub_add_cancel] at this
 intro h;refine ⟨hn,(zyF hp).1 he,λj _=>?_⟩;obtain ⟨i,hi,hx,hy,g0⟩:=hf.find hp (a:=j) oo oo;rw [g0,zeh,qal,Int.sub_add_cancel];exact h i hi j hx hy
def zjt  (h0:Is W0 v0 c) (e0:Ext W0 w)  :
   CALL tp 47 [v0] w λr w'=>Ext w w'/\(r=.bool (decide (CodeR c))):=by
 refine co (g:=kf [] [(4,35184371564732,[19]),(8,17583596109956,[33])] []) Tryz.func47 ?_;refine zax zbY rfl h0 e0 λgg y1 g9 g2=>zbr g2 (xrf gg) ?_;refine (zpE h0 (e0.t y1)).mono ?_;rintro _ _ ⟨y2,rfl⟩;refine zav<|br (λc1=>?_) (λc1=>?_)
 . refine ⟨(y1.t y2),?_⟩;have:¬CodeR c:=λh=>c1 h.1;simp only [this,qam]
 refine zbr g2 y2 ?_;refine (zmg h0 (e0.t (y1.t y2)) (qai.1 c1).procs8.2).mono ?_;rintro _ gb ⟨y3,rfl⟩;refine zav<|br (λc2=>?_) (λc2=>?_)
 . refine ⟨(y1.t (y2.t y3)),?_⟩;have:¬CodeR c:=λh=>c2 ((zyF h.1.procs8.2).2 h.2.1);simp only [this,qam]
 refine zaa zbq<|zab zaS (zaq g9) (y2.t y3) λ_ g3=>?_;have gc:=zak g3;refine zae u25 g3<|zap (c.entry.length) (λq us w'=>us=[.int .i64 (q:Int)]/\Ext gb w'/\(∀ i,i<q->∀ j:Nat,en c i<=j->(j:Int)<zeX c i->ziw c (zal c j) (en c i) (zeX c i))) (0) oo ⟨sS,xrf gb,λi h=>oo⟩ ?_;rintro q m4 _ _ _ ⟨hu,y4,g0⟩;try replace hu:=zbv hu
 try rw [hu]
 try clear hu
 replace c1:=qai.1 c1;replace c2:=qai.1 c2;have gh:=zak g3;refine zaf<|br (λc3=>?_) (λc3=>?_)
 . refine zad u25 ty3 g3 oo λ_ _ gi=>?_;refine zac ty3 gi (y2.t (y3.t y4)) λ_=>?_;rw [zbO];have h8:=c1.procs8;have hlq:=c2.f.lt q oo;have hnq:=c2.f.nonneg (i:=q) oo;have gj:=c2.f.len;refine zbr g2 (y2.t (y3.t y4)) ?_;refine (zd1 h0 (e0.t (y1.t (y2.t (y3.t y4)))) oo).mono ?_;rintro _ gd ⟨y5,rfl⟩;refine zaa zaY<|zab zdD (zam g9) (y2.t (y3.t (y4.t y5))) λ_ gl=>zpw u26 zbm gl oo oo oo λ_ g4=>?_;have gf:=zak g4;refine zae u26 g4<|zap ((zeX c q).toNat-(en c q).toNat) (λk us w'=>us=[.int .i64 (k:Int)]/\Ext gd w'/\(∀ j:Nat,en c q<=j->(j:Int)<en c q+k->ziw c (zal c j) (en c q) (zeX c q))) (0) oo ⟨sS,xrf gd,λj h1 h2=>oo⟩ ?_;rintro k m8 _ _ _ ⟨hu,y6,g1⟩;try replace hu:=zbv hu
   try rw [hu]
   try clear hu
   have gp:((c.ins.take (zeX c q).toNat).drop (en c q).toNat).length=(zeX c q).toNat-(en c q).toNat:=by rw [qa8,qaj];omega
   refine zaf<|br (λc4=>?_) (λc4=>?_)
   . refine zad u26 zbm g4 oo λ_ _ gq=>?_;refine zab zbm gq (y2.t (y3.t (y4.t (y5.t y6)))) λ_ g5=>?_;rw [List.getElem_drop,qcB,zaG] at g5;refine zcP ziG rfl zbm rfl g5 (y2.t (y3.t (y4.t (y5.t y6)))) λgr y7 _ gs=>zbr g2 (y2.t (y3.t (y4.t (y5.t (y6.t y7)))))<|zbr gs (xrf gr) ?_;refine (zte h0 (e0.t (y1.t (y2.t (y3.t (y4.t (y5.t (y6.t y7))))))) g5 (y2.t (y3.t (y4.t (y5.t (y6.t y7)))))).mono ?_;rintro _ _ ⟨y8,rfl⟩;refine zav<|br (λc5=>?_) (λc5=>?_)
     . refine ⟨(y1.t (y2.t (y3.t (y4.t (y5.t (y6.t (y7.t y8))))))),?_⟩;have:¬CodeR c:=λh=>c5 ((zq8 c1 c2).1 h q oo _ oo oo);simp only [this,qam]
     refine zau<|⟨m8-1,oo,k+1,oo,sS,(y6.t (y7.t y8)),?_⟩;intro j h1 h2;by_cases hj:j=(en c q).toNat+k
     . subst hj;exact qai.1 c5
     exact g1 j h1 oo
   refine zau<|⟨m4-1,oo,q+1,oo,sS,(y4.t (y5.t y6)),?_⟩;intro i hi j h1 h2;by_cases hiq:i=q
   . subst hiq;exact g1 j h1 oo
   exact g0 i oo j h1 h2
 refine ⟨(y1.t (y2.t (y3.t y4))),?_⟩;have:CodeR c:=(zq8 c1 c2).2 λi hi=>g0 i oo;simp only [this,qa6]
structure Cur where
 i:Nat
 h:Int
def zv9 (h:Int):Int:=zsM (zsM (h*6364136223846793005)+1442695040888963407)
def zBg (h:Int):Int:=zv3 (zG9 (zF2 h 33) (zF2 h 45)) 255
def zkk (bs:List UInt8) (s:Cur):Int:=match bs[s.i]? with
 | some b=>zv3 (zBg (zv9 s.h)+(b.toNat:Int)) 255
 | none=>zBg (zv9 s.h)
def zet (bs:List UInt8) (s:Cur):Cur:=⟨if s.i<bs.length then s.i+1 else s.i,zv9 s.h⟩
def zfX (bs:List UInt8) (s:Cur):0<=zkk bs s/\zkk bs s<=255:=by
 unfold zkk zBg;split
 . exact zph _ (n:=255) oo
 exact zph _ (n:=255) oo
def zHM (a b c d:Int):Int:=a*16777216+b*65536+c*256+d
def zbb (bs:List UInt8) (n:Int) (s:Cur):Int:=
 if n<=0 then 0 else if n<=256 then (zkk bs s).tmod n
 else (zHM (zkk bs s) (zkk bs (zet bs s)) (zkk bs (zet bs (zet bs s))) (zkk bs (zet bs (zet bs (zet bs s))))).tmod n
def zao (bs:List UInt8) (n:Int) (s:Cur):Cur:=
 if n<=0 then s else if n<=256 then zet bs s else zet bs (zet bs (zet bs (zet bs s)))
def zcI (bs:List UInt8) {n:Int} (hn:0<n) (s:Cur):0<=zbb bs n s/\zbb bs n s<n:=by
 have h1:=zfX bs s;have:=zfX bs (zet bs s);have:=zfX bs (zet bs (zet bs s));have:=zfX bs (zet bs (zet bs (zet bs s)));unfold zbb;rw [qab oo];split
 . exact zxX h1.1 hn
 exact zxX (by unfold zHM;omega) hn
def zuA (bs:List UInt8) {n:Nat} (hn:0<n) (s:Cur):(zbb bs (n:Int) s).toNat<n:=by
 have:=zcI bs (n:=(n:Int)) oo s;omega
def zdi (bs:List UInt8) (l:List ByteArray) (s:Cur):ByteArray:=l.getD (zbb bs (l.length:Int) s).toNat (ByteArray.mk #[])
def zkl (bs:List UInt8) (l:List Int) (s:Cur):Int:=l.getD (zbb bs (l.length:Int) s).toNat 0
def zpG {α:Type} {l:List α} {d:α} (h:i<l.length):l.getD i d∈l:=by
 rw [List.getD_eq_getElem?_getD,List.getElem?_eq_getElem h];exact qac h
def zdO (bs:List UInt8) {l:List ByteArray} (h:0<l.length) (s:Cur):zdi bs l s∈l:=zpG (zuA bs h s)
def zmh (bs:List UInt8) {l:List Int} (h:0<l.length) (s:Cur):zkl bs l s∈l:=zpG (zuA bs h s)
def nX:ByteArray:=ByteArray.mk #[120]
def nY:ByteArray:=ByteArray.mk #[121]
def nZ:ByteArray:=ByteArray.mk #[122]
def nU:ByteArray:=ByteArray.mk #[117]
def nA:ByteArray:=ByteArray.mk #[97]
def nB:ByteArray:=ByteArray.mk #[98]
def nM:ByteArray:=ByteArray.mk #[109]
def nP:ByteArray:=ByteArray.mk #[112]
def nQ:ByteArray:=ByteArray.mk #[113]
def nR:ByteArray:=ByteArray.mk #[114]
def nO:ByteArray:=ByteArray.mk #[]
def zEw:List Int:=[0,1,2,3,7,999,1000,1000000000]
def zxo:List ByteArray:=[nX,nY,nZ,nX,nU]
def opL:List Int:=[3,4,5,6,7,9]
def glb:List ByteArray:=[nX,nY,nZ,nU]
def lks:List ByteArray:=[nA,nB,nM]
def zyG:List ByteArray:=[nX,nY,nZ]
def zq9:List ByteArray:=[nP,nQ,nR]
def prc4:List ByteArray:=[zip,nP,nQ,nR]
def zfI (bs:List UInt8) (d:Nat) (s:Cur):Int:=if d=0/\6<=zbb bs 12 s then zbb bs 12 s-6 else zbb bs 12 s
def zaw (bs:List UInt8):Nat->Cur->DTerm×Cur
 | 0,s=>
   if zfI bs 0 s<3 then (.mk 1 (zkl bs zEw (zao bs 12 s)) nO [],zao bs 8 (zao bs 12 s))
   else (.mk 2 0 (zdi bs zxo (zao bs 12 s)) [],zao bs 5 (zao bs 12 s))
 | d+1,s=>
   if zfI bs (d+1) s<3 then (.mk 1 (zkl bs zEw (zao bs 12 s)) nO [],zao bs 8 (zao bs 12 s))
   else if zfI bs (d+1) s<6 then (.mk 2 0 (zdi bs zxo (zao bs 12 s)) [],zao bs 5 (zao bs 12 s))
   else if zfI bs (d+1) s=6 then (.mk 8 0 nO [(zaw bs d (zao bs 12 s)).1],(zaw bs d (zao bs 12 s)).2)
   else (.mk (zkl bs opL (zao bs 12 s)) 0 nO [(zaw bs d (zao bs 6 (zao bs 12 s))).1,(zaw bs d (zaw bs d (zao bs 6 (zao bs 12 s))).2).1],
     (zaw bs d (zaw bs d (zao bs 6 (zao bs 12 s))).2).2)
def zEx (bs:List UInt8) (s:Cur):0<=zfI bs 0 s/\zfI bs 0 s<6:=by
 have:=zcI bs (n:=12) oo s;unfold zfI;split<;>omega
def zuB {x:ByteArray} (h:x∈zxo):x∈glb:=by
 simp only [zxo,qaa,qad,qaq] at h;rcases h with rfl | rfl | rfl | rfl | rfl<;>decide
def zpH {x:ByteArray} (h:x∈glb):zbD x=true:=by
 simp only [glb,qaa,qad,qaq] at h;rcases h with rfl | rfl | rfl | rfl<;>decide
def zpI {x:ByteArray} (h:x∈lks):zbD x=true:=by
 simp only [lks,qaa,qad,qaq] at h;rcases h with rfl | rfl | rfl<;>decide
def zEy {n:Int} (h:n∈zEw):0<=n/\n<=1000000000:=by
 simp only [zEw,qaa,qad,qaq] at h;omega
def zDp {n:Int} (h:n∈opL):3<=n/\n<=9/\n≠8:=by
 simp only [opL,qaa,qad,qaq] at h;omega
def zyH (bs:List UInt8) (n:Nat) (s:Cur):zbj n (.mk 1 (zkl bs zEw s) nO [])=true:=by
 rw [zfp rfl];have:=zEy (zmh bs (l:=zEw) qd s);simp [DTerm.num,DTerm.name,DTerm.kids,this,nO]
def zyI (bs:List UInt8) (n:Nat) (s:Cur):zbj n (.mk 2 0 (zdi bs zxo s) [])=true:=by
 rw [zgR rfl];have:=zpH (zuB (zdO bs (l:=zxo) qd s));simp [DTerm.num,DTerm.name,DTerm.kids,this]
theorem ziN (bs:List UInt8):∀ (d n:Nat) (s:Cur),d<=n->zbj n (zaw bs d s).1=true
 | 0,n,s,_=>by
   rw [zaw];split
   . exact zyH bs n _
   exact zyI bs n _
 | d+1,0,s,h=>absurd h oo
 | d+1,n+1,s,h=>by
   rw [zaw];split
   . exact zyH bs _ _
   split
   . exact zyI bs _ _
   split
   . rw [zbJ (by show ¬(8:Int)=1;omega) (by show ¬(8:Int)=2;omega)];simp [DTerm.kind,DTerm.num,DTerm.name,DTerm.kids,nO,ziN bs d n _ oo]
   have:=zDp (zmh bs (l:=opL) qd (zao bs 12 s));generalize zkl bs opL (zao bs 12 s)=k at *;rw [zbJ (by simp only [DTerm.kind];omega) (by simp only [DTerm.kind];omega)];simp [DTerm.kind,DTerm.num,DTerm.name,DTerm.kids,nO,ziN bs d n _ (by omega:d<=n),this.1,this.2.1,this.2.2]
def zBh {l:List ByteArray} {s x:ByteArray} (h:x∈zxn l s):x∈l\/x=s:=by
 unfold zxn at h;split at h
 . exact .inl h
 simpa using h
theorem znD (bs:List UInt8):∀ (d n:Nat) (s:Cur) (l:List ByteArray) (x:ByteArray),d<=n->x∈readsT n (zaw bs d s).1 l->x∈l\/x∈glb:=by
 have h1:∀ n k l x,x∈readsT n (.mk 1 k nO []) l->x∈l:=by
   intro n k l x h;rw [zeI,qab (by show ¬(1:Int)=2;omega)] at h;cases n with
   | zero=>exact h
   | succ n=>exact h
 have h2:∀ n s l x,x∈readsT n (.mk 2 0 (zdi bs zxo s) []) l->x∈l\/x∈glb:=by
   intro n s l x h;rw [zls rfl] at h;rcases zBh h with h | rfl
   . exact .inl h
   exact .inr (zuB (zdO bs qd s))
 intro d
 induction d with
 | zero=>
   intro n s l x _ h;rw [zaw] at h;split at h
   . exact .inl (h1 _ _ _ _ h)
   exact h2 _ _ _ _ h
 | succ d ih=>
   intro n s l x _ h;obtain ⟨n,rfl⟩:∃ m,n=m+1:=⟨n-1,oo⟩;rw [zaw] at h;split at h
   . exact .inl (h1 _ _ _ _ h)
   split at h
   . exact h2 _ _ _ _ h
   split at h
   . rw [zeI,qab (by show ¬(8:Int)=2;omega)] at h;simp only [DTerm.kids,qbt,List.foldl_nil] at h;exact ih n _ _ _ oo h
   have:=zDp (zmh bs (l:=opL) qd (zao bs 12 s));generalize zkl bs opL (zao bs 12 s)=k at *;rw [zeI,qab (by show ¬k=2;omega)] at h;simp only [DTerm.kids,qbt,List.foldl_nil] at h;rcases ih n _ _ _ oo h with h | h
   . exact ih n _ _ _ oo h
   exact .inr h
def zwa (k n:Int) (s:ByteArray) (l:List DTerm):wT (.mk k n s l)=s.size+(l.length+sm wT l):=by
 rw [zEv,zyB];rfl
theorem zwb (bs:List UInt8):∀ (d:Nat) (s:Cur),wT (zaw bs d s).1+2<=3*2^d:=by
 have h0:nO.size=0:=rfl
 have h2:∀ s,(zdi bs zxo s).size<=1:=λs=>by
   have:=zdO bs (l:=zxo) qd s;generalize zdi bs zxo s=x at *;simp only [zxo,qaa,qad,qaq] at this;rcases this with rfl | rfl | rfl | rfl | rfl<;>decide
 intro d
 induction d with
 | zero=>
   intro s;rw [zaw];split
   . rw [zwa];simp [h0,sm]
   rw [zwa];have:=h2 (zao bs 12 s);simp [sm];omega
 | succ d ih=>
   intro s;have hp:1<=2^d:=qct;rw [zaw,qdh];split
   . rw [zwa];simp [h0,sm];omega
   split
   . rw [zwa];have:=h2 (zao bs 12 s);simp [sm];omega
   split
   . rw [zwa];have:=ih (zao bs 12 s);simp [sm,h0];omega
   rw [zwa];have:=ih (zao bs 6 (zao bs 12 s));have:=ih (zaw bs d (zao bs 6 (zao bs 12 s))).2;simp [sm,h0];omega
def TmR (gl:List ByteArray) (t:DTerm):Prop:=zbj 6 t=true/\(∀ s∈zb4 t,s∈gl)/\wT t<=24
def zhZ (bs:List UInt8) {d:Nat} (hd:d<=3) (s:Cur):TmR glb (zaw bs d s).1:=by
 have h:=ziN bs d 6 s oo;refine ⟨h,λx hx=>?_,?_⟩
 . unfold zb4 at hx;rw [qah h] at hx;rcases znD bs d 6 s [] x oo hx with h | h
   . cases h
   exact h
 have:=zwb bs d s;have:2^d<=2^3:=qaE oo hd;omega
def zgs (bs:List UInt8) (d:Nat) (s:Cur):Int:=if d=0/\11<=zbb bs 14 s then zbb bs 14 s-6 else zbb bs 14 s
def zhp (bs:List UInt8) (k:Int) (s:Cur):DStmt×Cur:=
 if k<4 then (.mk 1 (zdi bs zyG s) (zaw bs 2 (zao bs 3 s)).1 [] [],(zaw bs 2 (zao bs 3 s)).2)
 else if k<6 then (.mk 6 (zdi bs lks s) term0 [] [],zao bs 3 s)
 else if k<8 then (.mk 7 (zdi bs lks s) term0 [] [],zao bs 3 s)
 else if k=8 then (.mk 4 (zdi bs zq9 s) term0 [] [],zao bs 3 s)
 else if k=9 then (.mk 5 (zdi bs zq9 s) term0 [] [],zao bs 3 s)
 else (.mk 8 nO term0 [] [],s)
def zeJ (f:Cur->DStmt×Cur) (bs:List UInt8):Nat->Nat->Cur->List DStmt×Cur
 | 0,_,s=>([],s)
 | n+1,i,s=>
   if (i:Int)<zbb bs 4 s then ((f (zao bs 4 s)).1 :: (zeJ f bs n (i+1) (f (zao bs 4 s)).2).1,(zeJ f bs n (i+1) (f (zao bs 4 s)).2).2)
   else ([],zao bs 4 s)
def zoh (bs:List UInt8) (f:Cur->DStmt×Cur) (k:Int) (s:Cur):DStmt×Cur:=
 if k=11 then (.mk 3 nO (zaw bs 1 s).1 (zeJ f bs 4 0 (zaw bs 1 s).2).1 [],(zeJ f bs 4 0 (zaw bs 1 s).2).2)
 else if zbb bs 2 (zeJ f bs 4 0 (zaw bs 1 s).2).2=0 then
   (.mk 2 nO (zaw bs 1 s).1 (zeJ f bs 4 0 (zaw bs 1 s).2).1 (zeJ f bs 4 0 (zao bs 2 (zeJ f bs 4 0 (zaw bs 1 s).2).2)).1,
     (zeJ f bs 4 0 (zao bs 2 (zeJ f bs 4 0 (zaw bs 1 s).2).2)).2)
 else (.mk 2 nO (zaw bs 1 s).1 (zeJ f bs 4 0 (zaw bs 1 s).2).1 [],zao bs 2 (zeJ f bs 4 0 (zaw bs 1 s).2).2)
def zcr (bs:List UInt8):Nat->Cur->DStmt×Cur
 | 0,s=>zhp bs (zgs bs 0 s) (zao bs 14 s)
 | d+1,s=>if zgs bs (d+1) s<11 then zhp bs (zgs bs (d+1) s) (zao bs 14 s) else zoh bs (zcr bs d) (zgs bs (d+1) s) (zao bs 14 s)
def zbw (bs:List UInt8) (d:Nat) (s:Cur):List DStmt×Cur:=zeJ (zcr bs d) bs 4 0 s
def zEz (bs:List UInt8) (s:Cur):0<=zgs bs 0 s/\zgs bs 0 s<11:=by
 have:=zcI bs (n:=14) oo s;unfold zgs;split<;>omega
structure Scp where
 gl:List ByteArray
 lk:List ByteArray
 pr:List ByteArray
abbrev dS (pr:List ByteArray):Scp:=⟨glb,lks,pr⟩
def St0 (c:Scp) (t:DStmt):Prop:=(t.kind=1/\t.name∈c.gl/\TmR c.gl t.term/\t.body=[]/\t.els=[])\/((t.kind=4\/t.kind=5)/\t.name∈c.pr/\t.term=term0/\t.body=[]/\t.els=[]) \/
   ((t.kind=6\/t.kind=7)/\t.name∈c.lk/\t.term=term0/\t.body=[]/\t.els=[])\/(t.kind=8/\t.name=nO/\t.term=term0/\t.body=[]/\t.els=[])
def StR (c:Scp):Nat->DStmt->Prop
 | 0,t=>St0 c t
 | n+1,t=>St0 c t\/((t.kind=2\/t.kind=3/\t.els=[])/\t.name=nO/\TmR c.gl t.term/\(∀ x∈t.body,StR c n x)/\∀ x∈t.els,StR c n x)
theorem StR.base {c:Scp}:∀ {n:Nat} {t:DStmt},St0 c t->StR c n t
 | 0,t,h=>by rw [StR];exact h
 | n+1,t,h=>by rw [StR];exact .inl h
def StR.more {c:Scp} {t:DStmt} (h1:t.kind=2\/t.kind=3/\t.els=[]) (h2:t.name=nO) (h3:TmR c.gl t.term) (h4:∀ x∈t.body,StR c n x) (h5:∀ x∈t.els,StR c n x):StR c (n+1) t:=by
 rw [StR];exact .inr ⟨h1,h2,h3,h4,h5⟩
def StR.zero {c:Scp} {t:DStmt} (h:StR c 0 t):St0 c t:=by rw [StR] at h;exact h
def StR.succ {c:Scp} {t:DStmt} (h:StR c (n+1) t):St0 c t\/((t.kind=2\/t.kind=3/\t.els=[])/\t.name=nO/\TmR c.gl t.term/\(∀ x∈t.body,StR c n x)/\∀ x∈t.els,StR c n x):=by
 rw [StR] at h;exact h
theorem StR.mono {c:Scp}:∀ {n m:Nat} {t:DStmt},n<=m->StR c n t->StR c m t
 | 0,m,_,_,h=>StR.base h.zero
 | n+1,0,_,h,_=>absurd h oo
 | n+1,m+1,t,hn,h=>by
   rcases h.succ with h | ⟨h1,h2,h3,h4,h5⟩
   . exact StR.base h
   exact StR.more h1 h2 h3 (λx hx=>(h4 x hx).mono oo) λx hx=>(h5 x hx).mono oo
def zuC (bs:List UInt8) (k:Int) (s:Cur):St0 (dS zq9) (zhp bs k s).1:=by
 unfold zhp;have hs:=zdO bs (l:=zyG) qd s;have hl:=zdO bs (l:=lks) qd s;have hp:=zdO bs (l:=zq9) qd s
 have hg:zdi bs zyG s∈glb:=by
   generalize zdi bs zyG s=x at *;simp only [zyG,qaa,qad,qaq] at hs;rcases hs with rfl | rfl | rfl<;>decide
 split
 . exact .inl ⟨rfl,hg,zhZ bs oo _,rfl,rfl⟩
 split
 . exact .inr (.inr (.inl ⟨.inl rfl,hl,rfl,rfl,rfl⟩))
 split
 . exact .inr (.inr (.inl ⟨.inr rfl,hl,rfl,rfl,rfl⟩))
 split
 . exact .inr (.inl ⟨.inl rfl,hp,rfl,rfl,rfl⟩)
 split
 . exact .inr (.inl ⟨.inr rfl,hp,rfl,rfl,rfl⟩)
 exact .inr (.inr (.inr ⟨rfl,rfl,rfl,rfl,rfl⟩))
theorem zgt {f:Cur->DStmt×Cur} {bs:List UInt8} {p:DStmt->Prop} (hf:∀ s,p (f s).1):∀ (n i:Nat) (s:Cur),∀ x∈(zeJ f bs n i s).1,p x
 | 0,_,_,x,h=>by rw [zeJ] at h;cases h
 | n+1,i,s,x,h=>by
   rw [zeJ] at h;split at h
   . rcases qaa.1 h with rfl | h
     . exact hf _
     exact zgt hf n _ _ x h
   cases h
theorem zmi {f:Cur->DStmt×Cur} {bs:List UInt8}:∀ (n i:Nat) (s:Cur),(zeJ f bs n i s).1.length<=n
 | 0,_,_=>by rw [zeJ];exact qaz _
 | n+1,i,s=>by
   rw [zeJ];split
   . have:=zmi (f:=f) (bs:=bs) n (i+1) (f (zao bs 4 s)).2;simp only [qak];omega
   simp
theorem zoi (bs:List UInt8):∀ (d:Nat) (s:Cur),StR (dS zq9) d (zcr bs d s).1
 | 0,s=>by rw [zcr];exact StR.base (zuC bs _ _)
 | d+1,s=>by
   rw [zcr];split
   . exact StR.base (zuC bs _ _)
   have ih:=zoi bs d;unfold zoh;split
   . exact StR.more (.inr ⟨rfl,rfl⟩) rfl (zhZ bs oo _) (zgt ih _ _ _) λx hx=>by cases hx
   split
   . exact StR.more (.inl rfl) rfl (zhZ bs oo _) (zgt ih _ _ _) (zgt ih _ _ _)
   exact StR.more (.inl rfl) rfl (zhZ bs oo _) (zgt ih _ _ _) λx hx=>by cases hx
def zoj (bs:List UInt8) (d:Nat) (s:Cur):∀ x∈(zbw bs d s).1,StR (dS zq9) d x:=zgt (zoi bs d) _ _ _
mutual
def szS:DStmt->Nat
  | .mk _ _ _ b e=>1+szL b+szL e
def szL:List DStmt->Nat
  | []=>0
  | x :: l=>szS x+szL l
end
mutual
def zxp:DStmt->Int->Int
  | .mk _ _ _ b e,n=>zk4 e (zk4 b (n-1))
def zk4:List DStmt->Int->Int
  | [],n=>n
  | x :: l,n=>if 0<=n then zk4 l (zxp x n) else n
end
mutual
theorem zyJ:∀ (x:DStmt) (n:Int),0<=n->((szS x:Int)<=n->zxp x n=n-szS x)/\(n<szS x->zxp x n<0)
  | .mk k s t b e,n,hn=>by
    rw [szS,zxp];have h1:=zkm b (n-1);have h2:=zkm e (zk4 b (n-1));refine ⟨λh=>?_,λh=>?_⟩
    . rw [h2.1 (by rw [h1.1 oo];omega),h1.1 oo];omega
    by_cases hb:(szL b:Int)<=n-1
    . exact h2.2.1 (by rw [h1.1 hb];omega)
    have:=h1.2.1 oo;by_cases h0:zk4 b (n-1)<0
    . exact h2.2.2 h0
    omega
theorem zkm:∀ (l:List DStmt) (n:Int),((szL l:Int)<=n->zk4 l n=n-szL l)/\(n<szL l->zk4 l n<0)/\(n<0->zk4 l n<0)
  | [],n=>by
    rw [szL,zk4];exact ⟨λ_=>oo,λh=>oo,λh=>h⟩
  | x :: l,n=>by
    rw [szL,zk4];refine ⟨λh=>?_,λh=>?_,λh=>?_⟩
    . have h1:=zyJ x n oo;have h2:=zkm l (zxp x n);rw [qah oo,h2.1 (by rw [h1.1 oo];omega),h1.1 oo];omega
    . split
      . rename_i h0;have h1:=zyJ x n h0;have h2:=zkm l (zxp x n);by_cases hx:(szS x:Int)<=n
        . exact h2.2.1 (by rw [h1.1 hx];omega)
        exact h2.2.2 (h1.2 oo)
      omega
    rw [qab oo];exact h
end
theorem zkn:∀ (l m:List DStmt),szL (l++m)=szL l+szL m
 | [],m=>by simp [szL]
 | x :: l,m=>by rw [qbz,szL,szL,zkn l m];omega
theorem zpJ:∀ (l:List DStmt),l.length<=szL l
 | []=>by simp
 | .mk k s t b e :: l=>by have:=zpJ l;rw [szL,szS,qak];omega
mutual
def ztf (bs:List UInt8) (pr:List ByteArray):DStmt->Cur->DStmt×Cur
  | .mk k n t b e,s=>
    if k=4\/k=5 then
      (.mk k (zdi bs pr s) t (zfq bs pr b (zao bs (pr.length:Int) s)).1 (zfq bs pr e (zfq bs pr b (zao bs (pr.length:Int) s)).2).1,(zfq bs pr e (zfq bs pr b (zao bs (pr.length:Int) s)).2).2)
    else (.mk k n t (zfq bs pr b s).1 (zfq bs pr e (zfq bs pr b s).2).1,(zfq bs pr e (zfq bs pr b s).2).2)
def zfq (bs:List UInt8) (pr:List ByteArray):List DStmt->Cur->List DStmt×Cur
  | [],s=>([],s)
  | x :: l,s=>((ztf bs pr x s).1 :: (zfq bs pr l (ztf bs pr x s).2).1,(zfq bs pr l (ztf bs pr x s).2).2)
end
mutual
theorem zEA (bs:List UInt8) (pr:List ByteArray):∀ (x:DStmt) (s:Cur),szS (ztf bs pr x s).1=szS x
  | .mk k n t b e,s=>by
    rw [ztf];split
    . rw [szS,szS,zko bs pr b,zko bs pr e]
    rw [szS,szS,zko bs pr b,zko bs pr e]
theorem zko (bs:List UInt8) (pr:List ByteArray):∀ (l:List DStmt) (s:Cur),szL (zfq bs pr l s).1=szL l
  | [],s=>by rw [zfq]
  | x :: l,s=>by rw [zfq,szL,szL,zEA bs pr x,zko bs pr l]
end
def zuD (bs:List UInt8) (pr:List ByteArray) (s:Cur):zfq bs pr [] s=([],s):=by rw [zfq]
theorem zHo {bs:List UInt8} {pr r:List ByteArray} (hp:0<pr.length):∀ (n:Nat),(∀ (t:DStmt) (s:Cur),StR (dS r) n t->StR (dS pr) n (ztf bs pr t s).1)/\∀ (l:List DStmt) (s:Cur),(∀ x∈l,StR (dS r) n x)->∀ x∈(zfq bs pr l s).1,StR (dS pr) n x:=by
 have h0:∀ (t:DStmt) (s:Cur),St0 (dS r) t->St0 (dS pr) (ztf bs pr t s).1:=by
   rintro ⟨k,nm,t,b,e⟩ s h;have hb:b=[]:=by rcases h with h | h | h | h<;>exact h.2.2.2.1
   have he:e=[]:=by rcases h with h | h | h | h<;>exact h.2.2.2.2
   subst hb he;rw [ztf];simp only [zuD];rcases h with h | h | h | h
   . have hk:k=1:=h.1;rw [qab oo];exact .inl h
   . have hk:k=4\/k=5:=h.1;rw [qah hk];exact .inr (.inl ⟨hk,zdO bs hp s,h.2.2.1,rfl,rfl⟩)
   . have hk:k=6\/k=7:=h.1;rw [qab oo];exact .inr (.inr (.inl h))
   have hk:k=8:=h.1;rw [qab oo];exact .inr (.inr (.inr h))
 have hl:∀ n,(∀ (t:DStmt) (s:Cur),StR (dS r) n t->StR (dS pr) n (ztf bs pr t s).1)->∀ (l:List DStmt) (s:Cur),(∀ x∈l,StR (dS r) n x)->∀ x∈(zfq bs pr l s).1,StR (dS pr) n x:=by
   intro n hs l
   induction l with
   | nil=>intro s _ x hx;rw [zfq] at hx;cases hx
   | cons y l ih=>
     intro s h x hx;rw [zfq] at hx;rcases qaa.1 hx with rfl | hx
     . exact hs y s (h y sS)
     exact ih _ (λz hz=>h z (by simp [hz])) x hx
 intro n
 induction n with
 | zero=>
   have g0:∀ (t:DStmt) (s:Cur),StR (dS r) 0 t->StR (dS pr) 0 (ztf bs pr t s).1:=λt s h=>StR.base (h0 t s h.zero);exact ⟨g0,hl 0 g0⟩
 | succ n ih=>
   have hs:∀ (t:DStmt) (s:Cur),StR (dS r) (n+1) t->StR (dS pr) (n+1) (ztf bs pr t s).1:=by
     intro t s h;rcases h.succ with h | ⟨h1,h2,h3,h4,h5⟩
     . exact StR.base (h0 t s h)
     obtain ⟨k,nm,t,b,e⟩:=t;have hk:k=2\/k=3/\e=[]:=h1;rw [ztf,qab oo];refine StR.more ?_ h2 h3 (ih.2 b _ h4) (ih.2 e _ h5);rcases hk with hk | ⟨hk,rfl⟩
     . exact .inl hk
     exact .inr ⟨hk,by show (zfq bs pr [] _).1=[];rw [zfq]⟩
   exact ⟨hs,hl (n+1) hs⟩
def zEB:DStmt:=.mk 8 nO term0 [] []
def zgu (n:ByteArray):DStmt:=.mk 6 n term0 [] []
def zeK (n:ByteArray):DStmt:=.mk 7 n term0 [] []
def zDq (n:ByteArray):DStmt:=.mk 5 n term0 [] []
def zmj (bs:List UInt8) (body:List DStmt) (s:Cur):List DStmt×Cur:=
 if zdi bs lks s=zdi bs lks (zao bs 3 s) then (zgu (zdi bs lks s) :: (body++[zeK (zdi bs lks s)]),zao bs 3 (zao bs 3 s))
 else if zbb bs 2 (zao bs 3 (zao bs 3 s))=0 then (zgu (zdi bs lks s) :: zgu (zdi bs lks (zao bs 3 s)) :: (body++[zeK (zdi bs lks s)]),zao bs 2 (zao bs 3 (zao bs 3 s)))
 else (zgu (zdi bs lks s) :: (body++[zeK (zdi bs lks s)]),zao bs 2 (zao bs 3 (zao bs 3 s)))
def zhq (bs:List UInt8) (s:Cur):List DStmt×Cur:=
 (if zk4 ((zbw bs 2 s).1++(zbw bs 1 (zbw bs 2 s).2).1) 50<0 then [zEB] else (zbw bs 2 s).1++(zbw bs 1 (zbw bs 2 s).2).1,(zbw bs 1 (zbw bs 2 s).2).2)
def ziO (bs:List UInt8) (r:List DStmt×Cur):List DStmt×Cur:=
 if zbb bs 2 r.2=0 then zmj bs r.1 (zao bs 2 r.2) else (r.1,zao bs 2 r.2)
def zli (bs:List UInt8) (i:Nat) (nm:ByteArray) (r:List DStmt×Cur):List DStmt×Cur:=
 if i=0 then (if zbb bs 2 r.2=0 then (zDq nm :: r.1,zao bs 2 r.2) else (r.1,zao bs 2 r.2)) else r
def zei (bs:List UInt8) (pr:List ByteArray) (i:Nat) (s:Cur):List DStmt×Cur:=
 zfq bs pr (zli bs i (pr.getD 0 nO) (ziO bs (zhq bs s))).1 (zli bs i (pr.getD 0 nO) (ziO bs (zhq bs s))).2
def zb0 (bs:List UInt8) (pr:List ByteArray):List ByteArray->Nat->Cur->List DProc×Cur
 | [],_,s=>([],s)
 | n :: l,i,s=>(⟨n,(zei bs pr i s).1⟩ :: (zb0 bs pr l (i+1) (zei bs pr i s).2).1,(zb0 bs pr l (i+1) (zei bs pr i s).2).2)
def zmk (bs:List UInt8) (s:Cur):List ByteArray:=prc4.take (2+(zbb bs 3 s).toNat)
def zdT (bs:List UInt8) (s:Cur):DProg×Cur:=
 (⟨glb,lks,(zb0 bs ((zmk bs s).drop 1) (zmk bs s) 0 (zao bs 3 s)).1⟩,(zb0 bs ((zmk bs s).drop 1) (zmk bs s) 0 (zao bs 3 s)).2)
def zHp (bs:List UInt8):Int:=(bs.take 4000).foldl (λh b=>zv3 (h*131+(b.toNat:Int)+7) 1073741823) (94701+(bs.length:Int))
def ze6 (bs:List UInt8):Cur:=⟨0,zHp bs⟩
def ztg (c:Scp) (l:List DStmt):Prop:=(∀ x∈l,StR c 2 x)/\szL l<=54
def zGs (pr:List ByteArray):StR (dS pr) 2 zEB:=StR.base (.inr (.inr (.inr ⟨rfl,rfl,rfl,rfl,rfl⟩)))
def zuE (pr:List ByteArray) {n:ByteArray} (h:n∈lks):StR (dS pr) 2 (zgu n):=StR.base (.inr (.inr (.inl ⟨.inl rfl,h,rfl,rfl,rfl⟩)))
def zBi (pr:List ByteArray) {n:ByteArray} (h:n∈lks):StR (dS pr) 2 (zeK n):=StR.base (.inr (.inr (.inl ⟨.inr rfl,h,rfl,rfl,rfl⟩)))
def zth (bs:List UInt8) (s:Cur):(∀ x∈(zhq bs s).1,StR (dS zq9) 2 x)/\szL (zhq bs s).1<=50:=by
 unfold zhq;split
 . exact ⟨λx hx=>by simp only [qaa,qad,qaq] at hx;subst hx;exact zGs _,by simp [szL,szS,zEB]⟩
 rename_i h;refine ⟨λx hx=>?_,?_⟩
 . rcases qae.1 hx with hx | hx
   . exact zoj bs 2 s x hx
   exact (zoj bs 1 _ x hx).mono oo
 have:=zkm ((zbw bs 2 s).1++(zbw bs 1 (zbw bs 2 s).2).1) 50;have:=this.2.1;show szL ((zbw bs 2 s).1++(zbw bs 1 (zbw bs 2 s).2).1)<=50;omega
def zyK (bs:List UInt8) {r:List DStmt×Cur} (h:(∀ x∈r.1,StR (dS zq9) 2 x)/\szL r.1<=50):(∀ x∈(ziO bs r).1,StR (dS zq9) 2 x)/\szL (ziO bs r).1<=53:=by
 have hl:=λs=>zdO bs (l:=lks) qd s
 have g0:∀ (C:List DStmt) (n:ByteArray),n∈lks->(∀ x∈C,StR (dS zq9) 2 x)->szL C<=2->(∀ x∈C++(r.1++[zeK n]),StR (dS zq9) 2 x)/\szL (C++(r.1++[zeK n]))<=53:=by
   intro C n hn hp _;refine ⟨λx hx=>?_,?_⟩
   . rcases qae.1 hx with hx | hx
     . exact hp x hx
     rcases qae.1 hx with hx | hx
     . exact h.1 x hx
     simp only [qaa,qad,qaq] at hx;subst hx;exact zBi _ hn
   rw [zkn,zkn];have:szL [zeK n]=1:=by simp [szL,szS,zeK]
   omega
 unfold ziO;split
 . unfold zmj;split
   . exact g0 [zgu _] _ (hl _) (λx hx=>by simp only [qaa,qad,qaq] at hx;subst hx;exact zuE _ (hl _)) (by simp [szL,szS,zgu])
   split
   . exact g0 [zgu _,zgu _] _ (hl _) (λx hx=>by
       simp only [qaa,qad,qaq] at hx;rcases hx with rfl | rfl
       . exact zuE _ (hl _)
       exact zuE _ (hl _)) (by simp [szL,szS,zgu])
   exact g0 [zgu _] _ (hl _) (λx hx=>by simp only [qaa,qad,qaq] at hx;subst hx;exact zuE _ (hl _)) (by simp [szL,szS,zgu])
 exact ⟨h.1,by have:=h.2;show szL r.1<=53;omega⟩
def zEC (bs:List UInt8) (i:Nat) {nm:ByteArray} (hn:nm∈zq9) {r:List DStmt×Cur} (h:(∀ x∈r.1,StR (dS zq9) 2 x)/\szL r.1<=53):ztg (dS zq9) (zli bs i nm r).1:=by
 unfold zli;split
 . split
   . refine ⟨λx hx=>?_,?_⟩
     . rcases qaa.1 hx with rfl | hx
       . exact StR.base (.inr (.inl ⟨.inr rfl,hn,rfl,rfl,rfl⟩))
       exact h.1 x hx
     have:=h.2;simp only [szL,szS,zDq];omega
   exact ⟨h.1,by have:=h.2;show szL r.1<=54;omega⟩
 exact ⟨h.1,by have:=h.2;omega⟩
def zwc (bs:List UInt8) {pr:List ByteArray} (hp:0<pr.length) (h3:∀ x∈pr,x∈zq9) (i:Nat) (s:Cur):ztg (dS pr) (zei bs pr i s).1:=by
 have h:=zEC bs i (nm:=pr.getD 0 nO) (h3 _ (zpG hp)) (zyK bs (zth bs s));unfold zei;exact ⟨(zHo hp 2).2 _ _ h.1,by rw [zko];exact h.2⟩
structure ProgR (p:DProg):Prop where
 g:p.globals=glb\/p.globals=glb.take 1
 l:p.locks=lks\/p.locks=lks.take 1\/p.locks=lks.take 2
 n:∃ k,k<4/\p.procs.map DProc.name=prc4.take (1+k)
 b:∀ x∈p.procs,ztg ⟨p.globals,p.locks,(p.procs.map DProc.name).drop 1⟩ x.body
theorem zfJ (bs:List UInt8) (pr:List ByteArray):∀ (l:List ByteArray) (i:Nat) (s:Cur),(zb0 bs pr l i s).1.map DProc.name=l
 | [],_,_=>by rw [zb0];rfl
 | n :: l,i,s=>by rw [zb0,qbI,zfJ bs pr l]
theorem zml (bs:List UInt8) {pr:List ByteArray} (hp:0<pr.length) (h3:∀ x∈pr,x∈zq9):∀ (l:List ByteArray) (i:Nat) (s:Cur),∀ x∈(zb0 bs pr l i s).1,ztg (dS pr) x.body
 | [],_,_,x,h=>by rw [zb0] at h;cases h
 | n :: l,i,s,x,h=>by
   rw [zb0] at h;rcases qaa.1 h with rfl | h
   . exact zwc bs hp h3 i s
   exact zml bs hp h3 l _ _ x h
def zyL (bs:List UInt8) (s:Cur):(zbb bs 3 s).toNat<3:=by
 have:=zcI bs (n:=3) oo s;omega
theorem zpK:∀ k,k<3->0<((prc4.take (2+k)).drop 1).length/\∀ x∈(prc4.take (2+k)).drop 1,x∈zq9
 | 0,_=>⟨qd,by intro x hx;simp only [prc4,List.take,List.drop,qaa,qad,qaq] at hx;subst hx;decide⟩
 | 1,_=>⟨qd,by intro x hx;simp only [prc4,List.take,List.drop,qaa,qad,qaq] at hx;rcases hx with rfl | rfl<;>decide⟩
 | 2,_=>⟨qd,by intro x hx;simp only [prc4,List.take,List.drop,qaa,qad,qaq] at hx;rcases hx with rfl | rfl | rfl<;>decide⟩
 | k+3,h=>absurd h oo
def zkp (bs:List UInt8) (s:Cur):ProgR (zdT bs s).1:=by
 have hk:=zyL bs s;have ht:=zpK _ hk;refine ⟨.inl rfl,.inl rfl,⟨1+(zbb bs 3 s).toNat,oo,?_⟩,λx hx=>?_⟩
 . rw [show 1+(1+(zbb bs 3 s).toNat)=2+(zbb bs 3 s).toNat by omega];exact zfJ bs _ _ _ _
 have hn:((zdT bs s).1.procs.map DProc.name)=zmk bs s:=zfJ bs _ _ _ _;rw [hn];exact zml bs ht.1 ht.2 _ _ _ x hx
end Go.Proofs.YtkgiigmcbgifdaaGreat
namespace Go.Sh
open Go.RowKit (Below)
open Rep (rep)
section
variable {P:pG} {w w0 w':wD} {α β γ:Type} [Rep α] [Rep β]
def zfY {t e:TypeId} {by_:Nat} {F:List Nat} {v:vL} {l:List α} {k:Nat} {K:vL->Prop} (ht:P.underlying t=some (.slice e)) (he:tyI P e=some (Rep.size α,by_,Rep.agg α)) (hm:Mine F w v l) (hk:k<l.length)
   (kk:∀ b o G,Lens (MH v) F w b o G l[k] (λy=>l.set k y)->K (.pointer (some ⟨b,o,none⟩))):RD P (Instr.indexAt t v (.int .i64 (k:Int))) w K:=by
 obtain ⟨b,a,_,G,hv,hL⟩:=zxI hm hk;refine zba (v:=.pointer (some ⟨b,a+k*Rep.size α,none⟩)) (λ_ _=>?_) (kk _ _ _ hL);rw [hv,zcb ht he oo oo];simp
def zmm {ft by_ b o:Nat} {H:List Nat->wD->γ->Prop} {F G:List Nat} {l:List β} {upd:List β->γ} {K:vL->Prop} (g1:tyI P ft=some (1,by_,false)) (hL:Lens H F w b o G l upd)
   (k:∀ u,Mine G w u l->(∀ c∈G,c∈F)->(∀ w' G' l',Chg G w w'->Mine G' w' u l'->(∀ c∈G',c∈G\/c∉F)->∃ F',H F' w' (upd l')/\∀ c∈F',c∈F\/c∈G')->K u) :
   RD P (Instr.loadAt ft (.pointer (some ⟨b,o,none⟩))) w K:=by
 obtain ⟨u,hM,hr,hG,hb⟩:=hL.row;refine zba (λw' g0=>?_) (k u hM hG hb);have h0:w'.cell? ⟨b,o,none⟩=some u:=by simpa using (zbQ hr g0) 0 u rfl
 have hA:=zca g1 w';simp [Instr.loadAt,Instr.sureAddr,loadVar,hA,h0]
def zan {ft by_ g e o:Nat} {cs:List vL} {v:vL} {K:vL->Prop} (g1:tyI P ft=some (1,by_,false)) (hB:Blk g e w cs) (ho:cs[o]?=some v) (k:K v) :
   RD P (Instr.loadAt ft (.pointer (some ⟨g,o,none⟩))) w K:=by
 refine zba (λw' g0=>?_) k;have h0:w'.cell? ⟨g,o,none⟩=some v:=by simpa using (zbQ hB.range g0) o v ho
 have hA:=zca g1 w';simp [Instr.loadAt,Instr.sureAddr,loadVar,hA,h0]
def zmn {t:TypeId} {cs:Array vL} {K:vL->wD->Prop} (k:∀ w',Ext w w'->Blk w.heap.size t w' cs.toList->K (.pointer (some ⟨w.heap.size,0,none⟩)) w'):OP P (Instr.box t (.agg cs)) w K:=
 ⟨_,w.alloc (.cells cs t),by simp [Instr.box,newVar,newRow,Value.cells],k _ (zaX w _) (by unfold Blk;rw [heap_alloc_new w _])⟩
def ze7 {t by_ b o:Nat} {F G:List Nat} {v:vL} {y y':β} {upd:β->α} {u:vL} {K:wD->Prop} (ht:tyI P t=some (Rep.size β,by_,Rep.agg β)) (h:Lens (MH v) F w b o G y upd)
   (hu:Mine [] w u y') (k:∀ w' F',Chg F w w'->Mine F' w' v (upd y')->(∀ c∈F',c∈F)->K w'):OPU P (Instr.storeAt t (.pointer (some ⟨b,o,none⟩)) u) w K:=
 zjh ht h hu sS λw' hc ⟨F',h1,h2⟩=>k w' F' hc h1 λc hc=>by
   rcases h2 c hc with h | h
   . exact h
   simp at h
def zbt {x:Int} (h:I64 x):Mine [] w (.int .i64 x) x:=⟨⟨_,⟨rfl,rfl,h⟩,rfl⟩,qav,Wr.nil w⟩
def zuF {x:ByteArray} (h:x.size<=maxLen):Mine [] w (.string x) x:=⟨⟨_,⟨rfl,rfl,h⟩,rfl⟩,qav,Wr.nil w⟩
def zhr {x:Bool}:Mine [] w (.bool x) x:=⟨⟨_,⟨rfl,rfl⟩,rfl⟩,qav,Wr.nil w⟩
def Chg.sub {F G:List Nat} {a b c:wD} (h:Chg F a b) (k:Chg G b c) (hs:∀ x∈G,x∈F):Chg F a c:=h.trans (k.mono hs)
def zDr {ts:Array TypeId} {ty:TypeId} {a b:Int} {K:vL->Prop} (k:K (.int .i64 (max a b))):RD P (Builtin.max_ ts ty [Value.int .i64 a,Value.int .i64 b].toArray) w K:=by
 refine zba (λ_ _=>?_) k;have:(if b>a then b else a)=max a b:=by split<;>omega
 simp only [Builtin.max_,List.toList_toArray,List.foldlM_cons,List.foldlM_nil,Builtin.max2,this];rfl
def zDs {ts:Array TypeId} {ty:TypeId} {a b:Int} {K:vL->Prop} (k:K (.int .i64 (min a b))):RD P (Builtin.min_ ts ty [Value.int .i64 a,Value.int .i64 b].toArray) w K:=by
 refine zba (λ_ _=>?_) k;have:(if b<a then b else a)=min a b:=by split<;>omega
 simp only [Builtin.min_,List.toList_toArray,List.foldlM_cons,List.foldlM_nil,Builtin.min2,this];rfl
def zGt {t e ft i g0 by_ g3:Nat} {F:List Nat} {v u:vL} {l:List α} {k:Nat} {y':β} {sel:α->β} {g:α->β->α} {K:wD->Prop} (ht:P.underlying t=some (.slice e)) (he:tyI P e=some (Rep.size α,by_,Rep.agg α)) (hf:zdf P e i=some g0) (g2:tyI P ft=some (Rep.size β,g3,Rep.agg β))
   (L:∀ {a:α} {G:List Nat} {b o:Nat} {upd:α->List α},Lens (MH v) F w b o G a upd->∃ G1,Lens (MH v) F w b (o+g0) G1 (sel a) (λy=>upd (g a y))) (hm:Mine F w v l) (hk:k<l.length) (hu:Mine [] w u y')
   (kk:∀ w' F',Chg F w w'->Mine F' w' v (l.set k (g l[k] y'))->(∀ c∈F',c∈F)->K w') :
   RD P (Instr.indexAt t v (.int .i64 (k:Int))) w λp=>RD P (Instr.fieldAt e p i) w λq=>OPU P (Instr.storeAt ft q u) w K:=by
 refine zfY ht he hm hk λb o G hL=>zaa hf ?_;obtain ⟨G1,g1⟩:=L hL;exact ze7 (upd:=λy=>l.set k (g l[k] y)) g2 g1 hu kk
def zmo {F G:List Nat} (h:(F++G).Nodup):F.Nodup/\G.Nodup/\∀ a∈F,a∉G:=by
 rw [qas] at h;exact ⟨h.1,h.2.1,λa ha hb=>h.2.2 a ha a hb rfl⟩
end
end Go.Sh
namespace Go.Sh
open Rep (rep)
section
variable {P:pG} {w w0:wD} {α:Type} [Rep α]
theorem zra [RepZ α] {z:vL} (hz:RepZ.zc α=[z]) (w:wD):∀ n,Cells [] w (List.replicate n z) (List.replicate n (RepZ.zv:α))
 | 0=>⟨rfl,rfl⟩
 | n+1=>⟨[],[],[z],List.replicate n z,rfl,rfl,hz▸RepZ.zr w,zra hz w n⟩
def zBj (z:vL) (n:Nat):(madeCells #[z] n).toList=List.replicate n z:=by
 apply qaU
 . simp [madeCells]
 intro _ _ _;simp [madeCells,Nat.mod_one]
def zeY [RepZ α] {t e:TypeId} {by_:Nat} {z:vL} {K:vL->wD->Prop} {n:Nat} (ht:P.underlying t=some (.slice e)) (he:tyI P e=some (Rep.size α,by_,Rep.agg α)) (h1:Rep.size α=1) (g9:RepZ.zc α=[z]) (hz:zcu P e=some [z])
   (hb:by_*n<=281474976710656) (hm:n<=9223372036854775807)
   (k:∀ w',Ext w w'->RowI w.heap.size w'.heap.size e w' (.slice (some ⟨w.heap.size,0,none⟩) n n) (List.replicate n (RepZ.zv:α))->K (.slice (some ⟨w.heap.size,0,none⟩) n n) w') :
   OP P (Instr.makeSlice t (.int .i64 (n:Int)) (.int .i64 (n:Int))) w K:=by
 obtain ⟨i,_,hi,_,hs,g2,_⟩:=zdE he;unfold zcu at hz;rw [hi] at hz;obtain ⟨zz,g3,g4⟩:=qaQ.1 hz
 have g5:(i.bytes:Int)*(n:Int)<=281474976710656:=by
   have h:((i.bytes*n:Nat):Int)<=281474976710656:=by rw [g2];omega
   rwa [Int.natCast_mul] at h
 have hr:=run_make (P:=P) w t e i zz ht hi g3 .i64 .i64 n n oo (qdd _) g5 oo;simp only [qal] at hr;have g0:zz.cells=#[z]:=by apply qcn;simpa using g4
 have g1:n*i.size=n:=by rw [hs,h1,qcb]
 rw [g0,g1] at hr;refine ⟨_,_,hr,k _ (zaX w _) (.inr ⟨[w.heap.size],⟨List.replicate n z,[],⟨?_,.inr ⟨w.heap.size,n,madeCells #[z] n,?_,z0 _,heap_alloc_new w _,sS,by rw [zaj];omega,?_,?_⟩⟩,zra g9 _ n,rfl,Wr.nil _⟩,sS,?_⟩)⟩
 . simp [h1]
 . simp
 . rw [h1];simp [madeCells]
 . rw [zBj,qbl,h1,qcb,qaf sS]
 intro _ hb;simp only [qaa,qad,qaq] at hb;subst hb;exact ⟨qaz _,(Array.getElem?_eq_some_iff.1 (heap_alloc_new w _)).1⟩
def zaF {K:vL->Prop} {t:TypeId} {parts:Array (Nat×vL)} {cells:Array vL} (h:P.built t parts.toList=some cells) (k:K (.agg cells)):RD P (Instr.build t parts) w K:=
 zba (λw' _=>run_build w' t parts cells h) k
def zck {t by_ g e:Nat} {cs:List vL} {K:vL->Prop} (hB:Blk g e w cs) (ht:tyI P t=some (cs.length,by_,true)) (k:K (.agg cs.toArray)):RD P (Instr.loadAt t (.pointer (some ⟨g,0,none⟩))) w K:=
 zbr ⟨e,cs,by_,hB,rfl,ht⟩ (xrf w) k
def zcl {t by_ g e:Nat} {cs:List vL} {K:vL->Prop} (hB:Blk g e w cs) (ht:tyI P t=some (cs.length,by_,true)) (k:K (.agg cs.toArray)):RD P (zfA t (.pointer (some ⟨g,0,none⟩))) w K:=by
 obtain ⟨_,d,hi,hd,hs,_,hg⟩:=zdE ht;refine zba (λw' g0=>?_) k;have:=run_loadAt_mid w' g 0 t cs d (hB.ext g0).range hd hg (by simp [hi,hs]);simpa [zfA,asAddr,Instr.loadAt,Instr.sureAddr] using this
def zaz {t by_ g e:Nat} {cs:List vL} {us:Array vL} {lo hi:Nat} {x:α} {K:wD->Prop} (ht:tyI P t=some (Rep.size α,by_,true)) (ha:Rep.agg α=true) (hB:Blk g e w cs) (hl:cs.length=Rep.size α) (hu:OwnI lo hi w (.agg us) x)
   (k:∀ w',ChgI g (g+1) w w'->Blk g e w' us.toList->K w'):OPU P (Instr.storeAt t (.pointer (some ⟨g,0,none⟩)) (.agg us)) w K:=by
 obtain ⟨_,⟨⟨g1,hr,hv⟩,_⟩,_⟩:=hu
 have g2:us.toList=g1:=by
   simp only [mkv,ha,cond_true,Value.agg.injEq] at hv;rw [hv]
 have:=Rep.len hr;rw [hv];refine zxH (by rw [ha];exact ht) hB hr rfl oo λw' hc g0=>k w' (hc.toI sS) ?_;rw [g2];rw [qb1,qbE,qa7,qcx oo,qaF] at g0;exact g0
def za3 {t by_ g e o:Nat} {cs:List vL} {u:vL} {lo hi:Nat} {x:α} {K:wD->Prop} (ht:tyI P t=some (1,by_,false)) (h1:Rep.size α=1) (ha:Rep.agg α=false) (hB:Blk g e w cs) (ho:o<cs.length) (hu:OwnI lo hi w u x)
   (k:∀ w',ChgI g (g+1) w w'->Blk g e w' (cs.set o u)->K w'):OPU P (Instr.storeAt t (.pointer (some ⟨g,o,none⟩)) u) w K:=by
 obtain ⟨_,⟨⟨_,hr,hv⟩,_⟩,_⟩:=hu;have g0:=Rep.len hr;rw [h1] at g0;obtain ⟨c,rfl⟩:=qbr.1 g0;have g1:u=c:=by simpa [mkv,ha] using hv
 subst g1;refine zxH (by rw [h1,ha];exact ht) hB hr hv oo λw' hc g2=>k w' (hc.toI sS) ?_
 have:cs.set o u=cs.take o++[u]++cs.drop (o+1):=by
   rw [qbF,qah ho];simp
 rw [this];exact g2
def Blk.chgI {g e a b:Nat} {w':wD} {cs:List vL} (h:Blk g e w cs) (hc:ChgI a b w w') (hd:g<a\/b<=g):Blk g e w' cs:=h.keep (hc.block g h.lt hd)
def zeL {a b c:vL} {s:DState} {lo hi l0 h0 l1 h1 l2 h2:Nat} (m0:OwnI l0 h0 w a s.vars) (m1:OwnI l1 h1 w b s.owner) (m2:OwnI l2 h2 w c s.stacks) (d01:h0<=l1\/h1<=l0) (d02:h0<=l2\/h2<=l0) (d12:h1<=l2\/h2<=l1)
   (b0:lo<=l0/\h0<=hi) (b1:lo<=l1/\h1<=hi) (b2:lo<=l2/\h2<=hi):OwnI lo hi w (.agg #[a,b,c]) s:=by
 obtain ⟨F0,M0,B0⟩:=m0;obtain ⟨F1,M1,B1⟩:=m1;obtain ⟨F2,M2,B2⟩:=m2;refine ⟨F0++(F1++F2),zvZ M0 M1 M2 ?_,λx hx=>?_⟩
 . rw [qas,qas];refine ⟨M0.nodup,⟨M1.nodup,M2.nodup,λp hp q hq e=>?_⟩,λp hp q hq e=>?_⟩
   . subst e;have:=B1 p hp;have:=B2 p hq;omega
   subst e;have:=B0 p hp;rcases qae.1 hq with hq | hq
   . have:=B1 p hq;omega
   have:=B2 p hq;omega
 rcases qae.1 hx with hx | hx
 . have:=B0 x hx;omega
 rcases qae.1 hx with hx | hx
 . have:=B1 x hx;omega
 have:=B2 x hx;omega
end
end Go.Sh
namespace Go.Sh
open Rep (rep)
section
variable {P:pG} {w:wD} {α:Type} [Rep α] {e:Nat}
theorem zcH {w:wD}:∀ {l:List ByteArray},(∀ x∈l,x.size<=maxLen)->Cells [] w (l.map Value.string) l
 | [],_=>⟨rfl,rfl⟩
 | x :: l,h=>⟨[],[],[.string x],l.map Value.string,rfl,rfl,⟨rfl,rfl,h x sS⟩,zcH λy hy=>h y (by simp [hy])⟩
theorem zgv {w:wD}:∀ {l:List Int},(∀ x∈l,I64 x)->Cells [] w (l.map (Value.int .i64)) l
 | [],_=>⟨rfl,rfl⟩
 | x :: l,h=>⟨[],[],[.int .i64 x],l.map (Value.int .i64),rfl,rfl,⟨rfl,rfl,h x sS⟩,zgv λy hy=>h y (by simp [hy])⟩
theorem zfK {t:TypeId} {by_ n:Nat} {z:vL} {vs:List vL} {parts:Array (Nat×vL)} {l:List α} {K:vL->wD->Prop} (ht:P.underlying t=some (.slice e)) (he:tyI P e=some (1,by_,false)) (hz:zcu P e=some [z])
   (hn:0<n/\n<=1000) (hf:Instr.fill (λi=>some (i*1,1)) ((Array.range (n*1)).map λi=>(#[z])[i%1]!) parts.toList=some vs.toArray) (hl:l.length=n) (hc:∀ w,Cells [] w vs l)
   (k:∀ v w',Ext w w'->OwnI w.heap.size w'.heap.size w' v l->K v w'):OP P (Instr.buildSlice t n parts) w K:=by
 unfold zcu at hz;cases hi:P.info? e with
 | none=>simp [hi] at hz
 | some i=>
   simp only [hi] at hz;obtain ⟨v,hv,g2⟩:=qaQ.1 hz;have g0:v.cells=#[z]:=qcn (by simpa using g2);have hB:Blk w.heap.size e (w.alloc (.cells vs.toArray e)) vs:=heap_alloc_new w _;have g1:w.heap.size<(w.alloc (.cells vs.toArray e)).heap.size:=hB.lt;refine ⟨.slice (some ⟨w.heap.size,0,none⟩) n n,w.alloc (.cells vs.toArray e),?_,k _ _ (zaX w _) ⟨[w.heap.size],⟨⟨_,⟨some ⟨w.heap.size,0,none⟩,n,[],vs,rfl,oo,by rw [zaj];omega,hc _,.inr ⟨_,_,rfl,rfl,hB.range,g1⟩⟩,by rw [hl];rfl⟩,sS,λb hb=>?_⟩,λb hb=>?_⟩⟩
   . have g3:¬n*1=0:=oo;have g4:¬2^24<n*1:=oo;have g5:(zeroValue e).run P w=.ok v w:=by simp [zeroValue,typeInfo,hi,hv]
     simp only [Instr.buildSlice,Sem.run_bind,run_underlying ht,Result.andThen_ok,zaJ he];simp only [g4,g3,if_false,Sem.run_bind,Sem.run_pure,Result.andThen_ok,g5,g0];rw [show (λx=>(#[z]:Array vL)[x%(#[z]:Array vL).size]!)=λi=>(#[z]:Array vL)[i%1]! from rfl,hf];rfl
   . simp only [qaa,qad,qaq] at hb;subst hb;exact ⟨_,_,hB⟩
   simp only [qaa,qad,qaq] at hb;subst hb;exact ⟨qaz _,g1⟩
def zBk (u v:vL) (cells:Array vL) (s:Nat) (hu:u.cells.size=s) (hv:v.cells.size=s) (hc:cells.size=2*s) :
   Instr.fill (λi=>some (i*s,s)) cells [(0,u),(1,v)]=some (u.cells++v.cells):=by
 have g1:∀ (x:vL) (g0:Nat) (cs:Array vL),x.cells.zipIdx.foldl (λ(cs:Array vL) (p:vL×Nat)=>match p with | (c,j)=>cs.setIfInBounds (g0+j) c) cs
     = (x.cells.toList.zipIdx 0).foldl (λ(cs:Array vL) (p:vL×Nat)=>cs.setIfInBounds (g0+p.2) p.1) cs:=by
   intro x g0 cs;rw [<-Array.foldl_toList,Array.toList_zipIdx]
 unfold Instr.fill;simp only [Nat.zero_mul];rw [qab so];rw [g1];obtain ⟨_,h2⟩:=zln 0 u.cells.toList 0 cells;generalize (u.cells.toList.zipIdx 0).foldl (λ(cs:Array vL) (p:vL×Nat)=>cs.setIfInBounds (0+p.2) p.1) cells=c1 at *;unfold Instr.fill;simp only [qbN];rw [qab so];unfold Instr.fill;rw [g1];obtain ⟨_,h4⟩:=zln s v.cells.toList 0 c1;generalize (v.cells.toList.zipIdx 0).foldl (λ(cs:Array vL) (p:vL×Nat)=>cs.setIfInBounds (s+p.2) p.1) c1=c2 at *;congr 1;apply Array.ext_getElem?;intro i;rw [h4,h2,Array.getElem?_append];simp only [qaH,qco,qa7,Array.getElem?_toList,Nat.sub_zero];by_cases hi:i<s
 . rw [qab oo,qah oo,qah oo]
 by_cases hi2:i<2*s
 . rw [qah oo,qab oo,hu]
 rw [qab oo,qab oo,qab oo,Array.getElem?_eq_none oo,Array.getElem?_eq_none oo]
def zwd {t:TypeId} {by_:Nat} {u v:vL} {x y:α} {lo l0 h0 l1 h1:Nat} {K:vL->wD->Prop} (ht:P.underlying t=some (.slice e)) (he:tyI P e=some (Rep.size α,by_,Rep.agg α)) (hz:zbZ P e=true) (hsz:Rep.size α<=1000)
   (hx:OwnI l0 h0 w u x) (hy:OwnI l1 h1 w v y) (hd:h0<=l1\/h1<=l0) (hl:lo<=l0/\lo<=l1/\lo<=w.heap.size)
   (k:∀ v' w',Ext w w'->OwnI lo w'.heap.size w' v' [x,y]->K v' w'):OP P (Instr.buildSlice t 2 #[(0,u),(1,v)]) w K:=by
 obtain ⟨F,⟨⟨cs,hr,rfl⟩,hn,hw⟩,hF⟩:=hx;obtain ⟨G,⟨⟨ds,g2,rfl⟩,gf,gg⟩,hG⟩:=hy;have g3:=Rep.len hr;have g0:=Rep.len g2;have g5:=ze3 hr;have g1:=ze3 g2;have gh:(mkv α cs).cells.size=Rep.size α:=by rw [<-qaH,g5,g3]
 have g4:(mkv α ds).cells.size=Rep.size α:=by rw [<-qaH,g1,g0]
 obtain ⟨_,_,hi,_,_,_,_⟩:=zdE he;unfold zbZ at hz;rw [hi] at hz;obtain ⟨z,hz⟩:=qbj.1 hz;have:=Rep.pos (α:=α);have r:=zaX w (.cells ((mkv α cs).cells++(mkv α ds).cells) e);have hB:(w.alloc (.cells ((mkv α cs).cells++(mkv α ds).cells) e)).heap[w.heap.size]?=some (.cells ((mkv α cs).cells++(mkv α ds).cells) e (0,0)):=heap_alloc_new w _
 have g9:Blk w.heap.size e (w.alloc (.cells ((mkv α cs).cells++(mkv α ds).cells) e)) (cs++ds):=by
   unfold Blk;rw [hB];congr 2;apply qcn;simp [g5,g1]
 have gb:=g9.lt;have gc:=Rep.lt hr;have gd:=Rep.lt g2;refine ⟨.slice (some ⟨w.heap.size,0,none⟩) 2 2,_,?_,k _ _ r ⟨w.heap.size :: (F++G),⟨⟨_,⟨some ⟨w.heap.size,0,none⟩,2,F++G,cs++ds,rfl,lr _,by rw [zaj];omega,⟨F,G,cs,ds,rfl,rfl,zcp hr r,Cells.single (zcp g2 r)⟩,.inr ⟨_,_,rfl,rfl,g9.range,gb⟩⟩,rfl⟩,?_,?_⟩,?_⟩⟩
 . have gi:¬2*Rep.size α=0:=oo;have gj:¬2^24<2*Rep.size α:=oo;have gl:(zeroValue e).run P w=.ok z w:=by simp [zeroValue,typeInfo,hi,hz]
   simp only [Instr.buildSlice,Sem.run_bind,run_underlying ht,Result.andThen_ok,zaJ he];simp only [gj,gi,if_false,Sem.run_bind,Sem.run_pure,Result.andThen_ok,gl];rw [zBk _ _ _ _ gh g4 sS];rfl
 . rw [qaP,qas];refine ⟨λhm=>?_,hn,gf,λp hp _ hq e=>?_⟩
   . rcases qae.1 hm with hm | hm
     . exact Nat.lt_irrefl _ (gc _ hm)
     exact Nat.lt_irrefl _ (gd _ hm)
   subst e;have:=hF p hp;have:=hG p hq;omega
 . intro b hb;rcases qaa.1 hb with rfl | hb
   . exact ⟨_,_,hB⟩
   rcases qae.1 hb with hb | hb
   . exact (hw.ext r) b hb
   exact (gg.ext r) b hb
 intro b hb;rcases qaa.1 hb with rfl | hb
 . exact ⟨hl.2.2,gb⟩
 rcases qae.1 hb with hb | hb
 . have:=hF b hb;have:=gc b hb;omega
 have:=hG b hb;have:=gd b hb;omega
def zkq {t ty:TypeId} {by_:Nat} {v gb:vL} {l m:List α} {lo0 lo hi l1 h1:Nat} {K:vL->wD->Prop} (ht:P.underlying t=some (.slice e)) (he:tyI P e=some (Rep.size α,by_,Rep.agg α))
   (g5:(P.info? e).map (λi=>(i.zero.map (·.cells.size)))=some (some (Rep.size α))) (hv:RowI lo hi e w v l) (hlo:lo<=w.heap.size) (hs:OwnI l1 h1 w gb m) (hd:hi<=l1\/h1<=lo) (h0:lo0<=lo) (hl:lo0<=l1) (hm:l.length+m.length<=maxLen) (hb:(l.length+m.length)*by_<=140737488355328)
   (k:∀ v' w',ChgI lo hi w w'->RowI lo0 w'.heap.size e w' v' (l++m)->K v' w'):OP P (Builtin.append_ #[t,t] ty [v,gb].toArray) w K:=by
 obtain ⟨_,⟨⟨_,⟨a,cap,Fi,xs,rfl,_,_,hc,h4⟩,g0⟩,gc,hw⟩,gd⟩:=hs;simp only [mkv,Rep.agg,cond_false,qbd] at g0;subst g0
 have g1:(∀ b∈Fi,l1<=b/\b<h1)/\Fi.Nodup/\Wr Fi w:=by
   rcases h4 with ⟨rfl,rfl⟩ | ⟨b,o,rfl,rfl,hr,_⟩
   . obtain ⟨rfl,rfl⟩:=hc;exact ⟨(λb hb=>by cases hb),qav,Wr.nil w⟩
   exact ⟨λc hc=>gd c (by simp [hc]),(qaP.1 gc).2,hw.sub sc⟩
 have g4:∀ (v:vL) (F:List Nat),RowF F e w v l->F.Nodup->(∀ b∈F,lo<=b/\b<hi)->OP P (Builtin.append_ #[t,t] ty [v,.slice a m.length cap].toArray) w K:=by
   intro v F hF g2 r
   refine zfD (m:=m) ht he g5 hF g2 rfl hc (by
     rcases h4 with h | ⟨b,o,ha,_,hr,_⟩
     . exact .inl h.1
     exact .inr ⟨b,o,ha,hr⟩) g1.2.2 ?_ hm hb λv' w' F' gf _ g9 gg gh=>?_
   . rw [qas];refine ⟨g1.2.1,g2,λp hp _ hq e=>?_⟩;subst e;have:=g1.1 p hp;have:=r p hq;omega
   have g3:∀ c∈v.ownBlock.toList,lo<=c/\c<hi:=λc hc=>by
     obtain ⟨xs,Fi,_,_,rfl,_⟩:=hF;exact r c (by simp only [qae];exact .inl hc)
   refine k v' w' (gf.toI g3) (.inr ⟨F',g9,gg,λc hc=>⟨?_,g9.lt c hc⟩⟩);rcases gh c hc with h | h | h
   . have:=(r c h).1;omega
   . have:=g1.1 c h;omega
   omega
 rcases hv with ⟨a0,rfl,rfl⟩ | ⟨F,hF,g2,r⟩
 . have kn:=g4 (.slice none 0 0) [] (zho e w) qav sS;cases a0 with
   | none=>exact kn
   | some x0=>
     by_cases hm0:m=[]
     . subst hm0;refine ⟨.slice (some x0) 0 0,w,?_,k _ w (ChgI.refl w) (zcd _ _ _ _ _)⟩
       have hf:(Builtin.firstCells (Rep.size α) 0 (.slice a 0 cap)).run P w=.ok #[] w:=by
         cases a with
         | none=>rfl
         | some a=>simp [Builtin.firstCells,loadCells,loadCellsFrom]
       simp [Builtin.append_,run_underlying ht,zaJ he,Builtin.lenOf,hf,storeCells]
     rcases h4 with h | ⟨b,o,rfl,_,hr,_⟩
     . exact absurd h.1 hm0
     exact zjn (zfF (α:=α) ht he g5 (Cells.len hc) hr (qaO.2 hm0) (by simpa using hm) (by simpa using hb)) kn
 exact g4 v F hF g2 r
def zwe {t ty:TypeId} {by_:Nat} {v src:vL} {l m:List α} {lo hi l1 h1:Nat} {K:vL->wD->Prop} (ht:P.underlying t=some (.slice e)) (he:tyI P e=some (Rep.size α,by_,Rep.agg α))
   (hzc:(P.info? e).map (λi=>(i.zero.map (·.cells.size)))=some (some (Rep.size α))) (hv:RowI lo hi e w v l) (hlo:lo<=w.heap.size) (hs:OwnI l1 h1 w src m) (hd:hi<=l1\/h1<=lo) (hl:lo<=l1) (hm:l.length+m.length<=maxLen) (hb:(l.length+m.length)*by_<=140737488355328)
   (k:∀ v' w',ChgI lo hi w w'->RowI lo w'.heap.size e w' v' (l++m)->K v' w'):OP P (Builtin.append_ #[t,t] ty [v,src].toArray) w K:=zkq ht he hzc hv hlo hs hd (lr _) hl hm hb k
end
end Go.Sh
namespace Go.Sh
open Rep (rep)
instance:Rep UInt8 where
 size:=1
 agg:=false
 rep F _ cs x:=F=[]/\cs=[.int .u8 (x.toNat:Int)]
 pos:=by decide
 sz _:=rfl
 len:=by rintro _ _ _ _ ⟨_,rfl⟩;rfl
 one:=by rintro _ _ _ _ ⟨_,rfl⟩ v hv;simp at hv;subst hv;rfl
 keep:=by rintro _ _ _ _ _ h _;exact h
 lt:=by rintro _ _ _ _ ⟨rfl,_⟩ b hb;cases hb
instance:Flat UInt8:=⟨λh=>h.1⟩
instance:RepZ UInt8:=⟨0,[.int .u8 0],λ_=>⟨rfl,rfl⟩⟩
section
variable {P:pG} {w w0:wD} {K:vL->Prop} {t:TypeId} {x y:Operand}
def zHq {v:vL} {b:UInt8}:Is w v b↔v=.int .u8 (b.toNat:Int):=by
 constructor
 . rintro ⟨_,_,⟨_,rfl⟩,rfl⟩;rfl
 rintro rfl;exact ⟨[],_,⟨rfl,rfl⟩,rfl⟩
def zuG {t by_ b o:Nat} {x:UInt8} (ht:tyI P t=some (1,by_,false)) (h:At w0 b o x) (hx:Ext w0 w) (k:K (.int .u8 (x.toNat:Int))) :
   RD P (Instr.loadAt t (.pointer (some ⟨b,o,none⟩))) w K:=
 zab (α:=UInt8) ht h hx λv hv=>by obtain rfl:=zHq.1 hv;exact k
end
end Go.Sh
namespace Go.Proofs.YtkgiigmcbgifdaaGreat
open Go Go.Sh Go.Proofs
open Rep (rep)
variable {W w w':wD} {b g g2 g3 i n o:Nat} {d:Int} {v v1:vL}
def zBl:zcu tp 3=some [.int .i64 0]:=by kernel_rfl
def zcA:zcu tp 9=some [.string ByteArray.empty]:=by kernel_rfl
def CurAt (W:wD) (g:Nat) (bs:List UInt8) (s:Cur) (w:wD):Prop:=
 ∃ v,Is W v bs/\Ext W w/\W.heap.size<=g/\Blk g 125 w [v,.int .i64 (s.i:Int),.int .i64 s.h]/\s.i<=bs.length/\bs.length<=1048576
section
variable {W w w':wD} {g a b:Nat} {bs:List UInt8} {s:Cur}
def CurAt.lt (h:CurAt W g bs s w):W.heap.size<=g/\g<w.heap.size:=by
 obtain ⟨_,_,_,h1,h2,_⟩:=h;exact ⟨h1,h2.lt⟩
def CurAt.ext (h:CurAt W g bs s w) (hx:Ext w w'):CurAt W g bs s w':=by
 obtain ⟨v,h0,h1,h2,h3,h4⟩:=h;exact ⟨v,h0,h1.trans hx,h2,h3.ext hx,h4⟩
def CurAt.chg (h:CurAt W g bs s w) (hc:ChgI a b w w') (h1:W.heap.size<=a) (hd:g<a\/b<=g):CurAt W g bs s w':=by
 obtain ⟨v,h0,hx,h2,h3,h4⟩:=h;exact ⟨v,h0,hx.chgI hc h1,h2,h3.chgI hc hd,h4⟩
def ChgI.out {c:wD} {lo hi x y:Nat} (h:ChgI x y w w') (k:ChgI lo hi w' c) (hl:w.heap.size<=lo):ChgI x y w c:=
 ⟨k.os.trans h.os,k.tape.trans h.tape,k.output.trans h.output,qat h.size k.size,λi hi ho=>(k.block i (qap hi h.size) oo).trans (h.block i hi ho)⟩
end
def zgw {bs:List UInt8} {s:Cur} (hC:CurAt W g bs s w) :
   CALL tp 104 [.pointer (some ⟨g,0,none⟩)] w λr w'=>ChgI g (g+1) w w'/\CurAt W g bs (zet bs s) w'/\r=.int .i64 (zkk bs s):=by
 obtain ⟨v,hv,hx,hg,hB,hi,hl⟩:=hC;refine co (g:=kf [] [] [(2,[0,1,2,3,4,5,6,7,8,9,10,11,12],0),(3,[0,1,2,3,4,5,6,7,8,9],0),(4,[0,1,2,3,4,5,6,7,8,9,10,11,12,13,14],0)]) Tryz.func104 ?_;refine NIL.mk rfl<|zaa zpl<|zan ty3 hB rfl<|zEg<|zxU<|NIL.mk rfl<|zaa zpl<|za3 (α:=Int) ty3 rfl rfl hB sS (zbI (lo:=0) (hi:=0) (zEf _)) λw1 gh gi=>?_;have gd:=zag w1;have g4:=gi.ext gd;have gj:=gh.trans gd.toI;have hvl:=zak hv;refine NIL.mk rfl<|zaa zpl<|zan ty3 g4 rfl<|zxV (n:=33)<|NIL.mk rfl<|zaa zpl<|zan ty3 g4 rfl<|zxV (n:=45)<|zEh<|zs3 ?_;have gf:=zag (World.drew1 w1);have g1:=g4.ext gf;have g5:=gj.trans gf.toI;refine NIL.mk rfl<|zaa zpk<|zan ty3 g1 rfl<|NIL.mk rfl<|zaa zyu<|zan zHH g1 rfl<|zae u22 hv ?_;have g0:Ext W (World.drew1 (World.drew1 w1)):=hx.chgI g5 hg;obtain ⟨bx,g2⟩:∃ x,x=zBg (zv9 s.h):=⟨_,rfl⟩;have e0:zv3 (zG9 (zF2 (zsM (zsM (s.h*6364136223846793005)+1442695040888963407)) 33) (zF2 (zsM (zsM (s.h*6364136223846793005)+1442695040888963407)) 45)) 255=bx:=g2.symm;have hbl:0<=bx/\bx<=255:=by rw [g2];exact zph _ (n:=255) oo
 rw [e0];refine zaf<|br (λC=>?_) (λg9=>?_)
 . have C:s.i<bs.length:=oo;have gb:=zag (World.drew1 (World.drew1 w1));have g3:=g1.ext gb;have gl:=g5.trans gb.toI;have gc:=g0.trans gb;refine NIL.mk rfl<|zaa zyu<|zan zHH g3 rfl<|NIL.mk rfl<|zaa zpk<|zan ty3 g3 rfl<|zad u22 ty5 (i:=s.i) hv C λ_ _ hA=>zuG ty5 hA gc ?_;have gp:=UInt8.toNat_lt (bs[s.i]);refine zxW kK u3 oo<|zxU<|zs3<|NIL.mk rfl<|zaa zpk<|zan ty3 g3 rfl<|zau<|NIL.mk rfl<|zaa zpk<|za3 (α:=Int) ty3 rfl rfl g3 sS (zbI (lo:=0) (hi:=0) io) λ_ gq gr=>?_;have gg:=gl.trans gq;refine ⟨gg,⟨v,hv,hx.chgI gg hg,hg,?_,?_,hl⟩,?_⟩
   rotate_left 2
   . have hq:zkk bs s=zv3 (bx+(bs[s.i].toNat:Int)) 255:=by
       unfold zkk;rw [List.getElem?_eq_getElem C,g2]
     rw [hq,zxT io]
   . have:zet bs s=⟨s.i+1,zv9 s.h⟩:=by unfold zet;rw [qah C]
     rw [this];exact gr
   show (if s.i<bs.length then s.i+1 else s.i)<=_;rw [qah C];omega
 have g9:¬s.i<bs.length:=oo;refine ⟨g5,⟨v,hv,g0,hg,?_,?_,hl⟩,?_⟩
 rotate_left 2
 . have hq:zkk bs s=bx:=by
     unfold zkk;rw [List.getElem?_eq_none oo,g2]
   rw [hq]
 . have:zet bs s=⟨s.i,zv9 s.h⟩:=by unfold zet;rw [qab g9]
   rw [this];exact g1
 show (if s.i<bs.length then s.i+1 else s.i)<=_;rw [qab g9];exact hi
def zcM {bs:List UInt8} {s:Cur} {n:Int}  (hC:CurAt W g bs s w) (hn:n<=1000000000000) :
   CALL tp 46 [.pointer (some ⟨g,0,none⟩),.int .i64 n] w λr w'=>ChgI g (g+1) w w'/\(CurAt W g bs (zao bs n s) w'/\r=.int .i64 (zbb bs n s)):=by
 refine co (g:=kf [] [] []) Tryz.func46 ?_;have:=hC.lt;have:=zfX bs s;have:=zfX bs (zet bs s);have:=zfX bs (zet bs (zet bs s));have:=zfX bs (zet bs (zet bs (zet bs s)));refine zew<|br (λc1=>?_) (λc1=>?_)
 . refine ⟨(ChgI.refl w),?_⟩;unfold zao zbb;rw [qah c1,qah c1];exact ⟨hC,rfl⟩
 refine zew<|br (λc2=>?_) (λc2=>?_)
 . refine (zgw hC).mono ?_;rintro _ _ ⟨C,g5,rfl⟩;have g0:=C.size;have g0:=C.size;refine zqJ oo<|⟨C,?_⟩;unfold zao zbb;rw [qab c1,qab c1,qah c2,qah c2];exact ⟨g5,rfl⟩
 refine (zgw hC).mono ?_;rintro _ _ ⟨D,g9,rfl⟩;have g1:=D.size;have g1:=D.size;refine (zgw g9).mono ?_;rintro _ _ ⟨I,gb,rfl⟩;have g2:=I.size;have g2:=I.size;refine (zgw gb).mono ?_;rintro _ _ ⟨O,gc,rfl⟩;have g3:=O.size;have g3:=O.size;refine (zgw gc).mono ?_;rintro _ _ ⟨U,gd,rfl⟩;have g4:=U.size;have g4:=U.size;refine zn1 io<|zn1 io<|zcY io<|zn1 io<|zcY io<|zcY io<|zqJ oo<|⟨(ChgI.trans (ChgI.trans (ChgI.trans D I) O) U),?_⟩;unfold zao zbb;rw [qab c1,qab c1,qab c2,qab c2];exact ⟨gd,rfl⟩
def zgx {bs:List UInt8} {s:Cur} {n:Int}  (hC:CurAt W g bs s w) (hn:n<=1000000000000) :
   CALL tp 38 [.pointer (some ⟨g,0,none⟩),.int .i64 n] w λr w'=>ChgI g (g+1) w w'/\(CurAt W g bs (zao bs n s) w'/\r=.bool (decide (zbb bs n s=0))):=by
 refine co (g:=kf [] [] []) Tryz.func38 ?_;refine (zcM hC oo).mono ?_;rintro _ _ ⟨g0,g1,rfl⟩;refine zai<|⟨g0,?_⟩;exact ⟨g1,rfl⟩
def zfL {α:Type} {l:List α} {d:α} (h:i<l.length):l[i]=l.getD i d:=by rw [List.getD_eq_getElem?_getD,List.getElem?_eq_getElem h];rfl
def zdH {bs:List UInt8} {s:Cur} {l:(List ByteArray)}  (hC:CurAt W g bs s w) (h1:OwnI g2 g3 w v1 l) (g9:g2<=w.heap.size) (gb:g3<=w.heap.size) (hg1:g<g2\/g3<=g) (h0:0<l.length) (hn:l.length<=1000) :
   CALL tp 41 [.pointer (some ⟨g,0,none⟩),v1] w λr w'=>ChgI g (g+1) w w'/\(CurAt W g bs (zao bs (l.length:Int) s) w'/\r=.string (zdi bs l s)/\(zdi bs l s).size<=maxLen):=by
 refine co (g:=kf [] [] []) Tryz.func41 ?_;have:=hC.lt;have:=zcI bs (n:=(l.length:Int)) oo s;have:=zak h1.is;refine zae u24 h1.is ?_;refine (zcM hC oo).mono ?_;rintro _ g4 ⟨C,g1,rfl⟩;have g0:=C.size;have g0:=C.size;have h1_c1:=(h1.ext (xrf w)).chg C oo;refine zaC u24 ty9 h1_c1.is oo oo λ_ _ g5=>zar ty9 g5 (xrf g4) λ_=>⟨C,?_⟩;refine ⟨g1,?_,?_⟩
 . unfold zdi;rw [<-zfL oo]
 unfold zdi;rw [<-zfL oo];assumption
def zju {bs:List UInt8} {s:Cur} {l:(List Int)}  (hC:CurAt W g bs s w) (h1:OwnI g2 g3 w v1 l) (g9:g2<=w.heap.size) (gb:g3<=w.heap.size) (hg1:g<g2\/g3<=g) (h0:0<l.length) (hn:l.length<=1000) :
   CALL tp 281 [.pointer (some ⟨g,0,none⟩),v1] w λr w'=>ChgI g (g+1) w w'/\(CurAt W g bs (zao bs (l.length:Int) s) w'/\r=.int .i64 (zkl bs l s)/\I64 (zkl bs l s)):=by
 refine co (g:=kf [] [] []) Tryz.func281 ?_;have:=hC.lt;have:=zcI bs (n:=(l.length:Int)) oo s;have:=zak h1.is;refine zae u25 h1.is ?_;refine (zcM hC oo).mono ?_;rintro _ g4 ⟨C,g1,rfl⟩;have g0:=C.size;have g0:=C.size;have h1_c1:=(h1.ext (xrf w)).chg C oo;refine zaC u25 ty3 h1_c1.is oo oo λ_ _ g5=>zac ty3 g5 (xrf g4) λ_=>⟨C,?_⟩;refine ⟨g1,?_,?_⟩
 . unfold zkl;rw [<-zfL oo]
 unfold zkl;rw [<-zfL oo];assumption
structure DSign where
 kind:Int
 text:ByteArray
 at_:Int
def DSign.ext_iff {x y:DSign}:x=y↔(x.kind=y.kind/\x.text=y.text/\x.at_=y.at_):=⟨λh=>by rw [h];exact ⟨rfl,rfl,rfl⟩,λh=>by obtain ⟨h0,h1,h2⟩:=h;cases x;cases y;simp only at h0 h1 h2;simp only [h0,h1,h2]⟩
instance:DecidableEq DSign:=λx y=>decidable_of_iff (x.kind=y.kind/\x.text=y.text/\x.at_=y.at_) DSign.ext_iff.symm
instance:Rep DSign:=Rep.via λx=>(x.kind,x.text,x.at_)
def zwf {x:DSign} (h:At w b o x):At w b (o+0) x.kind:=zcn (α:=Int) (β:=ByteArray×Int) (p:=(x.kind,x.text,x.at_)) h
def zkr {x:DSign} (h:At w b o x):At w b (o+1) x.text:=zcn (α:=ByteArray) (β:=Int) (p:=(x.text,x.at_)) (za7 (α:=Int) (β:=ByteArray×Int) (p:=(x.kind,x.text,x.at_)) h)
instance:RepZ DSign:=⟨⟨(RepZ.zv:Int),(RepZ.zv:ByteArray),(RepZ.zv:Int)⟩,RepZ.zc (Int×ByteArray×Int),λw=>RepZ.zr (α:=Int×ByteArray×Int) w⟩
def zBm {x:DSign} (h_kind:I64 x.kind) (h_text:x.text.size<=maxLen) (h_at_:I64 x.at_):Mine [] w (.agg #[.int .i64 x.kind,.string x.text,.int .i64 x.at_]) x:=⟨⟨[.int .i64 x.kind,.string x.text,.int .i64 x.at_],⟨[],[],[.int .i64 x.kind],[.string x.text,.int .i64 x.at_],rfl,rfl,⟨rfl,rfl,h_kind⟩,⟨[],[],[.string x.text],[.int .i64 x.at_],rfl,rfl,⟨rfl,rfl,h_text⟩,⟨rfl,rfl,h_at_⟩⟩⟩,rfl⟩,qav,Wr.nil w⟩
instance:Flat DSign:=⟨λh=>Flat.flat (α:=Int×ByteArray×Int) h⟩
def zge (v:vL) (e:Int) (i left:Nat):List vL:=[v,.int .i64 (i:Int),.int .i64 e,.int .i64 0,.int .i64 0,.int .i64 (left:Int)]
structure RdS (W:wD) (g:Nat) (L:List DSign) (v:vL) (e:Int) (i left:Nat) (w:wD):Prop where
 is_:Is W v L
 ext:Ext W w
 lo:W.heap.size<=g
 blk:Blk g 132 w (zge v e i left)
 many:L.length<=1000000
def RdS.step {L:List DSign} {e:Int} {i left:Nat} (h:RdS W g L v e i left w) (hx:Ext w w'):RdS W g L v e i left w':=⟨h.is_,h.ext.trans hx,h.lo,h.blk.ext hx,h.many⟩
def sgT (L:List DSign) (i:Nat):ByteArray:=match L[i]? with | some x=>x.text | none=>ByteArray.empty
def sgK (L:List DSign) (i:Nat):Int:=match L[i]? with | some x=>x.kind | none=>0
def zti {L:List DSign} (h:i<L.length):L[i].text=sgT L i:=by unfold sgT;rw [List.getElem?_eq_getElem h]
def zED {L:List DSign} (h:i<L.length):L[i].kind=sgK L i:=by unfold sgK;rw [List.getElem?_eq_getElem h]
section
variable {W w:wD} {g:Nat} {L:List DSign} {v:vL} {e:Int} {i left:Nat}
def zdI {t:ByteArray} (h:RdS W g L v e i left w) :
   CALL tp 92 [.pointer (some ⟨g,0,none⟩),.string t] w λr w'=>Ext w w'/\r=.bool (decide (i<L.length/\sgT L i=t)):=by
 refine co (g:=kf [] [] [(1,[0,1,2,3,4,5,6,7,8,9,10,11,12,13,14,15,16,17,18,19,20,21,22,23,24,25,26,27,28,29,30,31,32,33],0)]) Tryz.func92 ?_;have g0:=zag w;have hB:=h.blk.ext g0;have hW:=h.ext.trans g0;refine NIL.mk rfl<|zaa zl0<|zaa zq3<|zan ty3 hB rfl<|zai<|br (λ_=>?_) (λhn=>absurd rfl hn);refine NIL.mk rfl<|zaa zeF<|zan ty3 hB rfl<|NIL.mk rfl<|zaa ziE<|zan zs6 hB rfl<|zae zBc h.is_<|zaf<|br (λ_=>?_) (λg1=>⟨g0,?_⟩)
 . have hi:i<L.length:=oo;refine NIL.mk rfl<|zaa ziE<|zan zs6 hB rfl<|NIL.mk rfl<|zaa zeF<|zan ty3 hB rfl<|zad zBc zq5 h.is_ hi λ_ _ hA=>zaa zpr<|zar ty9 (zkr hA) hW λ_=>zaQ<|⟨g0,?_⟩;rw [zti hi];congr 1;rw [decide_eq_decide];exact ⟨λh=>⟨hi,h⟩,λh=>h.2⟩
 rw [decide_eq_false (λh=>g1 oo)]
def zeM {t:ByteArray} (h:RdS W g L v e i left w) (hi:i<L.length) (ht:sgT L i=t) :
   CALL tp 94 [.pointer (some ⟨g,0,none⟩),.string t] w λ_ w'=>ChgI g (g+1) w w'/\RdS W g L v e (i+1) left w':=by
 refine co (g:=kf [] [] []) Tryz.func94 ?_;refine (zdI (t:=t) h).mono ?_;rintro _ _ ⟨g0,rfl⟩;refine zav<|br (λhn=>absurd ⟨hi,ht⟩ hn) (λ_=>?_);have h1:=h.step g0;have:=h.many;refine NIL.mk rfl<|zaa zeF<|zan ty3 h1.blk rfl<|zau<|NIL.mk rfl<|zaa zeF<|za3 (α:=Int) (lo:=0) (hi:=0) ty3 rfl rfl h1.blk (by simp [zge]) (zbI io) λ_ g1 g2=>⟨g0.toI.trans g1,h.is_,h1.ext.chgI g1 h.lo,h.lo,g2,h.many⟩
def named (L:List DSign) (i:Nat):Bool:=decide (i<L.length/\sgK L i=1)&&zbD (sgT L i)
def ziP (h:RdS W g L v e i left w) :
   CALL tp 155 [.pointer (some ⟨g,0,none⟩)] w λr w'=>Ext w w'/\r=.bool (named L i):=by
 refine co (g:=kf [] [] [(1,[0,1,2,3,4,5,6,7,8,9,10,11,12,13,14,15,16,17,18,19,20,21,22,23,24,25,26,27,28,29,30,31,32,33,34,35,36,37,38,39,40,41,42,43,44,45,46],0)]) Tryz.func155 ?_;have C:=zag w;have hB:=h.blk.ext C;have hW:=h.ext.trans C;refine NIL.mk rfl<|zaa zl0<|zaa zq3<|zan ty3 hB rfl<|zai<|br (λ_=>?_) (λhn=>absurd rfl hn);refine NIL.mk rfl<|zaa zeF<|zan ty3 hB rfl<|NIL.mk rfl<|zaa ziE<|zan zs6 hB rfl<|zae zBc h.is_<|zaf<|br (λ_=>?_) (λg0=>⟨C,?_⟩)
 . have hi:i<L.length:=oo;refine NIL.mk rfl<|zaa ziE<|zan zs6 hB rfl<|NIL.mk rfl<|zaa zeF<|zan ty3 hB rfl<|zad zBc zq5 h.is_ hi λb o hA=>zaa zyw<|zac ty3 (zwf hA) hW λ_=>zai ?_;rw [zED hi];refine br (λhk=>?_) (λhk=>⟨C,?_⟩)
   . refine NIL.mk rfl ?_;refine zaa ziE<|zan zs6 hB rfl<|NIL.mk rfl<|zaa zeF<|zan ty3 hB rfl<|zad zBc zq5 h.is_ hi λb o hA=>zaa zpr<|zar ty9 (zkr hA) hW λ_=>?_;rw [zti hi];refine specIsName_ok.mono ?_;rintro _ _ ⟨g1,rfl⟩;refine ⟨C.t g1,?_⟩;unfold named;rw [decide_eq_true (show i<L.length/\sgK L i=1 from ⟨hi,hk⟩)];rfl
   unfold named;rw [decide_eq_false (λh=>hk h.2)];rfl
 unfold named;rw [decide_eq_false (λh=>g0 oo)];rfl
def zks (h:RdS W g L v e i left w) (hn:named L i=true) :
   CALL tp 95 [.pointer (some ⟨g,0,none⟩)] w λr w'=>ChgI g (g+1) w w'/\RdS W g L v e (i+1) left w'/\r=.string (sgT L i):=by
 have hi:i<L.length:=by
   unfold named at hn;rw [qar] at hn;exact (of_decide_eq_true hn.1).1
 refine co (g:=kf [] [] [(5,[0,1,2,3,4,5,6,7,8,9,10,11,12],0)]) Tryz.func95 ?_;refine (ziP h).mono ?_;rintro _ _ ⟨g0,rfl⟩;refine za2 ?_;rw [hn];refine zbX (λh=>by cases h) (λ_=>?_);have h1:=h.step g0;have:=h.many;refine NIL.mk rfl<|zaa zeF<|zan ty3 h1.blk rfl<|zau<|NIL.mk rfl<|zaa zeF<|za3 (α:=Int) (lo:=0) (hi:=0) ty3 rfl rfl h1.blk (by simp [zge]) (zbI io) λw2 g1 g3=>?_;have h2:RdS W g L v e (i+1) left w2:=⟨h.is_,h1.ext.chgI g1 h.lo,h.lo,g3,h.many⟩;have g2:=zag w2;have h3:=h2.step g2;refine NIL.mk rfl<|zaa ziE<|zan zs6 h3.blk rfl<|NIL.mk rfl<|zaa zeF<|zan ty3 h3.blk rfl<|zbe io ?_;rw [show ((i+1:Nat):Int)-1=(i:Int) by omega];refine zad zBc zq5 h.is_ hi λ_ _ hA=>zaa zpr<|zar ty9 (zkr hA) h3.ext λ_=>?_;rw [zti hi];exact ⟨(g0.toI.trans g1).trans g2.toI,h3,rfl⟩
end
section
variable {w:wD} {lo hi l0 h0 l1 h1:Nat} {K:vL->Prop}
def zdP {α:Type} [Rep α] {v:vL} {l:List α} (h:OwnI lo hi w v l):∃ a cap,v=.slice a l.length cap:=by
 obtain ⟨_,⟨⟨_,⟨a,cap,_,_,rfl,_⟩,hv⟩,_⟩,_⟩:=h;exact ⟨a,cap,by simpa [mkv,Rep.agg] using hv⟩
def zb1 {α:Type} [Rep α]:OwnI (α:=List α) lo hi w (.slice none 0 0) []:=zc8 none
def zjv:I64 0:=by unfold I64;omega
def zhs:nO.size<=maxLen:=by decide
def ztj {a b:Int} (ha:I64 a) (hb:I64 b) (k:∀ v,OwnI lo hi w v (DTerm.mk a b nO [])->K v):RD tp (Instr.build 149 #[(0,.int .i64 a),(1,.int .i64 b)]) w K:=
 zaF (cells:=#[.int .i64 a,.int .i64 b,.string nO,.slice none 0 0]) kK (k _ (zgq ha hb zhs zb1))
def ztk {a:Int} {s:ByteArray} (ha:I64 a) (hs:s.size<=maxLen) (k:∀ v,OwnI lo hi w v (DTerm.mk a 0 s [])->K v):RD tp (Instr.build 149 #[(0,.int .i64 a),(2,.string s)]) w K:=
 zaF (cells:=#[.int .i64 a,.int .i64 0,.string s,.slice none 0 0]) kK (k _ (zgq ha zjv hs zb1))
def zmp {a:Int} {u:vL} {l:List DTerm} (ha:I64 a) (hu:OwnI lo hi w u l) (k:∀ v,OwnI lo hi w v (DTerm.mk a 0 nO l)->K v):RD tp (Instr.build 149 #[(0,.int .i64 a),(3,u)]) w K:=by
 obtain ⟨p,q,rfl⟩:=zdP hu;exact zaF (cells:=#[.int .i64 a,.int .i64 0,.string nO,.slice p l.length q]) kK (k _ (zgq ha zjv zhs hu))
def zfw:OwnI lo hi w (.agg #[.int .i64 0,.int .i64 0,.string nO,.slice none 0 0]) term0:=zgq zjv zjv zhs zb1
def mkS {k:Int} {s:ByteArray} {t:DTerm} {c0 c1 c2 c3 vb ve:vL} {bs es:List DStmt} {l0 h0 l1 h1 l2 h2:Nat} (hk:I64 k) (hs:s.size<=maxLen) (ht:OwnI l0 h0 w (.agg #[c0,c1,c2,c3]) t) (hb:OwnI l1 h1 w vb bs) (he:OwnI l2 h2 w ve es)
   (d01:h0<=l1\/h1<=l0) (d02:h0<=l2\/h2<=l0) (d12:h1<=l2\/h2<=l1) (b0:lo<=l0/\h0<=hi) (b1:lo<=l1/\h1<=hi) (b2:lo<=l2/\h2<=hi) :
   OwnI lo hi w (.agg #[.int .i64 k,.string s,c0,c1,c2,c3,vb,ve]) (DStmt.mk k s t bs es):=zxS hk hs ht hb he d01 d02 d12 b0 b1 b2
def zok {a:Int} (hl:lo<=hi) (ha:I64 a) (k:∀ v,OwnI lo hi w v (DStmt.mk a nO term0 [] [])->K v):RD tp (Instr.build 197 #[(0,.int .i64 a)]) w K:=
 zaF (cells:=#[.int .i64 a,.string nO,.int .i64 0,.int .i64 0,.string nO,.slice none 0 0,.slice none 0 0,.slice none 0 0]) kK
   (k _ (mkS (l0:=lo) (h0:=lo) (l1:=lo) (h1:=lo) (l2:=lo) (h2:=lo) ha zhs zfw zb1 zb1 oo oo oo oo oo oo))
def zdu {a:Int} {s:ByteArray} (hl:lo<=hi) (ha:I64 a) (hs:s.size<=maxLen) (k:∀ v,OwnI lo hi w v (DStmt.mk a s term0 [] [])->K v):RD tp (Instr.build 197 #[(0,.int .i64 a),(1,.string s)]) w K:=
 zaF (cells:=#[.int .i64 a,.string s,.int .i64 0,.int .i64 0,.string nO,.slice none 0 0,.slice none 0 0,.slice none 0 0]) kK
   (k _ (mkS (l0:=lo) (h0:=lo) (l1:=lo) (h1:=lo) (l2:=lo) (h2:=lo) ha hs zfw zb1 zb1 oo oo oo oo oo oo))
def zrb {a:Int} {s:ByteArray} {u:vL} {t:DTerm} (hl:lo<=hi) (ha:I64 a) (hs:s.size<=maxLen) (hu:OwnI lo hi w u t) (k:∀ v,OwnI lo hi w v (DStmt.mk a s t [] [])->K v):RD tp (Instr.build 197 #[(0,.int .i64 a),(1,.string s),(2,u)]) w K:=by
 obtain ⟨p,q,rfl⟩:=zhX hu.is
 exact zaF (cells:=#[.int .i64 a,.string s,.int .i64 t.kind,.int .i64 t.num,.string t.name,.slice p t.kids.length q,.slice none 0 0,.slice none 0 0]) kK
   (k _ (mkS (l1:=lo) (h1:=lo) (l2:=lo) (h2:=lo) ha hs hu zb1 zb1 oo oo oo oo oo oo))
def zk5 {a:Int} {u v1:vL} {t:DTerm} {bs:List DStmt} (ha:I64 a) (hu:OwnI l0 h0 w u t) (hv:OwnI l1 h1 w v1 bs) (d:h0<=l1\/h1<=l0) (b0:lo<=l0/\h0<=hi) (b1:lo<=l1/\h1<=hi) (hl:lo<=hi)
   (k:∀ v,OwnI lo hi w v (DStmt.mk a nO t bs [])->K v):RD tp (Instr.build 197 #[(0,.int .i64 a),(2,u),(3,v1)]) w K:=by
 obtain ⟨p,q,rfl⟩:=zhX hu.is;obtain ⟨p2,q2,rfl⟩:=zdP hv;refine zaF (cells:=#[.int .i64 a,.string nO,.int .i64 t.kind,.int .i64 t.num,.string t.name,.slice p t.kids.length q,.slice p2 bs.length q2,.slice none 0 0]) kK (k _ ?_);rcases d with d | d
 . exact mkS (l2:=min lo l0) (h2:=min lo l0) ha zhs hu hv zb1 (.inl d) oo oo b0 b1 oo
 exact mkS (l2:=min lo l0) (h2:=min lo l0) ha zhs hu hv zb1 (.inr d) oo oo b0 b1 oo
end
section
variable {bs:List UInt8} {n:Nat} {s:Cur}
theorem zrc (h:zfI bs n s<3):zaw bs n s=(.mk 1 (zkl bs zEw (zao bs 12 s)) nO [],zao bs 8 (zao bs 12 s)):=by
 cases n with
 | zero=>rw [zaw,qah h]
 | succ n=>rw [zaw,qah h]
theorem zrd (h:¬zfI bs n s<3) (h2:zfI bs n s<6):zaw bs n s=(.mk 2 0 (zdi bs zxo (zao bs 12 s)) [],zao bs 5 (zao bs 12 s)):=by
 cases n with
 | zero=>rw [zaw,qab h]
 | succ n=>rw [zaw,qab h,qah h2]
theorem zfZ (h2:¬zfI bs n s<6):0<n:=by
 cases n with
 | zero=>have:=zEx bs s;omega
 | succ n=>omega
def zre (h:¬zfI bs n s<3) (h2:¬zfI bs n s<6) (h3:zfI bs n s=6):zaw bs n s=(.mk 8 0 nO [(zaw bs (n-1) (zao bs 12 s)).1],(zaw bs (n-1) (zao bs 12 s)).2):=by
 have:=zfZ h2;obtain ⟨m,rfl⟩:∃ m,n=m+1:=⟨n-1,oo⟩;rw [zaw,qab h,qab h2,qah h3];rfl
def zrf (h:¬zfI bs n s<3) (h2:¬zfI bs n s<6) (h3:¬zfI bs n s=6):zaw bs n s=(.mk (zkl bs opL (zao bs 12 s)) 0 nO [(zaw bs (n-1) (zao bs 6 (zao bs 12 s))).1,(zaw bs (n-1) (zaw bs (n-1) (zao bs 6 (zao bs 12 s))).2).1],
     (zaw bs (n-1) (zaw bs (n-1) (zao bs 6 (zao bs 12 s))).2).2):=by
 have:=zfZ h2;obtain ⟨m,rfl⟩:∃ m,n=m+1:=⟨n-1,oo⟩;rw [zaw,qab h,qab h2,qab h3];rfl
end
def zDt (n:Nat):Prop:=∀ {W w:wD} {g:Nat} {bs:List UInt8} {s:Cur} {d:Int},CurAt W g bs s w->d=(n:Int) ->
 CALL tp 276 [.pointer (some ⟨g,0,none⟩),.int .i64 d] w λr w'=>ChgI g (g+1) w w'/\CurAt W g bs (zaw bs n s).2 w'/\OwnI w.heap.size w'.heap.size w' r (zaw bs n s).1
def zrg {bs:List UInt8} {s:Cur} (hC:CurAt W g bs s w) (hd:d=(n:Int)) (ih:∀ m,m+1=n->zDt m) (hn:n<=10) :
   CALL tp 276 [.pointer (some ⟨g,0,none⟩),.int .i64 d] w λr w'=>ChgI g (g+1) w w'/\(CurAt W g bs (zaw bs n s).2 w'/\OwnI w.heap.size w'.heap.size w' r (zaw bs n s).1):=by
 refine co (g:=kf [(4,65312,[5])] [] []) Tryz.func276 ?_;have:=hC.lt;have:=zcI bs (n:=12) oo s;refine zeC (α:=DTerm) zv5 λha y1 gN=>?_;have:=gN.lt;have σ1:=y1.size;refine (zcM (CurAt.ext hC y1) oo).mono ?_;rintro _ gF ⟨V,g5,rfl⟩;have gl:=V.size;have gl:=V.size;have hv4_c2:=(gN.ext (xrf ha)).chg V oo oo;refine JOIN.mk (λus w'=>us=[.int .i64 (zfI bs n s)]/\Ext gF w'/\(True)) ?_ ?_
 . refine zew ?_;refine br (λc1=>?_) (λc1=>?_)
   . refine zb9 ?_;refine br (λc2=>?_) (λc2=>?_)
     . refine zbe io ?_;refine ⟨by unfold zfI;rw [qah oo],xrf gF,?_⟩;trivial
     refine ⟨by unfold zfI;rw [qab oo],xrf gF,?_⟩;trivial
   refine ⟨by unfold zfI;rw [qab oo],xrf gF,?_⟩;trivial
 rintro _ hb ⟨hu,y3,_⟩;have σ3:=y3.size;try replace hu:=zbv hu
 try rw [hu]
 try clear hu
 refine zaf<|br (λc3=>?_) (λc3=>?_)
 . refine zfK (vs:=([0,1,2,3,7,999,1000,1000000000]:List Int).map (Value.int .i64)) u25 ty3 zBl qd kK rfl (λw=>zgv (by simp [I64])) λ_ gO y4 gP=>?_;have σ4:=y4.size;refine (zju (CurAt.ext (CurAt.ext g5 y3) y4) (gP.ext (xrf gO)) oo oo oo qd qd).mono ?_;rintro _ gi ⟨Z,gH,rfl,_⟩;have gp:=Z.size;have gp:=Z.size;have hv4_c5:=(hv4_c2.ext (y3.t y4)).chg Z oo oo;have o20_c5:=(gP.ext (xrf gO)).chg Z oo;refine ztj (lo:=gi.heap.size) (hi:=gi.heap.size) (by first | assumption | (unfold I64;omega)) (by first | assumption | (unfold I64;omega)) λ_ gQ=>zbH zbl (hv4_c5.ext (xrf gi)) (gQ.ext (xrf gi)) oo λgR g0 hv4_s6=>?_;have gS:=g0.size;have:=(o20_c5.ext (xrf gi)).chg g0 oo;have:=(gQ.ext (xrf gi)).chg g0 oo;refine zcR zbl hv4_s6 (xrf gR) λr4 X=>?_;replace X:=X.ext (xrf gR);refine ⟨(ChgI.out (ChgI.trans (ChgI.trans (ChgI.trans (ChgI.trans (Ext.toI y1) V) (Ext.toI y3)) (Ext.toI y4)) Z) g0 oo),?_⟩;rw [zrc oo];exact ⟨(CurAt.chg gH g0 oo oo),X.mono oo oo⟩
 refine zaf<|br (λc4=>?_) (λc4=>?_)
 . refine zfK (vs:=([ByteArray.mk #[120],ByteArray.mk #[121],ByteArray.mk #[122],ByteArray.mk #[120],ByteArray.mk #[117]]:List ByteArray).map Value.string) u24 ty9 zcA qd kK rfl (λw=>zcH qd) λ_ gU y7 gV=>?_;have σ7:=y7.size;refine (zdH (CurAt.ext (CurAt.ext g5 y3) y7) (gV.ext (xrf gU)) oo oo oo qd qd).mono ?_;rintro _ gj ⟨g1,gI,rfl,_⟩;have gq:=g1.size;have gq:=g1.size;have hv4_c8:=(hv4_c2.ext (y3.t y7)).chg g1 oo oo;have o27_c8:=(gV.ext (xrf gU)).chg g1 oo;refine ztk (lo:=gj.heap.size) (hi:=gj.heap.size) (by first | assumption | (unfold I64;omega)) (by first | assumption | decide) λ_ gW=>zbH zbl (hv4_c8.ext (xrf gj)) (gW.ext (xrf gj)) oo λgX g2 hv4_s9=>?_;have gY:=g2.size;have:=(o27_c8.ext (xrf gj)).chg g2 oo;have:=(gW.ext (xrf gj)).chg g2 oo;refine zcR zbl hv4_s9 (xrf gX) λr4 X=>?_;replace X:=X.ext (xrf gX);refine ⟨(ChgI.out (ChgI.trans (ChgI.trans (ChgI.trans (ChgI.trans (Ext.toI y1) V) (Ext.toI y3)) (Ext.toI y7)) g1) g2 oo),?_⟩;rw [zrd oo oo];exact ⟨(CurAt.chg gI g2 oo oo),X.mono oo oo⟩
 refine zai<|br (λc5=>?_) (λc5=>?_)
 . refine zbe io ?_;have hc:=zfZ (show ¬zfI bs n s<6 by omega);refine (ih (n-1) oo (CurAt.ext g5 y3) oo).mono ?_;rintro _ gJ ⟨Y,gr,gZ⟩;have gb:=Y.size;have gb:=Y.size;have hv4_c10:=(hv4_c2.ext y3).chg Y oo oo;refine zgr (α:=DTerm) zio zbl zHe qd (gZ.ext (xrf gJ)) oo λ_ g3 gs h2=>?_;have σ11:=gs.size;refine zmp (lo:=hb.heap.size) (hi:=g3.heap.size) (by first | assumption | (unfold I64;omega)) (h2.ext (xrf g3)) λ_ h4=>zbH zbl (hv4_c10.ext gs) (h4.ext (xrf g3)) oo λgt D hv4_s12=>?_;have gK:=D.size;have:=(gZ.ext gs).chg D oo;have:=(h2.ext (xrf g3)).chg D oo;have:=(h4.ext (xrf g3)).chg D oo;refine zcR zbl hv4_s12 (xrf gt) λr4 X=>?_;replace X:=X.ext (xrf gt);refine ⟨(ChgI.out (ChgI.trans (ChgI.trans (ChgI.trans (ChgI.trans (Ext.toI y1) V) (Ext.toI y3)) Y) (Ext.toI gs)) D oo),?_⟩;rw [zre oo oo oo];exact ⟨(CurAt.chg (CurAt.ext gr gs) D oo oo),X.mono oo oo⟩
 refine zfK (vs:=([3,4,5,6,7,9]:List Int).map (Value.int .i64)) u25 ty3 zBl qd kK rfl (λw=>zgv (by simp [I64])) λ_ gx gG h5=>?_;have σ13:=gG.size;refine (zju (CurAt.ext (CurAt.ext g5 y3) gG) (h5.ext (xrf gx)) oo oo oo qd qd).mono ?_;rintro _ g9 ⟨O,gy,rfl,_⟩;have gc:=O.size;have gc:=O.size;have hv4_c14:=(hv4_c2.ext (y3.t gG)).chg O oo oo;have o40_c14:=(h5.ext (xrf gx)).chg O oo;refine zbe io ?_;have hc:=zfZ (show ¬zfI bs n s<6 by omega);refine (ih (n-1) oo gy oo).mono ?_;rintro _ gd ⟨U,gz,he⟩;have gf:=U.size;have gf:=U.size;have hv4_c15:=(hv4_c14.ext (xrf g9)).chg U oo oo;have o40_c15:=(o40_c14.ext (xrf g9)).chg U oo;refine zbe io ?_;refine (ih (n-1) oo gz oo).mono ?_;rintro _ gC ⟨I,gD,h6⟩;have gg:=I.size;have gg:=I.size;have hv4_c16:=(hv4_c15.ext (xrf gd)).chg I oo oo;have o40_c16:=(o40_c15.ext (xrf gd)).chg I oo;have o45_c16:=(he.ext (xrf gd)).chg I oo;refine zwd (α:=DTerm) (lo:=g9.heap.size) zio zbl zHe qd (o45_c16.ext (xrf gC)) (h6.ext (xrf gC)) oo oo λ_ g4 gh h8=>?_;have σ17:=gh.size;refine zmp (lo:=g9.heap.size) (hi:=g4.heap.size) (by first | assumption | (unfold I64;omega)) (h8.ext (xrf g4)) λ_ h9=>zbH zbl (hv4_c16.ext gh) (h9.ext (xrf g4)) oo λgE C hv4_s18=>?_;have gM:=C.size;have:=(o40_c16.ext gh).chg C oo;have:=(o45_c16.ext gh).chg C oo;have:=(h6.ext gh).chg C oo;have:=(h8.ext (xrf g4)).chg C oo;have:=(h9.ext (xrf g4)).chg C oo;refine zcR zbl hv4_s18 (xrf gE) λr4 X=>?_;replace X:=X.ext (xrf gE);refine ⟨(ChgI.out (ChgI.trans (ChgI.trans (ChgI.trans (ChgI.trans (ChgI.trans (ChgI.trans (ChgI.trans (Ext.toI y1) V) (Ext.toI y3)) (Ext.toI gG)) O) U) I) (Ext.toI gh)) C oo),?_⟩;rw [zrf oo oo oo];exact ⟨(CurAt.chg (CurAt.ext gD gh) C oo oo),X.mono oo oo⟩
theorem zh0:∀ (n:Nat),n<=10->zDt n
 | n,hn=>by
   intro h hd;exact zrg h hd (λm hm=>zh0 m oo) hn
section
variable {bs:List UInt8} {n:Nat} {s:Cur}
theorem zfx (h:zgs bs n s<11):zcr bs n s=zhp bs (zgs bs n s) (zao bs 14 s):=by
 cases n with
 | zero=>rw [zcr]
 | succ n=>rw [zcr,qah h]
theorem zht (h:¬zgs bs n s<11):0<n:=by
 cases n with
 | zero=>have:=zEz bs s;omega
 | succ n=>omega
def zkt (h:¬zgs bs n s<11):zcr bs n s=zoh bs (zcr bs (n-1)) (zgs bs n s) (zao bs 14 s):=by
 have:=zht h;obtain ⟨m,rfl⟩:∃ m,n=m+1:=⟨n-1,oo⟩;rw [zcr,qab h];rfl
def zBn {f:Cur->DStmt×Cur} {bs:List UInt8} {k:Nat} {s:Cur} (hk:k<=3) (h:(k:Int)<zbb bs 4 s) :
   zeJ f bs (4-k) k s=((f (zao bs 4 s)).1 :: (zeJ f bs (4-(k+1)) (k+1) (f (zao bs 4 s)).2).1,(zeJ f bs (4-(k+1)) (k+1) (f (zao bs 4 s)).2).2):=by
 rw [show 4-k=(4-(k+1))+1 by omega,zeJ,qah h]
def zwg {f:Cur->DStmt×Cur} {bs:List UInt8} {k:Nat} {s:Cur} (hk:k<=3) (h:¬(k:Int)<zbb bs 4 s):zeJ f bs (4-k) k s=([],zao bs 4 s):=by
 rw [show 4-k=(4-(k+1))+1 by omega,zeJ,qab h]
end
def zuH (n:Nat):Prop:=∀ {W w:wD} {g:Nat} {bs:List UInt8} {s:Cur} {d:Int},CurAt W g bs s w->d=(n:Int) ->
 CALL tp 261 [.pointer (some ⟨g,0,none⟩),.int .i64 d] w λr w'=>ChgI g (g+1) w w'/\CurAt W g bs (zcr bs n s).2 w'/\OwnI w.heap.size w'.heap.size w' r (zcr bs n s).1
def zyM (n:Nat):Prop:=∀ {W w:wD} {g:Nat} {bs:List UInt8} {s:Cur} {d:Int},CurAt W g bs s w->d=(n:Int) ->
 CALL tp 209 [.pointer (some ⟨g,0,none⟩),.int .i64 d] w λr w'=>ChgI g (g+1) w w'/\CurAt W g bs (zbw bs n s).2 w'/\RowI w.heap.size w'.heap.size 197 w' r (zbw bs n s).1
def zk6 {bs:List UInt8} {s:Cur} (hC:CurAt W g bs s w) (hd:d=(n:Int)) (ih:zuH n) :
   CALL tp 209 [.pointer (some ⟨g,0,none⟩),.int .i64 d] w λr w'=>ChgI g (g+1) w w'/\(CurAt W g bs (zbw bs n s).2 w'/\RowI w.heap.size w'.heap.size 197 w' r (zbw bs n s).1):=by
 refine co (g:=kf [] [(3,1048416,[5,6])] []) Tryz.func209 ?_;have:=hC.lt;refine zaD (α:=DStmt) zf9 zb6 λ_ g5 y1 _=>?_;have σ1:=y1.size;refine zap (4) (λk us w'=>∃ (v:vL) (s1:Cur) (l1:List DStmt),us=[v,.int .i64 (k:Int)]/\ChgI g (g+1) g5 w'/\(CurAt W g bs s1 w'/\RowI g5.heap.size w'.heap.size 197 w' v l1/\zbw bs n s=(l1++(zeJ (zcr bs n) bs (4-k) k s1).1,(zeJ (zcr bs n) bs (4-k) k s1).2)/\l1.length<=k/\k<=3)) (0) oo ⟨_,s,[],rfl,(ChgI.refl g5),⟨hC.ext y1,zcd _ _ _ _ _,by unfold zbw;simp,sS,oo⟩⟩ ?_;rintro k m3 _ gi _ ⟨_,s1,l1,hu,y2,gj,g0,g4,_,gc⟩;have σ2:=y2.size;obtain ⟨gd,gf⟩:=zcZ hu;try rw [gd]
 try rw [gf]
 try clear gd gf
 have:=zcI bs (n:=4) oo s1;refine (zcM gj oo).mono ?_;rintro _ gl ⟨C,g1,rfl⟩;have g2:=C.size;have g2:=C.size;have hrow_c3:=(g0.ext (xrf gi)).chg C oo;refine zaf<|br (λc1=>?_) (λc1=>?_)
 . refine (ih g1 hd).mono ?_;rintro _ g9 ⟨D,gb,gg⟩;have g3:=D.size;have g3:=D.size;have hrow_c4:=(hrow_c3.ext (xrf gl)).chg D oo;refine zbM (α:=DStmt) zf9 zb6 zEr zs9 qd (hrow_c4.ext (xrf g9)) oo (gg.ext (xrf g9)) oo oo (by rw [zaj];omega) oo λ_ _ I gp=>?_;have gh:=I.size;have:=(gg.ext (xrf g9)).chg I oo;refine zau<|⟨m3-1,oo,k+1,oo,_,(zcr bs n (zao bs 4 s1)).2,l1++[(zcr bs n (zao bs 4 s1)).1],rfl,(ChgI.out (ChgI.trans (ChgI.trans y2 C) D) I oo),?_⟩;rw [zBn gc oo] at g4;exact ⟨(CurAt.chg gb I oo oo),gp,by rw [g4];simp,by simp;omega,oo⟩
 refine ⟨(ChgI.trans (ChgI.trans (Ext.toI y1) y2) C),?_⟩;rw [zwg gc oo] at g4;rw [g4];simp only [qaF];exact ⟨g1,(g0.chg C oo).mono oo oo⟩
def zk7 {bs:List UInt8} {s:Cur} (hC:CurAt W g bs s w) (hd:d=(n:Int)) (ih:∀ m,m+1=n->zyM m) (hn:n<=10) :
   CALL tp 261 [.pointer (some ⟨g,0,none⟩),.int .i64 d] w λr w'=>ChgI g (g+1) w w'/\(CurAt W g bs (zcr bs n s).2 w'/\OwnI w.heap.size w'.heap.size w' r (zcr bs n s).1):=by
 refine co (g:=kf [(4,130592,[5])] [] []) Tryz.func261 ?_;have:=hC.lt;have:=zcI bs (n:=14) oo s;refine zeC (α:=DStmt) zv6 λjl y1 hY=>?_;have:=hY.lt;have σ1:=y1.size;refine (zcM (CurAt.ext hC y1) oo).mono ?_;rintro _ hz ⟨Z,g3,rfl⟩;have gV:=Z.size;have gV:=Z.size;have hv4_c2:=(hY.ext (xrf jl)).chg Z oo oo;refine JOIN.mk (λus w'=>us=[.int .i64 (zgs bs n s)]/\Ext hz w'/\(True)) ?_ ?_
 . refine zew ?_;refine br (λc1=>?_) (λc1=>?_)
   . refine zb9 ?_;refine br (λc2=>?_) (λc2=>?_)
     . refine zbe io ?_;refine ⟨by unfold zgs;rw [qah oo],xrf hz,?_⟩;trivial
     refine ⟨by unfold zgs;rw [qab oo],xrf hz,?_⟩;trivial
   refine ⟨by unfold zgs;rw [qab oo],xrf hz,?_⟩;trivial
 rintro _ gG ⟨hu,y3,_⟩;have σ3:=y3.size;try replace hu:=zbv hu
 try rw [hu]
 try clear hu
 refine zaf<|br (λc3=>?_) (λc3=>?_)
 . refine zfK (vs:=([ByteArray.mk #[120],ByteArray.mk #[121],ByteArray.mk #[122]]:List ByteArray).map Value.string) u24 ty9 zcA qd kK rfl (λw=>zcH qd) λ_ hZ y4 j0=>?_;have σ4:=y4.size;refine (zdH (CurAt.ext (CurAt.ext g3 y3) y4) (j0.ext (xrf hZ)) oo oo oo qd qd).mono ?_;rintro _ hG ⟨gx,hH,rfl,_⟩;have gW:=gx.size;have gW:=gx.size;have hv4_c5:=(hv4_c2.ext (y3.t y4)).chg gx oo oo;have o21_c5:=(j0.ext (xrf hZ)).chg gx oo;refine ((zh0 2 oo) hH rfl).mono ?_;rintro _ gH ⟨gy,hI,j1⟩;have gX:=gy.size;have gX:=gy.size;have hv4_c6:=(hv4_c5.ext (xrf hG)).chg gy oo oo;have o21_c6:=(o21_c5.ext (xrf hG)).chg gy oo;refine zrb (lo:=hG.heap.size) (hi:=gH.heap.size) oo (by first | assumption | (unfold I64;omega)) (by first | assumption | decide) (j1.ext (xrf gH)) λ_ j2=>zbH zb6 (hv4_c6.ext (xrf gH)) (j2.ext (xrf gH)) oo λj3 gq hv4_s7=>?_;have j4:=gq.size;have:=(o21_c6.ext (xrf gH)).chg gq oo;have:=(j1.ext (xrf gH)).chg gq oo;have:=(j2.ext (xrf gH)).chg gq oo;refine zcR zb6 hv4_s7 (xrf j3) λr4 C=>?_;replace C:=C.ext (xrf j3);refine ⟨(ChgI.out (ChgI.trans (ChgI.trans (ChgI.trans (ChgI.trans (ChgI.trans (Ext.toI y1) Z) (Ext.toI y3)) (Ext.toI y4)) gx) gy) gq oo),?_⟩;rw [zfx oo,zhp,qah oo];exact ⟨(CurAt.chg hI gq oo oo),C.mono oo oo⟩
 refine zaf<|br (λc4=>?_) (λc4=>?_)
 . refine zfK (vs:=([ByteArray.mk #[97],ByteArray.mk #[98],ByteArray.mk #[109]]:List ByteArray).map Value.string) u24 ty9 zcA qd kK rfl (λw=>zcH qd) λ_ j5 y8 j6=>?_;have σ8:=y8.size;refine (zdH (CurAt.ext (CurAt.ext g3 y3) y8) (j6.ext (xrf j5)) oo oo oo qd qd).mono ?_;rintro _ gU ⟨gz,hJ,rfl,_⟩;have gY:=gz.size;have gY:=gz.size;have hv4_c9:=(hv4_c2.ext (y3.t y8)).chg gz oo oo;have o30_c9:=(j6.ext (xrf j5)).chg gz oo;refine zdu (lo:=gU.heap.size) (hi:=gU.heap.size) oo (by first | assumption | (unfold I64;omega)) (by first | assumption | decide) λ_ j7=>zbH zb6 (hv4_c9.ext (xrf gU)) (j7.ext (xrf gU)) oo λgZ g4 hv4_s10=>?_;have hL:=g4.size;have:=(o30_c9.ext (xrf gU)).chg g4 oo;have:=(j7.ext (xrf gU)).chg g4 oo;refine zcR zb6 hv4_s10 (xrf gZ) λr4 C=>?_;replace C:=C.ext (xrf gZ);refine ⟨(ChgI.out (ChgI.trans (ChgI.trans (ChgI.trans (ChgI.trans (Ext.toI y1) Z) (Ext.toI y3)) (Ext.toI y8)) gz) g4 oo),?_⟩;rw [zfx oo,zhp,qab oo,qah oo];exact ⟨(CurAt.chg hJ g4 oo oo),C.mono oo oo⟩
 refine zaf<|br (λc5=>?_) (λc5=>?_)
 . refine zfK (vs:=([ByteArray.mk #[97],ByteArray.mk #[98],ByteArray.mk #[109]]:List ByteArray).map Value.string) u24 ty9 zcA qd kK rfl (λw=>zcH qd) λ_ h2 hB j8=>?_;have σ11:=hB.size;refine (zdH (CurAt.ext (CurAt.ext g3 y3) hB) (j8.ext (xrf h2)) oo oo oo qd qd).mono ?_;rintro _ gr ⟨g5,h4,rfl,_⟩;have gI:=g5.size;have gI:=g5.size;have hv4_c12:=(hv4_c2.ext (y3.t hB)).chg g5 oo oo;have o37_c12:=(j8.ext (xrf h2)).chg g5 oo;refine zdu (lo:=gr.heap.size) (hi:=gr.heap.size) oo (by first | assumption | (unfold I64;omega)) (by first | assumption | decide) λ_ j9=>zbH zb6 (hv4_c12.ext (xrf gr)) (j9.ext (xrf gr)) oo λh5 g9 hv4_s13=>?_;have hM:=g9.size;have:=(o37_c12.ext (xrf gr)).chg g9 oo;have:=(j9.ext (xrf gr)).chg g9 oo;refine zcR zb6 hv4_s13 (xrf h5) λr4 C=>?_;replace C:=C.ext (xrf h5);refine ⟨(ChgI.out (ChgI.trans (ChgI.trans (ChgI.trans (ChgI.trans (Ext.toI y1) Z) (Ext.toI y3)) (Ext.toI hB)) g5) g9 oo),?_⟩;rw [zfx oo,zhp,qab oo,qab oo,qah oo];exact ⟨(CurAt.chg h4 g9 oo oo),C.mono oo oo⟩
 refine zai<|br (λc6=>?_) (λc6=>?_)
 . refine zfK (vs:=([ByteArray.mk #[112],ByteArray.mk #[113],ByteArray.mk #[114]]:List ByteArray).map Value.string) u24 ty9 zcA qd kK rfl (λw=>zcH qd) λ_ h6 hD ja=>?_;have σ14:=hD.size;refine (zdH (CurAt.ext (CurAt.ext g3 y3) hD) (ja.ext (xrf h6)) oo oo oo qd qd).mono ?_;rintro _ gs ⟨gb,h8,rfl,_⟩;have gJ:=gb.size;have gJ:=gb.size;have hv4_c15:=(hv4_c2.ext (y3.t hD)).chg gb oo oo;have o44_c15:=(ja.ext (xrf h6)).chg gb oo;refine zdu (lo:=gs.heap.size) (hi:=gs.heap.size) oo (by first | assumption | (unfold I64;omega)) (by first | assumption | decide) λ_ jb=>zbH zb6 (hv4_c15.ext (xrf gs)) (jb.ext (xrf gs)) oo λh9 gc hv4_s16=>?_;have hN:=gc.size;have:=(o44_c15.ext (xrf gs)).chg gc oo;have:=(jb.ext (xrf gs)).chg gc oo;refine zcR zb6 hv4_s16 (xrf h9) λr4 C=>?_;replace C:=C.ext (xrf h9);refine ⟨(ChgI.out (ChgI.trans (ChgI.trans (ChgI.trans (ChgI.trans (Ext.toI y1) Z) (Ext.toI y3)) (Ext.toI hD)) gb) gc oo),?_⟩;rw [zfx oo,zhp,qab oo,qab oo,qab oo,qah oo];exact ⟨(CurAt.chg h8 gc oo oo),C.mono oo oo⟩
 refine zai<|br (λc7=>?_) (λc7=>?_)
 . refine zfK (vs:=([ByteArray.mk #[112],ByteArray.mk #[113],ByteArray.mk #[114]]:List ByteArray).map Value.string) u24 ty9 zcA qd kK rfl (λw=>zcH qd) λ_ ha hF jc=>?_;have σ17:=hF.size;refine (zdH (CurAt.ext (CurAt.ext g3 y3) hF) (jc.ext (xrf ha)) oo oo oo qd qd).mono ?_;rintro _ gt ⟨gd,hb,rfl,_⟩;have gK:=gd.size;have gK:=gd.size;have hv4_c18:=(hv4_c2.ext (y3.t hF)).chg gd oo oo;have o51_c18:=(jc.ext (xrf ha)).chg gd oo;refine zdu (lo:=gt.heap.size) (hi:=gt.heap.size) oo (by first | assumption | (unfold I64;omega)) (by first | assumption | decide) λ_ jd=>zbH zb6 (hv4_c18.ext (xrf gt)) (jd.ext (xrf gt)) oo λhc gf hv4_s19=>?_;have hO:=gf.size;have:=(o51_c18.ext (xrf gt)).chg gf oo;have:=(jd.ext (xrf gt)).chg gf oo;refine zcR zb6 hv4_s19 (xrf hc) λr4 C=>?_;replace C:=C.ext (xrf hc);refine ⟨(ChgI.out (ChgI.trans (ChgI.trans (ChgI.trans (ChgI.trans (Ext.toI y1) Z) (Ext.toI y3)) (Ext.toI hF)) gd) gf oo),?_⟩;rw [zfx oo,zhp,qab oo,qab oo,qab oo,qab oo,qah oo];exact ⟨(CurAt.chg hb gf oo oo),C.mono oo oo⟩
 refine zai<|br (λc8=>?_) (λc8=>?_)
 . refine zok (lo:=gG.heap.size) (hi:=gG.heap.size) oo (by first | assumption | (unfold I64;omega)) λ_ je=>?_;refine zbH zb6 (hv4_c2.ext y3) (je.ext (xrf gG)) oo λhe gl hv4_s20=>?_;have hP:=gl.size;have:=(je.ext (xrf gG)).chg gl oo;refine zcR zb6 hv4_s20 (xrf he) λr4 C=>?_;replace C:=C.ext (xrf he);refine ⟨(ChgI.out (ChgI.trans (ChgI.trans (Ext.toI y1) Z) (Ext.toI y3)) gl oo),?_⟩;rw [zfx oo,zhp,qab oo,qab oo,qab oo,qab oo,qab oo];exact ⟨(CurAt.chg (CurAt.ext g3 y3) gl oo oo),C.mono oo oo⟩
 refine zai<|br (λc9=>?_) (λc9=>?_)
 . have hK:¬zgs bs n s<11:=by unfold zgs at *;split at*<;> omega
   have jm:=zht hK;refine ((zh0 1 oo) (CurAt.ext g3 y3) rfl).mono ?_;rintro _ hf ⟨gp,hg,jn⟩;have gM:=gp.size;have gM:=gp.size;have hv4_c21:=(hv4_c2.ext y3).chg gp oo oo;refine zbe io ?_;refine (ih (n-1) oo hg oo).mono ?_;rintro _ gg ⟨gh,hh,jf⟩;have gN:=gh.size;have gN:=gh.size;have hv4_c22:=(hv4_c21.ext (xrf hf)).chg gh oo oo;have o62_c22:=(jn.ext (xrf hf)).chg gh oo;refine zk5 (lo:=gG.heap.size) (hi:=gg.heap.size) (by first | assumption | (unfold I64;omega)) (o62_c22.ext (xrf gg)) (jf.own.ext (xrf gg)) oo oo oo oo λ_ jg=>zbH zb6 (hv4_c22.ext (xrf gg)) (jg.ext (xrf gg)) oo λhj g0 hv4_s23=>?_;have hQ:=g0.size;have:=(o62_c22.ext (xrf gg)).chg g0 oo;have:=(jf.ext (xrf gg)).chg g0 oo;have:=(jg.ext (xrf gg)).chg g0 oo;refine zcR zb6 hv4_s23 (xrf hj) λr4 C=>?_;replace C:=C.ext (xrf hj);refine ⟨(ChgI.out (ChgI.trans (ChgI.trans (ChgI.trans (ChgI.trans (Ext.toI y1) Z) (Ext.toI y3)) gp) gh) g0 oo),?_⟩;rw [zkt hK,zoh,qah oo];exact ⟨(CurAt.chg hh g0 oo oo),C.mono oo oo⟩
 have hK:¬zgs bs n s<11:=by unfold zgs at *;split at*<;> omega
 have jm:=zht hK;refine ((zh0 1 oo) (CurAt.ext g3 y3) rfl).mono ?_;rintro _ hk ⟨gi,hl,jo⟩;have gO:=gi.size;have gO:=gi.size;have hv4_c24:=(hv4_c2.ext y3).chg gi oo oo;refine zbe io ?_;refine (ih (n-1) oo hl oo).mono ?_;rintro _ gP ⟨g1,hq,jh⟩;have gQ:=g1.size;have gQ:=g1.size;have hv4_c25:=(hv4_c24.ext (xrf hk)).chg g1 oo oo;have o69_c25:=(jo.ext (xrf hk)).chg g1 oo;refine zk5 (lo:=gG.heap.size) (hi:=gP.heap.size) (by first | assumption | (unfold I64;omega)) (o69_c25.ext (xrf gP)) (jh.own.ext (xrf gP)) oo oo oo oo λ_ ji=>zeC (α:=DStmt) zv6 λhR gD jj=>?_;have:=jj.lt;have σ26:=gD.size;refine zbH zb6 (jj.ext (xrf hR)) (ji.ext gD) oo λgC U hv6_s27=>?_;have hS:=U.size;have hv4_c27:=(hv4_c25.ext gD).chg U oo oo;have o69_c27:=(o69_c25.ext gD).chg U oo;have o73_c27:=(jh.ext gD).chg U oo;have o74_c27:=(ji.ext gD).chg U oo;refine (zgx (CurAt.chg (CurAt.ext hq gD) U oo oo) oo).mono ?_;rintro _ O ⟨D,gE,rfl⟩;have gR:=D.size;have gR:=D.size;have hv4_c28:=(hv4_c27.ext (xrf gC)).chg D oo oo;have o69_c28:=(o69_c27.ext (xrf gC)).chg D oo;have o73_c28:=(o73_c27.ext (xrf gC)).chg D oo;have o74_c28:=(o74_c27.ext (xrf gC)).chg D oo;have hv6_s27_c28:=(hv6_s27.ext (xrf gC)).chg D oo oo;refine br (λjp=>?_) (λjp=>?_)
 . refine zbe io ?_;refine (ih (n-1) oo gE oo).mono ?_;rintro _ gj ⟨V,hr,jk⟩;have gS:=V.size;have gS:=V.size;have hv4_c29:=(hv4_c28.ext (xrf O)).chg V oo oo;have o69_c29:=(o69_c28.ext (xrf O)).chg V oo;have o73_c29:=(o73_c28.ext (xrf O)).chg V oo;have o74_c29:=(o74_c28.ext (xrf O)).chg V oo;have hv6_s27_c29:=(hv6_s27_c28.ext (xrf O)).chg V oo oo;refine zaa zeg ?_;obtain ⟨_,hs,ht⟩:=(hv6_s27_c29.ext (xrf gj));obtain ⟨_,hv⟩:=zk2 (Lens.var hs);refine zA3 zd6 hv ht (jk.own.ext (xrf gj)) oo oo λg2 X gF=>?_;have hv6_s30:=gF (gG.heap.size) oo oo (gj.heap.size) oo oo;clear gF hv hs ht;have hV:=X.size;have hv4_c30:=(hv4_c29.ext (xrf gj)).chg X oo oo;have o69_c30:=(o69_c29.ext (xrf gj)).chg X oo;have o73_c30:=(o73_c29.ext (xrf gj)).chg X oo;have o74_c30:=(o74_c29.ext (xrf gj)).chg X oo;have o80_c30:=(jk.ext (xrf gj)).chg X oo;refine zfE zb6 hv6_s30 (xrf g2) λjq hw=>zbH zb6 (hv4_c30.ext (xrf g2)) (hw.ext (xrf g2)) oo λhx I hv4_s31=>?_;have hW:=I.size;have:=(o69_c30.ext (xrf g2)).chg I oo;have:=(o73_c30.ext (xrf g2)).chg I oo;have:=(o74_c30.ext (xrf g2)).chg I oo;have:=(hv6_s30.ext (xrf g2)).chg I oo oo;have:=(o80_c30.ext (xrf g2)).chg I oo;have:=(hw.ext (xrf g2)).chg I oo;refine zcR zb6 hv4_s31 (xrf hx) λr4 C=>?_;replace C:=C.ext (xrf hx);refine ⟨(ChgI.out (ChgI.out (ChgI.trans (ChgI.trans (ChgI.out (ChgI.trans (ChgI.trans (ChgI.trans (ChgI.trans (ChgI.trans (Ext.toI y1) Z) (Ext.toI y3)) gi) g1) (Ext.toI gD)) U oo) D) V) X oo) I oo),?_⟩;rw [zkt hK,zoh,qab oo,qah (by first | assumption | (unfold zbw at *;assumption))];exact ⟨(CurAt.chg (CurAt.chg hr X oo oo) I oo oo),C.mono oo oo⟩
 refine zfE zb6 hv6_s27_c28 (xrf O) λjq hw=>zbH zb6 (hv4_c28.ext (xrf O)) (hw.ext (xrf O)) oo λhy Y hv4_s32=>?_;have hX:=Y.size;have:=(o69_c28.ext (xrf O)).chg Y oo;have:=(o73_c28.ext (xrf O)).chg Y oo;have:=(o74_c28.ext (xrf O)).chg Y oo;have:=(hv6_s27_c28.ext (xrf O)).chg Y oo oo;have:=(hw.ext (xrf O)).chg Y oo;refine zcR zb6 hv4_s32 (xrf hy) λr4 C=>?_;replace C:=C.ext (xrf hy);refine ⟨(ChgI.out (ChgI.trans (ChgI.out (ChgI.trans (ChgI.trans (ChgI.trans (ChgI.trans (ChgI.trans (Ext.toI y1) Z) (Ext.toI y3)) gi) g1) (Ext.toI gD)) U oo) D) Y oo),?_⟩;rw [zkt hK,zoh,qab oo,qab (by first | assumption | (unfold zbw at *;assumption))];exact ⟨(CurAt.chg gE Y oo oo),C.mono oo oo⟩
theorem ztl:∀ (n:Nat),n<=10->zuH n/\zyM n
 | 0,hn=>by
   have h1:zuH 0:=λ{_ _ _ _ _ _} h hd=>zk7 h hd (λm hm=>absurd hm oo) hn;exact ⟨h1,λ{_ _ _ _ _ _} h hd=>zk6 h hd h1⟩
 | n+1,hn=>by
   have ih:=ztl n oo
   have hm:∀ m,m+1=n+1->zyM m:=λm hm=>by
     obtain rfl:m=n:=oo;exact ih.2
   have h1:zuH (n+1):=λ{_ _ _ _ _ _} h hd=>zk7 h hd hm hn;exact ⟨h1,λ{_ _ _ _ _ _} h hd=>zk6 h hd h1⟩
end Go.Proofs.YtkgiigmcbgifdaaGreat
namespace Go.Sh
open Rep (rep)
def RowG {α:Type} [Rep α] (F:List Nat) (e:TypeId) (w:wD) (v:vL) (l:List α):Prop:=(∃ a,v=.slice a 0 0/\l=[]/\F=[])\/RowF F e w v l
section
variable {P:pG} {w w0 w':wD} {α β γ:Type} [Rep α] [Rep β] {e lo hi:Nat} {v:vL} {l:List α} {F:List Nat}
def RowG.lt (h:RowG F e w v l):∀ b∈F,b<w.heap.size:=by
 rcases h with ⟨_,_,_,rfl⟩ | h
 . simp
 exact h.lt
def RowG.keep (h:RowG F e w v l) (hk:∀ b∈F,w'.heap[b]?=w.heap[b]?):RowG F e w' v l:=by
 rcases h with h | h
 . exact .inl h
 exact .inr (h.keep hk)
def RowG.own (h:RowG F e w v l):OwnF F w v l:=by
 rcases h with ⟨a,rfl,rfl,rfl⟩ | h
 . exact ⟨_,⟨a,0,[],[],rfl,lr _,z0 _,⟨rfl,rfl⟩,.inl ⟨rfl,rfl⟩⟩,rfl⟩
 exact h.own
def RowG.wr (h:RowG F e w v l):Wr F w:=by
 rcases h with ⟨_,_,_,rfl⟩ | h
 . exact Wr.nil w
 exact h.wr
def RowG.one (h:RowG F e w v l):v.oneCell'=true:=by
 obtain ⟨_,⟨_,_,_,_,rfl,_⟩,rfl⟩:=h.own;rfl
def zeZ:RowI lo hi e w v l↔∃ F,RowG F e w v l/\F.Nodup/\∀ b∈F,lo<=b/\b<hi:=by
 constructor
 . rintro (⟨a,h1,h2⟩ | ⟨F,h1,h2,h3⟩)
   . exact ⟨[],.inl ⟨a,h1,h2,rfl⟩,qav,sS⟩
   exact ⟨F,.inr h1,h2,h3⟩
 rintro ⟨F,(⟨a,h1,h2,_⟩ | h1),g0,h3⟩
 . exact .inl ⟨a,h1,h2⟩
 exact .inr ⟨F,h1,g0,h3⟩
end
structure RV (α:Type) (e:TypeId) where
 v:vL
 l:List α
instance {α:Type} [Rep α] {e:TypeId}:Rep (RV α e) where
 size:=1
 agg:=false
 rep F w cs x:=cs=[x.v]/\RowG F e w x.v x.l
 pos:=by decide
 sz _:=rfl
 len:=by rintro _ _ _ _ ⟨rfl,_⟩;rfl
 one:=by rintro _ _ _ _ ⟨rfl,h⟩ v hv;simp at hv;subst hv;exact h.one
 keep:=by rintro _ _ _ _ _ ⟨rfl,h⟩ hk;exact ⟨rfl,h.keep hk⟩
 lt:=by rintro _ _ _ _ ⟨rfl,h⟩;exact h.lt
section
variable {P:pG} {w w0 w':wD} {α β γ:Type} [Rep α] [Rep β] {e lo hi:Nat} {v:vL} {l:List α} {F:List Nat}
def zff (h:RowI lo hi e w v l):OwnI lo hi w v (⟨v,l⟩:RV α e):=by
 obtain ⟨F,h1,h2,h3⟩:=zeZ.1 h;exact ⟨F,⟨⟨[v],⟨rfl,h1⟩,rfl⟩,h2,h1.wr⟩,h3⟩
def znE {x:RV α e} (h:Is w v x):v=x.v/\Is w x.v x.l:=by
 obtain ⟨F,cs,⟨rfl,h1⟩,hv⟩:=h;obtain ⟨cs,hr,g0⟩:=h1.own;exact ⟨hv,F,cs,hr,g0⟩
def zbR {t by_ b o:Nat} {x:RV α e} {K:vL->Prop} (ht:tyI P t=some (1,by_,false)) (h:At w0 b o x) (hx:Ext w0 w) (k:K x.v):RD P (Instr.loadAt t (.pointer (some ⟨b,o,none⟩))) w K:=
 zab (α:=RV α e) ht h hx λv hv=>by rw [(znE hv).1];exact k
def zGu {k:Nat} (hm:RowG F e w v l) (hn:F.Nodup) (hk:k<l.length) :
   ∃ b a cap G,v=.slice (some ⟨b,a,none⟩) l.length cap/\Lens (λF w l=>RowG F e w v l/\F.Nodup) F w b (a+k*Rep.size α) G l[k] (λy=>l.set k y):=by
 rcases hm with ⟨a,_,rfl,_⟩ | hm
 . simp at hk
 have gl:=hm.wr;obtain ⟨_,_,ho,hc,rfl,g1⟩:=hm;rcases ho.2 with ⟨_,_⟩ | ⟨g,cap,cur,rfl,gp,hg,h1,h2,h3,h4⟩
 . omega
 simp only [Value.ownBlock,Option.toList_some,qbz,qbE] at hn gl ⊢;have gd:=ho.1;have e0:l=l.take k++(l[k] :: l.drop (k+1)):=by simp
 have gf:=hc;rw [e0] at gf;obtain ⟨F1,_,x1,_,gq,gr,c1,gs⟩:=Cells.split gf;obtain ⟨G,F2,cg,x2,rfl,rfl,gg,c2⟩:=gs;subst gq gr;have gh:x1.length=k*Rep.size α:=by rw [Cells.len c1,qaj];congr 1;omega
 have gt:=Rep.len gg;have gx:=hn;rw [qaP] at hn;obtain ⟨g2,hn⟩:=hn;rw [qas] at hn;obtain ⟨_,gi,gy⟩:=hn;rw [qas] at gi;obtain ⟨gz,_,gC⟩:=gi
 have g0:w.rangeAt g 0 (x1++(cg++x2)):=by
   intro j _ hu;rw [<-h4,List.getElem?_take] at hu;split at hu
   . simpa [World.cell?,hg] using hu
   cases hu
 obtain ⟨_,r2⟩:=zaK g0;obtain ⟨rg,r3⟩:=zaK r2;rw [gh] at rg r3;refine ⟨g,0,cap,G,rfl,⟨cg,gg,rg,gz,g1.sub sc,λh=>g2 (by simp [h]),cur,e,hg⟩,by simp +contextual,λw' G' y' g3 hO hs=>?_⟩;obtain ⟨Z,gj,gD,g4,g5,_,_⟩:=hO;have g9:=Rep.len gj;obtain ⟨D,U,r⟩:=g3.cell cur e hg
 have V:∀ c∈F1,w'.heap[c]?=w.heap[c]?:=λc Y=>by
   refine g3.chg.block c (Cells.lt c1 c Y) λhm=>?_;rcases qaa.1 hm with rfl | hm
   . exact g2 (by simp [Y])
   exact gy c Y c (by simp [hm]) rfl
 have X:∀ c∈F2,w'.heap[c]?=w.heap[c]?:=λc Y=>by
   refine g3.chg.block c (Cells.lt c2 c Y) λhm=>?_;rcases qaa.1 hm with rfl | hm
   . exact g2 (by simp [Y])
   exact gC c hm c Y rfl
 have gE:k*Rep.size α+Rep.size α<=cur.size:=by
   rw [h3];have:=qbg (Rep.size α) (show k+1<=cap by omega);rw [qbp,qbN] at this;exact this
 have I:∀ j,j<Z.length->D[0+k*Rep.size α+j]?=Z[j]?:=by
   intro j hj;have:=gD j Z[j] (by simp [hj]);simpa [World.cell?,U,hj] using this
 have gF:=Rep.pos (α:=α)
 have gb:D.size=cur.size:=by
   rcases qcy D.size cur.size with h | h | h
   . exfalso;rcases qay D.size (k*Rep.size α+Rep.size α) with h' | h'
     . have:=I (Rep.size α-1) oo;rw [List.getElem?_eq_getElem oo] at this;have:=(Array.getElem?_eq_some_iff.1 this).1;omega
     have:=r D.size (.inr oo);rw [Array.getElem?_eq_none (lr _),Array.getElem?_eq_getElem h] at this;cases this
   . exact h
   exfalso;have:=r cur.size (.inr oo);rw [Array.getElem?_eq_none (lr _),Array.getElem?_eq_getElem h] at this;cases this
 have C:(l.set k y').length=l.length:=by simp
 refine ⟨g :: (F1++(G'++F2)),⟨.inr ⟨x1++(Z++x2),F1++(G'++F2),⟨?_,.inr ⟨g,cap,D,by rw [C],gp,U,by rw [C];exact h1,h2,by rw [gb];exact h3,?_⟩⟩,?_,rfl,?_⟩,zqL gx g4 hs⟩,?_⟩
 . rw [C];simp only [qag] at gd ⊢;omega
 . rw [C];apply List.ext_getElem?;intro j;have gc:(cur.toList.take (l.length*Rep.size α))[j]?=(x1++(cg++x2))[j]?:=by rw [h4]
   rcases qay j (l.length*Rep.size α) with hj | hj
   . rw [List.getElem?_take,qah hj] at gc ⊢;rcases qay j (k*Rep.size α) with h' | h'
     . rw [Array.getElem?_toList,r j (.inl oo),<-Array.getElem?_toList,gc,List.getElem?_append_left oo,List.getElem?_append_left oo]
     rcases qay j (k*Rep.size α+Rep.size α) with gG | gG
     . rw [Array.getElem?_toList,List.getElem?_append_right oo,List.getElem?_append_left oo,gh,<-I (j-k*Rep.size α) oo];congr 1;omega
     rw [Array.getElem?_toList,r j (.inr oo),<-Array.getElem?_toList,gc,List.getElem?_append_right oo,List.getElem?_append_right oo,List.getElem?_append_right oo,List.getElem?_append_right oo,gt,g9]
   rw [List.getElem?_take,qab oo,List.getElem?_eq_none];simp only [qag] at gd ⊢;omega
 . have:l.set k y'=l.take k++(y' :: l.drop (k+1)):=by rw [qbF];simp [hk]
   rw [this];exact Cells.append (Cells.keep c1 V) ⟨G',F2,Z,x2,rfl,rfl,gj,Cells.keep c2 X⟩
 . exact ((g1.sub sc).keep V).append (g5.append ((g1.sub sc).keep X))
 intro c O;rcases qaa.1 O with rfl | O
 . exact .inl sS
 rcases qae.1 O with O | O
 . exact .inl (by simp [O])
 rcases qae.1 O with O | O
 . exact .inr O
 exact .inl (by simp [O])
def Lens.elemV {H:List Nat->wD->γ->Prop} {S:List Nat} {b o:Nat} {G:List Nat} {x:RV β e} {upd:RV β e->γ} (h:Lens H S w b o G x upd) {k:Nat} (hk:k<x.l.length) :
   ∃ b2 a cap G2,x.v=.slice (some ⟨b2,a,none⟩) x.l.length cap/\(∀ c∈b2 :: G2,c∈G)/\Lens H S w b2 (a+k*Rep.size β) G2 x.l[k] (λy=>upd ⟨x.v,x.l.set k y⟩):=by
 obtain ⟨⟨_,⟨rfl,g3⟩,hr,hn,_,hb,g9⟩,g0,g1⟩:=h;obtain ⟨b2,a,cap,G2,hu,hL⟩:=zGu g3 hn hk;have hG:∀ c∈G,c∈S:=λc hc=>g0 c (by simp [hc]);refine ⟨b2,a,cap,G2,hu,hL.sub,hL.here,λc hc=>hG c (hL.sub c hc),λw' G' y' gb hO hs=>?_⟩
 obtain ⟨F1,⟨gc,gg⟩,gd⟩:=hL.back w' G' y' gb hO λc hc=>by
   rcases hs c hc with h | h
   . exact .inl h
   exact .inr λe=>h (hG c e)
 have g2:Chg G w w':=gb.chg.mono hL.sub;have gh:b<w.heap.size:=by obtain ⟨c,e,h⟩:=g9;exact (Array.getElem?_eq_some_iff.1 h).1
 have g4:w'.heap[b]?=w.heap[b]?:=g2.block b gh hb
 have gf:∀ c∈F1,c∈G\/c∉S:=λc hc=>by
   rcases gd c hc with h | h
   . exact .inl h
   rcases hs c h with h | h
   . exact .inl (hL.sub c (by simp [h]))
   exact .inr h
 have g5:b∉F1:=λhm=>by
   rcases gf b hm with h | h
   . exact hb h
   exact h (g0 b sS)
 obtain ⟨F',gi,gj⟩:=g1 w' F1 ⟨x.v,x.l.set k y'⟩ ⟨g2.mono sc,λc e hc=>⟨c,by rw [g4];exact hc,λ_ _=>rfl⟩⟩
   ⟨[x.v],⟨rfl,gc⟩,zbo hr g4,gg,gc.wr,g5,by obtain ⟨c,e,h⟩:=g9;exact ⟨c,e,by rw [g4];exact h⟩⟩ gf
 refine ⟨F',gi,λc hc=>?_⟩;rcases gj c hc with h | h
 . exact .inl h
 rcases gd c h with h | h
 . exact .inl (hG c h)
 exact .inr h
def zuI {t te:TypeId} {by_:Nat} {H:List Nat->wD->γ->Prop} {S:List Nat} {b o:Nat} {G:List Nat} {x:RV β e} {upd:RV β e->γ} {k:Nat} {K:vL->Prop} (ht:P.underlying t=some (.slice te)) (he:tyI P te=some (Rep.size β,by_,Rep.agg β)) (h:Lens H S w b o G x upd) (hk:k<x.l.length)
   (kk:∀ b2 o2 G2,Lens H S w b2 o2 G2 x.l[k] (λy=>upd ⟨x.v,x.l.set k y⟩)->K (.pointer (some ⟨b2,o2,none⟩))):RD P (Instr.indexAt t x.v (.int .i64 (k:Int))) w K:=by
 obtain ⟨b2,a,_,G2,hv,_,hL⟩:=h.elemV hk;refine zba (v:=.pointer (some ⟨b2,a+k*Rep.size β,none⟩)) (λ_ _=>?_) (kk _ _ _ hL);rw [hv,zcb ht he oo oo];simp
instance:RepZ (RV α e):=⟨⟨.slice none 0 0,[]⟩,[.slice none 0 0],λ_=>⟨rfl,.inl ⟨none,rfl,rfl,rfl⟩⟩⟩
end
end Go.Sh
