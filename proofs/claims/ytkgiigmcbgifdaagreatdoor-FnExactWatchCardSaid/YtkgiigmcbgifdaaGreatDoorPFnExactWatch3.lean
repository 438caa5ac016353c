/-
  Parts of the proof, put together by program.
-/
import Derived.Test.YtkgiigmcbgifdaaGreatDoorPFnExactWatch2
set_option maxRecDepth 20000
set_option linter.defProp false
set_option linter.unusedVariables false
set_option linter.unusedSimpArgs false
set_option linter.unusedSectionVars false
open Go renaming Value→vL,World→wD,Program→pG
namespace Go.Proofs.YtkgiigmcbgifdaaGreatDoor
open Go Go.Sh Go.Proofs
open Rep (rep)
variable {W0 W1 w:wD} {a op:Int} {c:DCode} {i j k n:Nat} {v0 v1:vL}
def zFp:DIns:=⟨0,0,term0,0⟩
def en (c:DCode) (i:Nat):Int:=c.entry.getD i 0
def zap (c:DCode) (j:Nat):DIns:=c.ins.getD j zFp
def zbK (h:i<c.entry.length):c.entry[i]=en c i:=by unfold en;rw [List.getD_eq_getElem?_getD,List.getElem?_eq_getElem h];rfl
def zaR (h:i<c.ins.length):c.ins[i]=zap c i:=by unfold zap;rw [List.getD_eq_getElem?_getD,List.getElem?_eq_getElem h];rfl
def prc (c:DCode) (a:Int):Nat->Int
 | 0=>-1
 | n+1=>if en c n<=a then n else prc c a n
def zaA (c:DCode) (a:Int):Int:=prc c a c.entry.length
theorem zkI {c:DCode} {a:Int} {m:Nat}:∀ {n:Nat},m<=n->(∀ j,m<=j->j<n->a<en c j)->prc c a n=prc c a m
 | 0,h,_=>by rw [Nat.le_zero.1 h]
 | n+1,h,hj=>by
   by_cases e:m=n+1
   . rw [e]
   rw [prc,qad (by have:=hj n oo oo;omega)];exact zkI oo λj h1 h2=>hj j h1 oo
theorem zA0 {c:DCode} {a:Int}:∀ (n:Nat),-1<=prc c a n/\prc c a n<n
 | 0=>by simp [prc]
 | n+1=>by
   have:=zA0 (c:=c) (a:=a) n;rw [prc];split<;>omega
def ziW:-1<=zaA c a/\zaA c a<c.entry.length:=zA0 _
def zf5 (c:DCode) (p:Int):Int:=if p+1<c.entry.length then en c (p+1).toNat-1 else (c.ins.length:Int)-1
def zet (c:DCode) (i:Nat):Int:=if i+1<c.entry.length then en c (i+1) else c.ins.length
def zeV (c:DCode) (i:Nat):zf5 c i=zet c i-1:=by
 unfold zf5 zet;have e:((i:Int)+1).toNat=i+1:=oo;by_cases h:i+1<c.entry.length
 . rw [qah oo,qah h,e]
 rw [qad oo,qad h]
def zf6  (h0:Is W0 v0 c) (e0:Ext W0 w)  :
   CALL tp 95 [v0,.int .i64 a] w λr w'=>Ext w w'/\(r=.int .i64 (zaA c a)):=by
 refine co (g:=kf [] [(2,4193328,[5])] []) Tryz.func95 ?_;refine za2 zbO rfl h0 e0 λg0 y1 g2 _=>zaa zbj<|zab zcn (zav g2) (xrf g0) λ_ h7=>?_;have:=zan h7;refine zae u31 h7<|zbp io<|zar (c.entry.length) (λk us w'=>us=[.int .i64 ((c.entry.length:Int)-1-(k:Int))]/\Ext g0 w'/\(∀ j,c.entry.length-k<=j->j<c.entry.length->a<en c j)) (0) oo ⟨ss,xrf g0,λj h1 h2=>oo⟩ ?_;rintro k m2 _ _ _ ⟨hu,y2,C⟩;try replace hu:=zbv hu
 try rw [hu]
 try clear hu
 have:=zan h7;refine zcH<|br (λc1=>?_) (λc1=>?_)
 . refine zaa zbj ?_;refine zab zcn (zav g2) y2 λ_ g4=>zdo u31 ty3 g4 oo oo λ_ _ g3=>?_;have g1:((c.entry.length:Int)-1-(k:Int)).toNat=c.entry.length-k-1:=oo;simp only [g1] at g3;refine zad ty3 g3 y2 λ_=>zdJ<|br (λc2=>?_) (λc2=>?_)
   . refine ⟨(y1.t y2),?_⟩;rw [zbK] at c2;unfold zaA;rw [zkI (m:=c.entry.length-k) oo C,show c.entry.length-k=(c.entry.length-k-1)+1 by omega,prc,qah c2];congr 1;omega
   refine zbp io<|⟨m2-1,oo,k+1,oo,by simp;omega,y2,?_⟩;intro j h1 h2;by_cases hj:j=c.entry.length-k-1
   . subst hj;rw [zbK] at c2;omega
   exact C j oo h2
 refine ⟨(y1.t y2),?_⟩;unfold zaA;rw [zkI (m:=c.entry.length-k) oo C,show c.entry.length-k=0 by omega];rfl
def zff {p:Int}  (h0:Is W0 v0 c) (e0:Ext W0 w) (hp0:-1<=p) (hp1:p<1000000000000) (hE:∀ i,i<c.entry.length->0<=en c i) :
   CALL tp 169 [v0,.int .i64 p] w λr w'=>Ext w w'/\(r=.int .i64 (zf5 c p)):=by
 refine co (g:=kf [] [] []) Tryz.func169 ?_;refine za2 zbO rfl h0 e0 λg0 y1 g1 _=>zdK io<|zaa zbj<|zab zcn (zav g1) (xrf g0) λ_ h8=>?_;have:=zan h8;refine zae u31 h8<|zah<|br (λc1=>?_) (λc1=>?_)
 . refine zaa zbj ?_;refine zab zcn (zav g1) (xrf g0) λ_ g3=>zdK io<|zdo u31 ty3 g3 oo oo λ_ _ g4=>zad ty3 g4 (xrf g0) λ_=>?_;have g5:=hE (p+1).toNat oo;rw [<-zbK oo] at g5;refine zbp (by unfold I64 at *;omega)<|⟨y1,?_⟩;unfold zf5;rw [qah c1,zbK]
 refine zaa zaH<|zab zcQ (zao g1) (xrf g0) λ_ g2=>?_;have:=zan g2;refine zae u32 g2<|zbp (by unfold I64;have:=zan g2;omega)<|⟨y1,?_⟩;unfold zf5;rw [qad c1]
def zg5:ByteArray:=ByteArray.mk #[109,97,105,110]
def NamesR (c:DCode):Prop:=(decide ((c.globals.length:Int)<=6)&&c.globals.all zaz)=true/\(decide ((c.locks.length:Int)<=6)&&c.locks.all zaz)=true/\(decide ((c.procs.length:Int)<=8)&&c.procs.all zaz)=true /\
 c.globals.Nodup/\c.locks.Nodup/\c.procs.Nodup/\zg5∈c.procs
instance (c:DCode):Decidable (NamesR c):=by unfold NamesR;infer_instance
def EntS (c:DCode):Prop:=c.entry.length=c.procs.length/\c.ins.length<=1500/\(∀ i,i<c.entry.length->(i=0->en c 0=0)/\(0<i->en c (i-1)<en c i)/\en c i<c.ins.length) /\
 ∀ j,j<c.ins.length->((zap c j).op=9↔zf5 c (zaA c j)=j)
instance (c:DCode):Decidable (EntS c):=by unfold EntS;infer_instance
def ziX {P:Nat->Prop} (h:∀ i,i<k->P i) (hk:P k):∀ i,i<k+1->P i:=λi hi=>by
 by_cases e:i=k
 . rw [e];exact hk
 exact h i oo
theorem zjF {c:DCode} {n:Nat} {m:Int} (h:∀ i,i<n->(i=0->en c 0=0)/\(0<i->en c (i-1)<en c i)/\en c i<m):∀ i,i<n->0<=en c i
 | 0,hi=>by rw [(h 0 hi).1 rfl];omega
 | i+1,hi=>by
   have h1:=zjF h i oo;have h2:=(h (i+1) hi).2.1 oo;simp only [qbL] at h2;omega
def zrD  (h0:Is W0 v0 c) (e0:Ext W0 w)  :
   CALL tp 91 [v0] w λr w'=>Ext w w'/\(r=.bool (decide (NamesR c/\EntS c))):=by
 refine co (g:=kf [] [(4,5070602400912773490798736965644,[3]),(9,21267642861956253053543306977672691732,[4])] [(6,[0,1,2,3,4,5,6,7,8,9,10,11,12,13,14,15,16,17,18,19,20,21,22,23,24,25,26,27,28,29,30,31,32,33,34,35,36,37],0),(11,[0,1,2,3,4,5,6,7,8,9,12,10,11,13,14],3072)]) Tryz.func91 ?_;refine za2 zbO rfl h0 e0 λgE y1 D gF=>zaa zez<|zab zb9 (zbH D) (xrf gE) λ_ h6=>?_;refine (zfe h6 (xrf gE)).mono ?_;rintro _ _ ⟨y2,rfl⟩;refine zau<|zaN (λc1=>?_) (λc1=>?_)
 . refine ⟨(y1.t y2),?_⟩;have:¬(NamesR c/\EntS c):=λh=>by rw [h.1.1] at c1;cases c1
   simp only [this,qak]
 refine zaa zdM<|zab zb9 (zbq D) y2 λ_ gP=>?_;refine (zfe gP y2).mono ?_;rintro _ _ ⟨y3,rfl⟩;refine zau<|zaN (λc2=>?_) (λc2=>?_)
 . refine ⟨(y1.t (y2.t y3)),?_⟩;have:¬(NamesR c/\EntS c):=λh=>by rw [h.1.2.1] at c2;cases c2
   simp only [this,qak]
 refine zaa zby<|zab zb9 (zay D) (y2.t y3) λ_ gQ=>?_;refine (zfe gQ (y2.t y3)).mono ?_;rintro _ _ ⟨y4,rfl⟩;refine zau<|zaN (λc3=>?_) (λc3=>?_)
 . refine ⟨(y1.t (y2.t (y3.t y4))),?_⟩;have:¬(NamesR c/\EntS c):=λh=>by rw [h.1.2.2.1] at c3;cases c3
   simp only [this,qak]
 refine zaa zez<|zab zb9 (zbH D) (y2.t (y3.t y4)) λ_ gR=>?_;refine (zem gR (y2.t (y3.t y4))).mono ?_;rintro _ _ ⟨y5,rfl⟩;refine br (λc4=>?_) (λc4=>?_)
 . refine ⟨(y1.t (y2.t (y3.t (y4.t y5)))),?_⟩;have:¬(NamesR c/\EntS c):=λh=>c4 h.1.2.2.2.1;simp only [this,qak]
 refine zaa zdM<|zab zb9 (zbq D) (y2.t (y3.t (y4.t y5))) λ_ gS=>?_;refine (zem gS (y2.t (y3.t (y4.t y5)))).mono ?_;rintro _ _ ⟨y6,rfl⟩;refine br (λc5=>?_) (λc5=>?_)
 . refine ⟨(y1.t (y2.t (y3.t (y4.t (y5.t y6))))),?_⟩;have:¬(NamesR c/\EntS c):=λh=>c5 h.1.2.2.2.2.1;simp only [this,qak]
 refine zaa zby<|zab zb9 (zay D) (y2.t (y3.t (y4.t (y5.t y6)))) λ_ gT=>?_;refine (zem gT (y2.t (y3.t (y4.t (y5.t y6))))).mono ?_;rintro _ _ ⟨y7,rfl⟩;refine br (λc6=>?_) (λc6=>?_)
 . refine ⟨(y1.t (y2.t (y3.t (y4.t (y5.t (y6.t y7)))))),?_⟩;have:¬(NamesR c/\EntS c):=λh=>c6 h.1.2.2.2.2.2.1;simp only [this,qak]
 refine zaa zbj<|zab zcn (zav D) (y2.t (y3.t (y4.t (y5.t (y6.t y7))))) λ_ gG=>?_;have gH:=zan gG;refine zae u31 gG<|zaa zby<|zab zb9 (zay D) (y2.t (y3.t (y4.t (y5.t (y6.t y7))))) λ_ gI=>?_;have gJ:=zan gI;refine zae u26 gI<|zaJ<|br (λc7=>?_) (λc7=>?_)
 . refine ⟨(y1.t (y2.t (y3.t (y4.t (y5.t (y6.t y7)))))),?_⟩;have:¬(NamesR c/\EntS c):=λh=>c7 (by rw [h.2.1]);simp only [this,qak]
 refine zaa zaH<|zab zcQ (zao D) (y2.t (y3.t (y4.t (y5.t (y6.t y7))))) λ_ gK=>?_;have gL:=zan gK;refine zae u32 gK<|zbZ<|br (λc8=>?_) (λc8=>?_)
 . refine ⟨(y1.t (y2.t (y3.t (y4.t (y5.t (y6.t y7)))))),?_⟩;have:¬(NamesR c/\EntS c):=λh=>by have:=h.2.2.1;omega
   simp only [this,qak]
 refine zaa zby<|zab zb9 (zay D) (y2.t (y3.t (y4.t (y5.t (y6.t y7))))) λ_ gU=>?_;refine (zcx gU (y2.t (y3.t (y4.t (y5.t (y6.t y7)))))).mono ?_;rintro _ gM ⟨y8,rfl⟩;refine zah<|br (λc9=>?_) (λc9=>?_)
 . refine ⟨(y1.t (y2.t (y3.t (y4.t (y5.t (y6.t (y7.t y8))))))),?_⟩;have:¬(NamesR c/\EntS c):=λh=>by have:=zfT.2 h.1.2.2.2.2.2.2;unfold zg5 at this;omega
   simp only [this,qak]
 refine zar (c.entry.length) (λk us w'=>us=[.int .i64 (k:Int)]/\Ext gM w'/\(∀ i,i<k->(i=0->en c 0=0)/\(0<i->en c (i-1)<en c i)/\en c i<c.ins.length)) (0) oo ⟨ss,xrf gM,λi h=>oo⟩ ?_;rintro k m4 _ gg _ ⟨hu,y9,V⟩;try replace hu:=zbv hu
 try rw [hu]
 try clear hu
 refine zaa zbj<|zab zcn (zav D) (y2.t (y3.t (y4.t (y5.t (y6.t (y7.t (y8.t y9))))))) λ_ gN=>?_;have gO:=zan gN;refine zae u31 gN<|zah<|br (λgV=>?_) (λgV=>?_)
 . have C:=zai gg;refine zag<|br (λg4=>?_) (λg4=>?_)
   . refine zaa zbj ?_;refine zab zcn (zav D) (y2.t (y3.t (y4.t (y5.t (y6.t (y7.t (y8.t (y9.t C)))))))) λ_ gW=>zdo u31 ty3 gW oo oo λ_ _ gX=>zad ty3 gX (y2.t (y3.t (y4.t (y5.t (y6.t (y7.t (y8.t (y9.t C)))))))) λ_=>zaJ<|br (λg5=>?_) (λg5=>?_)
     . refine ⟨(y1.t (y2.t (y3.t (y4.t (y5.t (y6.t (y7.t (y8.t (y9.t C))))))))),?_⟩;rw [zbK] at g5;have:¬(NamesR c/\EntS c):=λh=>g5 ((h.2.2.2.1 0 oo).1 rfl);simp only [this,qak]
     refine zbZ<|gbr (λgY=>?_) (λgY=>?_)
     . refine zaa zbj ?_;refine zab zcn (zav D) (y2.t (y3.t (y4.t (y5.t (y6.t (y7.t (y8.t (y9.t C)))))))) λgZ gh=>zac u31 ty3 gh oo λh4 h5 gi=>zad ty3 gi (y2.t (y3.t (y4.t (y5.t (y6.t (y7.t (y8.t (y9.t C)))))))) λgj=>zaa zbj<|zab zcn (zav D) (y2.t (y3.t (y4.t (y5.t (y6.t (y7.t (y8.t (y9.t C)))))))) λh9 gl=>zbp io<|zdo u31 ty3 gl oo oo λha hb gn=>zad ty3 gn (y2.t (y3.t (y4.t (y5.t (y6.t (y7.t (y8.t (y9.t C)))))))) λgp=>?_;have g0:((k:Int)-1).toNat=k-1:=oo;refine zdJ<|br (λhc=>?_) (λhc=>?_)
       . refine ⟨(y1.t (y2.t (y3.t (y4.t (y5.t (y6.t (y7.t (y8.t (y9.t C))))))))),?_⟩;exact absurd g4 oo
       refine zaa zbj<|zab zcn (zav D) (y2.t (y3.t (y4.t (y5.t (y6.t (y7.t (y8.t (y9.t C)))))))) λgq g1=>zac u31 ty3 g1 oo λgr gs g2=>zad ty3 g2 (y2.t (y3.t (y4.t (y5.t (y6.t (y7.t (y8.t (y9.t C)))))))) λg3=>zaa zaH<|zab zcQ (zao D) (y2.t (y3.t (y4.t (y5.t (y6.t (y7.t (y8.t (y9.t C)))))))) λgt M=>?_;have O:=zan M;refine zae u32 M<|zcH<|br (λhd=>?_) (λhd=>?_)
       . refine ⟨(y1.t (y2.t (y3.t (y4.t (y5.t (y6.t (y7.t (y8.t (y9.t C))))))))),?_⟩;exact absurd g4 oo
       refine zaw<|⟨m4-1,oo,k+1,oo,ss,(y9.t C),?_⟩;exact absurd g4 oo
     refine zaa zbj<|zab zcn (zav D) (y2.t (y3.t (y4.t (y5.t (y6.t (y7.t (y8.t (y9.t C)))))))) λgq g1=>zac u31 ty3 g1 oo λgr gs g2=>zad ty3 g2 (y2.t (y3.t (y4.t (y5.t (y6.t (y7.t (y8.t (y9.t C)))))))) λg3=>zaa zaH<|zab zcQ (zao D) (y2.t (y3.t (y4.t (y5.t (y6.t (y7.t (y8.t (y9.t C)))))))) λgt M=>?_;have O:=zan M;refine zae u32 M<|zcH<|br (λgx=>?_) (λgx=>?_)
     . refine ⟨(y1.t (y2.t (y3.t (y4.t (y5.t (y6.t (y7.t (y8.t (y9.t C))))))))),?_⟩;rw [zbK] at gx;have:¬(NamesR c/\EntS c):=λh=>by have:=(h.2.2.2.1 k oo).2.2;omega
       simp only [this,qak]
     refine zaw<|⟨m4-1,oo,k+1,oo,ss,(y9.t C),?_⟩;rw [zbK] at gx g5;have he:k=0:=oo;subst he;exact ziX V ⟨λ_=>qaf.1 g5,λh=>oo,oo⟩
   refine zbZ<|gbr (λhf=>?_) (λhf=>?_)
   . refine zaa zbj ?_;refine zab zcn (zav D) (y2.t (y3.t (y4.t (y5.t (y6.t (y7.t (y8.t (y9.t C)))))))) λgZ gh=>zac u31 ty3 gh oo λh4 h5 gi=>zad ty3 gi (y2.t (y3.t (y4.t (y5.t (y6.t (y7.t (y8.t (y9.t C)))))))) λgj=>zaa zbj<|zab zcn (zav D) (y2.t (y3.t (y4.t (y5.t (y6.t (y7.t (y8.t (y9.t C)))))))) λh9 gl=>zbp io<|zdo u31 ty3 gl oo oo λha hb gn=>zad ty3 gn (y2.t (y3.t (y4.t (y5.t (y6.t (y7.t (y8.t (y9.t C)))))))) λgp=>?_;have g0:((k:Int)-1).toNat=k-1:=oo;refine zdJ<|br (λg9=>?_) (λg9=>?_)
     . refine ⟨(y1.t (y2.t (y3.t (y4.t (y5.t (y6.t (y7.t (y8.t (y9.t C))))))))),?_⟩;rw [zbK,zbK] at g9;simp only [g0] at g9;have:¬(NamesR c/\EntS c):=λh=>by have:=(h.2.2.2.1 k oo).2.1 oo;omega
       simp only [this,qak]
     refine zaa zbj<|zab zcn (zav D) (y2.t (y3.t (y4.t (y5.t (y6.t (y7.t (y8.t (y9.t C)))))))) λgq g1=>zac u31 ty3 g1 oo λgr gs g2=>zad ty3 g2 (y2.t (y3.t (y4.t (y5.t (y6.t (y7.t (y8.t (y9.t C)))))))) λg3=>zaa zaH<|zab zcQ (zao D) (y2.t (y3.t (y4.t (y5.t (y6.t (y7.t (y8.t (y9.t C)))))))) λgt M=>?_;have O:=zan M;refine zae u32 M<|zcH<|br (λgy=>?_) (λgy=>?_)
     . refine ⟨(y1.t (y2.t (y3.t (y4.t (y5.t (y6.t (y7.t (y8.t (y9.t C))))))))),?_⟩;rw [zbK] at gy;have:¬(NamesR c/\EntS c):=λh=>by have:=(h.2.2.2.1 k oo).2.2;omega
       simp only [this,qak]
     refine zaw<|⟨m4-1,oo,k+1,oo,ss,(y9.t C),?_⟩;rw [zbK] at gy;rw [zbK,zbK] at g9;simp only [g0] at g9;exact ziX V ⟨λh=>oo,λ_=>oo,oo⟩
   refine zaa zbj<|zab zcn (zav D) (y2.t (y3.t (y4.t (y5.t (y6.t (y7.t (y8.t (y9.t C)))))))) λgq g1=>zac u31 ty3 g1 oo λgr gs g2=>zad ty3 g2 (y2.t (y3.t (y4.t (y5.t (y6.t (y7.t (y8.t (y9.t C)))))))) λg3=>zaa zaH<|zab zcQ (zao D) (y2.t (y3.t (y4.t (y5.t (y6.t (y7.t (y8.t (y9.t C)))))))) λgt M=>?_;have O:=zan M;refine zae u32 M<|zcH<|br (λhg=>?_) (λhg=>?_)
   . refine ⟨(y1.t (y2.t (y3.t (y4.t (y5.t (y6.t (y7.t (y8.t (y9.t C))))))))),?_⟩;exact absurd g4 oo
   refine zaw<|⟨m4-1,oo,k+1,oo,ss,(y9.t C),?_⟩;exact absurd g4 oo
 refine zar (c.ins.length) (λk us w'=>us=[.int .i64 (k:Int)]/\Ext gg w'/\(∀ j,j<k->((zap c j).op=9↔zf5 c (zaA c j)=j))) (0) oo ⟨ss,xrf gg,λi h=>oo⟩ ?_;rintro k m9 _ gz _ ⟨hu,U,gb⟩;try replace hu:=zbv hu
 try rw [hu]
 try clear hu
 refine zaa zaH<|zab zcQ (zao D) (y2.t (y3.t (y4.t (y5.t (y6.t (y7.t (y8.t (y9.t U)))))))) λ_ gc=>?_;have gA:=zan gc;refine zae u32 gc<|zah<|br (λhh=>?_) (λhh=>?_)
 . have Z:=zai gz;refine zaa zaH<|zab zcQ (zao D) (y2.t (y3.t (y4.t (y5.t (y6.t (y7.t (y8.t (y9.t (U.t Z))))))))) λ_ gB=>zac u32 zdw gB oo λ_ _ gC=>zaa zbE<|zad ty3 (zaD gC) (y2.t (y3.t (y4.t (y5.t (y6.t (y7.t (y8.t (y9.t (U.t Z))))))))) λ_=>zag<|zcC gF (y2.t (y3.t (y4.t (y5.t (y6.t (y7.t (y8.t (y9.t (U.t Z)))))))))<|zcC gF (y2.t (y3.t (y4.t (y5.t (y6.t (y7.t (y8.t (y9.t (U.t Z))))))))) ?_
   have h8:c.entry.length<=8:=by
     simp only [qb8,qap,qau] at c3;have:=c3.1;omega
   refine (zf6 h0 (e0.t (y1.t (y2.t (y3.t (y4.t (y5.t (y6.t (y7.t (y8.t (y9.t (U.t Z)))))))))))).mono ?_;rintro _ _ ⟨gf,rfl⟩;refine ⟨gf,?_⟩;refine (zff h0 (e0.t (y1.t (y2.t (y3.t (y4.t (y5.t (y6.t (y7.t (y8.t (y9.t (U.t (Z.t gf)))))))))))) (by have:=ziW (c:=c) (a:=k);omega) (by have:=ziW (c:=c) (a:=k);omega) (zjF λi hi=>V i oo)).mono ?_;rintro _ _ ⟨gD,rfl⟩;refine ⟨gD,?_⟩;refine zag<|zBS u4<|br (λgd=>?_) (λgd=>?_)
   . refine ⟨(y1.t (y2.t (y3.t (y4.t (y5.t (y6.t (y7.t (y8.t (y9.t (U.t (Z.t (gf.t gD)))))))))))),?_⟩;rw [zaR] at gd;have:¬(NamesR c/\EntS c):=λh=>gd (decide_eq_decide.2 (h.2.2.2.2 k oo));simp only [this,qak]
   refine zaw<|⟨m9-1,oo,k+1,oo,ss,(U.t (Z.t (gf.t gD))),?_⟩;rw [zaR] at gd;exact ziX gb (decide_eq_decide.1 (qaf.1 gd))
 refine ⟨(y1.t (y2.t (y3.t (y4.t (y5.t (y6.t (y7.t (y8.t (y9.t U))))))))),?_⟩
 have:NamesR c/\EntS c:=by
   refine ⟨⟨by simpa using c1,by simpa using c2,by simpa using c3,qaf.1 c4,qaf.1 c5,qaf.1 c6,zfT.1 (by unfold zg5;omega)⟩,oo,oo,λi hi=>V i oo,λj _=>gb j oo⟩
 simp only [this,and_self,qbb]
def zcy (c:DCode) (op:Int):Int:=if op=1 then c.globals.length else if op=4\/op=5 then c.procs.length else if op=6\/op=7 then c.locks.length else 1
def zin (c:DCode) (a:DIns) (b e:Int):Prop:=(1<=a.op/\a.op<=9)/\(0<=a.arg/\a.arg<zcy c a.op) /\
 (if a.op=1\/a.op=2 then zbg 6 a.term=true/\(∀ s∈zbf a.term,s∈c.globals) else a.term=term0)/\(if a.op=2\/a.op=3 then b<=a.to/\a.to<e else a.to=0)
instance (c:DCode) (a:DIns) (b e:Int):Decidable (zin c a b e):=by unfold zin;infer_instance
def zwu  (h0:Is W0 v0 c) (e0:Ext W0 w) (hj:j<c.ins.length) (hE:∀ i,i<c.entry.length->0<=en c i) (h8:c.entry.length<=8) (hp:0<=zaA c j) :
   CALL tp 92 [v0,.int .i64 (j:Int)] w λr w'=>Ext w w'/\(r=.bool (decide (zin c (zap c j) (en c (zaA c j).toNat) (zf5 c (zaA c j)+1)))):=by
 refine co (g:=kf [(12,137438920768,[6]),(25,4835703278177041722114448,[]),(27,9898684611004583682494169104,[])] [(19,151106504079791792062736,[8])] [(21,[0,1,2,3,4,5,6,7],0),(28,[0,1,2,3,4,5,6,7,8,9,10,11],512)]) Tryz.func92 ?_;have hpl:=ziW (c:=c) (a:=j);refine za2 zbO rfl h0 e0 λgl y1 O gG=>zaa zaH<|zab zcQ (zao O) (xrf gl) λ_ gO=>zac u32 zdw gO oo λ_ _ gP=>zab zdw gP (xrf gl) λ_ gn=>?_;rw [zaR] at gn;obtain ⟨a,ha⟩:∃ a,a=zap c j:=⟨_,rfl⟩;rw [<-ha] at gn ⊢;refine zbN zsM rfl zdw rfl gn (xrf gl) λU y2 M _=>JOIN.mk (λus w'=>us=[.int .i64 (zcy c a.op-1)]/\Ext U w'/\(True)) ?_ ?_
 . refine zaa zbE ?_;refine zad ty3 (zaD M) (xrf U) λ_=>zag<|br (λc1=>?_) (λc1=>?_)
   . refine zaa zez ?_;refine zab zb9 (zbH O) y2 λ_ gp=>?_;have gH:=zan gp;refine zae u26 gp<|zbp (by unfold I64;have:=zan gp;omega)<|⟨by unfold zcy;rw [qah c1],xrf U,?_⟩;trivial
   refine zag<|br (λc2=>?_) (λc2=>?_)
   . refine zaa zdM ?_;refine zab zb9 (zbq O) y2 λgQ Z=>?_;have g9:=zan Z;refine zae u26 Z<|zbp (by unfold I64;have:=zan Z;omega)<|⟨by unfold zcy;rw [qad oo,qad oo,qah oo],xrf U,?_⟩;trivial
   refine zag<|br (λc3=>?_) (λc3=>?_)
   . refine zaa zdM ?_;refine zab zb9 (zbq O) y2 λgQ Z=>?_;have g9:=zan Z;refine zae u26 Z<|zbp (by unfold I64;have:=zan Z;omega)<|⟨by unfold zcy;rw [qad oo,qad oo,qah oo],xrf U,?_⟩;trivial
   refine zag<|br (λc4=>?_) (λc4=>?_)
   . refine zaa zby ?_;refine zab zb9 (zay O) y2 λgR g0=>?_;have gb:=zan g0;refine zae u26 g0<|zbp (by unfold I64;have:=zan g0;omega)<|⟨by unfold zcy;rw [qad oo,qah oo],xrf U,?_⟩;trivial
   refine zag<|br (λc5=>?_) (λc5=>?_)
   . refine zaa zby ?_;refine zab zb9 (zay O) y2 λgR g0=>?_;have gb:=zan g0;refine zae u26 g0<|zbp (by unfold I64;have:=zan g0;omega)<|⟨by unfold zcy;rw [qad oo,qah oo],xrf U,?_⟩;trivial
   refine ⟨by unfold zcy;rw [qad oo,qad oo,qad oo];rfl,xrf U,?_⟩;trivial
 rintro _ _ ⟨hu,y3,C⟩;try replace hu:=zbv hu
 try rw [hu]
 try clear hu
 refine zaa zbE<|zad ty3 (zaD M) y3 λ_=>?_;refine (l01In_ok ).mono ?_;rintro _ _ ⟨y4,rfl⟩;refine za0<|br (λc6=>?_) (λc6=>?_)
 . refine ⟨(y1.t (y2.t (y3.t y4))),?_⟩;have:¬zin c a (en c (zaA c j).toNat) (zf5 c (zaA c j)+1):=λh=>c6 h.1;simp only [this,qak]
 refine zaa zbG<|zad ty3 (zaF M) (y3.t y4) λ_=>?_;refine (l01In_ok ).mono ?_;rintro _ gI ⟨y5,rfl⟩;refine za0<|br (λc7=>?_) (λc7=>?_)
 . refine ⟨(y1.t (y2.t (y3.t (y4.t y5)))),?_⟩;have:¬zin c a (en c (zaA c j).toNat) (zf5 c (zaA c j)+1):=λh=>c7 (by have:=h.2.1;omega);simp only [this,qak]
 refine JOIN.mk (λus w'=>us=[]/\Ext gI w'/\(if a.op=1\/a.op=2 then zbg 6 a.term=true/\(∀ s∈zbf a.term,s∈c.globals) else a.term=term0)) ?_ ?_
 . refine zaa zbE ?_;refine zad ty3 (zaD M) (y3.t (y4.t y5)) λ_=>zag<|br (λc8=>?_) (λc8=>?_)
   . refine zaa zgZ ?_;refine zab zcD (zcZ M) (y3.t (y4.t y5)) λgS gq=>?_;refine (zdq gq (y3.t (y4.t y5))).mono ?_;rintro _ _ ⟨y7,rfl⟩;refine zau<|zaN (λc9=>?_) (λc9=>?_)
     . refine ⟨(y1.t (y2.t (y3.t (y4.t (y5.t y7))))),?_⟩;have:¬zin c a (en c (zaA c j).toNat) (zf5 c (zaA c j)+1):=λh=>by have:=h.2.2.1;rw [qah (.inl c8)] at this;rw [this.1] at c9;cases c9
       simp only [this,qak]
     refine zaa zgZ<|zab zcD (zcZ M) (y3.t (y4.t (y5.t y7))) λgT gr=>?_;refine (zfV gr (y3.t (y4.t (y5.t y7)))).mono ?_;rintro gU gJ ⟨y8,g1⟩;refine zar ((zbf a.term).length) (λk us w'=>us=[.int .i64 (k:Int)]/\Ext gJ w'/\(∀ s∈(zbf a.term).take k,s∈c.globals)) (0) oo ⟨ss,xrf gJ,ss⟩ ?_;rintro k gs gt gV gx ⟨hu,y9,C⟩;try replace hu:=zbv hu
     try rw [hu]
     try clear hu
     have gc:=zan g1;refine zae u26 g1<|zah<|br (λgW=>?_) (λgW=>?_)
     . have gd:=zai gV;refine zaa zez<|zab zb9 (zbH O) (y2.t (y3.t (y4.t (y5.t (y7.t (y8.t (y9.t gd))))))) λgX gy=>zac u26 ty9 g1 oo λgY gZ gz=>zaq ty9 gz (y9.t gd) λgA=>?_;refine (zcx gy (y2.t (y3.t (y4.t (y5.t (y7.t (y8.t (y9.t gd)))))))).mono ?_;rintro _ _ ⟨gK,rfl⟩;refine zah<|br (λh4=>?_) (λh4=>?_)
       . refine ⟨(y1.t (y2.t (y3.t (y4.t (y5.t (y7.t (y8.t (y9.t (gd.t gK))))))))),?_⟩
         have:¬zin c a (en c (zaA c j).toNat) (zf5 c (zaA c j)+1):=λh=>by
           have:=h.2.2.1;rw [qah (.inl c8)] at this;have:=zfT.2 (this.2 _ (qac (n:=k) oo));omega
         simp only [this,qak]
       refine zaw<|⟨gs-1,oo,k+1,oo,ss,(y9.t (gd.t gK)),?_⟩;intro s hs;rw [tk oo] at hs;rcases qae.1 hs with hs | hs
       . exact C s hs
       simp only [qaa,qag,qaz] at hs;subst hs;exact zfT.1 oo
     refine ⟨ss,(y7.t (y8.t y9)),?_⟩;rw [qah (.inl c8)];rw [qai oo] at C;exact ⟨by simpa using c9,C⟩
   refine zaa zbE<|zad ty3 (zaD M) (y3.t (y4.t y5)) λ_=>zag<|br (λgh=>?_) (λgh=>?_)
   . refine zaa zgZ ?_;refine zab zcD (zcZ M) (y3.t (y4.t y5)) λgS gq=>?_;refine (zdq gq (y3.t (y4.t y5))).mono ?_;rintro _ _ ⟨g2,rfl⟩;refine zau<|zaN (λgi=>?_) (λgi=>?_)
     . refine ⟨(y1.t (y2.t (y3.t (y4.t (y5.t g2))))),?_⟩;have:¬zin c a (en c (zaA c j).toNat) (zf5 c (zaA c j)+1):=λh=>by have:=h.2.2.1;rw [qah (.inr gh)] at this;rw [this.1] at gi;cases gi
       simp only [this,qak]
     refine zaa zgZ<|zab zcD (zcZ M) (y3.t (y4.t (y5.t g2))) λgT gr=>?_;refine (zfV gr (y3.t (y4.t (y5.t g2)))).mono ?_;rintro gU gf ⟨gj,g1⟩;refine zar ((zbf a.term).length) (λk us w'=>us=[.int .i64 (k:Int)]/\Ext gf w'/\(∀ s∈(zbf a.term).take k,s∈c.globals)) (0) oo ⟨ss,xrf gf,ss⟩ ?_;rintro k gs gt gB gx ⟨hu,g3,C⟩;try replace hu:=zbv hu
     try rw [hu]
     try clear hu
     have gc:=zan g1;refine zae u26 g1<|zah<|br (λh5=>?_) (λh5=>?_)
     . have gg:=zai gB;refine zaa zez<|zab zb9 (zbH O) (y2.t (y3.t (y4.t (y5.t (g2.t (gj.t (g3.t gg))))))) λgX gy=>zac u26 ty9 g1 oo λgY gZ gz=>zaq ty9 gz (g3.t gg) λgA=>?_;refine (zcx gy (y2.t (y3.t (y4.t (y5.t (g2.t (gj.t (g3.t gg)))))))).mono ?_;rintro _ _ ⟨gL,rfl⟩;refine zah<|br (λh6=>?_) (λh6=>?_)
       . refine ⟨(y1.t (y2.t (y3.t (y4.t (y5.t (g2.t (gj.t (g3.t (gg.t gL))))))))),?_⟩
         have:¬zin c a (en c (zaA c j).toNat) (zf5 c (zaA c j)+1):=λh=>by
           have:=h.2.2.1;rw [qah (.inr gh)] at this;have:=zfT.2 (this.2 _ (qac (n:=k) oo));omega
         simp only [this,qak]
       refine zaw<|⟨gs-1,oo,k+1,oo,ss,(g3.t (gg.t gL)),?_⟩;intro s hs;rw [tk oo] at hs;rcases qae.1 hs with hs | hs
       . exact C s hs
       simp only [qaa,qag,qaz] at hs;subst hs;exact zfT.1 oo
     refine ⟨ss,(g2.t (gj.t g3)),?_⟩;rw [qah (.inr gh)];rw [qai oo] at C;exact ⟨by simpa using gi,C⟩
   refine zaa zgZ<|zab zcD (zcZ M) (y3.t (y4.t y5)) λ_ h9=>zwm (α:=DTerm) zFo zri kK rfl λ_ hb=>?_;refine (zkk h9 (y3.t (y4.t y5)) hb (xrf gI) rfl).mono ?_;rintro _ _ ⟨D,rfl⟩;refine za0<|br (λgC=>?_) (λgC=>?_)
   . refine ⟨(y1.t (y2.t (y3.t (y4.t (y5.t D))))),?_⟩;have:¬zin c a (en c (zaA c j).toNat) (zf5 c (zaA c j)+1):=λh=>by have:=h.2.2.1;rw [qad oo] at this;exact gC this
     simp only [this,qak]
   refine ⟨ss,D,?_⟩;rw [qad oo];exact qaf.1 gC
 rintro _ gD ⟨hu,D,hT⟩;try replace hu:=zbv hu
 clear hu;refine JOIN.mk (λus w'=>us=[]/\Ext gD w'/\(a.op=2\/a.op=3)) ?_ ?_
 . refine zaa zbE ?_;refine zad ty3 (zaD M) (y3.t (y4.t (y5.t D))) λ_=>zaJ<|br (λhc=>?_) (λhc=>?_)
   . refine zaa zbE ?_;refine zad ty3 (zaD M) (y3.t (y4.t (y5.t D))) λ_=>zaJ<|br (λhd=>?_) (λhd=>?_)
     . refine zaa zfa ?_;refine zad ty3 (zcJ M) (y3.t (y4.t (y5.t D))) λ_=>zag<|⟨(y1.t (y2.t (y3.t (y4.t (y5.t D))))),?_⟩;congr 1;rw [decide_eq_decide];constructor
       . exact λh=>⟨qaf.1 c6,oo,hT,by rw [qad oo];exact h⟩
       intro h;have:=h.2.2.2;rw [qad oo] at this;exact this
     refine ⟨ss,xrf gD,?_⟩;omega
   refine ⟨ss,xrf gD,?_⟩;omega
 rintro _ _ ⟨hu,V,gM⟩;try replace hu:=zbv hu
 clear hu;refine zcC gG (y2.t (y3.t (y4.t (y5.t (D.t V))))) ?_;refine (zf6 h0 (e0.t (y1.t (y2.t (y3.t (y4.t (y5.t (D.t V)))))))).mono ?_;rintro _ gE ⟨g4,rfl⟩;have g5:=zai gE;refine zaa zfa<|zad ty3 (zcJ M) (y3.t (y4.t (y5.t (D.t (V.t (g4.t g5)))))) λ_=>zaa zbj<|zab zcn (zav O) (y2.t (y3.t (y4.t (y5.t (D.t (V.t (g4.t g5))))))) λ_ he=>zdo u31 ty3 he oo oo λ_ _ gF=>zad ty3 gF (y2.t (y3.t (y4.t (y5.t (D.t (V.t (g4.t g5))))))) λ_=>zcC gG (y2.t (y3.t (y4.t (y5.t (D.t (V.t (g4.t g5))))))) ?_;refine (zff h0 (e0.t (y1.t (y2.t (y3.t (y4.t (y5.t (D.t (V.t (g4.t g5))))))))) oo oo (by assumption)).mono ?_;rintro _ _ ⟨gN,rfl⟩;refine ⟨gN,?_⟩;refine (l01In_ok ).mono ?_;rintro _ _ ⟨hf,rfl⟩;refine ⟨(y1.t (y2.t (y3.t (y4.t (y5.t (D.t (V.t (g4.t (g5.t (gN.t hf)))))))))),?_⟩;congr 1;rw [decide_eq_decide,zbK];constructor
 . exact λh=>⟨qaf.1 c6,oo,hT,by rw [qah gM];omega⟩
 intro h;have:=h.2.2.2;rw [qah gM] at this;omega
def CodeR (c:DCode):Prop:=NamesR c/\EntS c/\∀ j,j<c.ins.length->zin c (zap c j) (en c (zaA c j).toNat) (zf5 c (zaA c j)+1)
instance (c:DCode):Decidable (CodeR c):=by unfold CodeR;infer_instance
def EntS.nonneg (h:EntS c):∀ i,i<c.entry.length->0<=en c i:=zjF h.2.2.1
def NamesR.procs8 (h:NamesR c):c.procs.length<=8/\0<c.procs.length:=by
 have h1:=h.2.2.1;simp only [qap,qau] at h1;have:=qb4 h.2.2.2.2.2.2;omega
theorem zjG {c:DCode} {a:Int} (h0:en c 0<=a):∀ {n:Nat},0<n->0<=prc c a n
 | 1,_=>by rw [prc,qah h0];omega
 | n+2,_=>by
   rw [prc];split
   . omega
   exact zjG h0 oo
def zoC (hn:NamesR c) (h:EntS c) {a:Int} (ha:0<=a):0<=zaA c a:=by
 have:=hn.procs8;have:=h.1;exact zjG (by have:=(h.2.2.1 0 oo).1 rfl;omega) oo
def zgG  (h0:Is W0 v0 c) (e0:Ext W0 w)  :
   CALL tp 35 [v0] w λr w'=>Ext w w'/\(r=.bool (decide (CodeR c))):=by
 refine co (g:=kf [] [(4,262028,[3])] []) Tryz.func35 ?_;refine za2 zbO rfl h0 e0 λg4 y1 g5 g1=>zcC g1 (xrf g4) ?_;refine (zrD h0 (e0.t y1)).mono ?_;rintro _ g2 ⟨y2,rfl⟩
 skip
 refine za0<|br (λc1=>?_) (λc1=>?_)
 . refine ⟨(y1.t y2),?_⟩;have:¬CodeR c:=λh=>c1 ⟨h.1,h.2.1⟩;simp only [this,qak]
 refine zar (c.ins.length) (λk us w'=>us=[.int .i64 (k:Int)]/\Ext g2 w'/\(∀ j,j<k->zin c (zap c j) (en c (zaA c j).toNat) (zf5 c (zaA c j)+1))) (0) oo ⟨ss,xrf g2,λ_ h=>oo⟩ ?_;rintro k m4 _ _ _ ⟨hu,y3,g0⟩;try replace hu:=zbv hu
 try rw [hu]
 try clear hu
 replace c1:=qaf.1 c1;refine zaa zaH<|zab zcQ (zao g5) (y2.t y3) λ_ h9=>?_;have g3:=zan h9;refine zae u32 h9<|zah<|br (λc2=>?_) (λc2=>?_)
 . refine zcC g1 (y2.t y3) ?_;refine (zwu h0 (e0.t (y1.t (y2.t y3))) oo c1.2.nonneg (by have:=c1.1.procs8;have:=c1.2.1;omega) (zoC c1.1 c1.2 oo)).mono ?_;rintro _ _ ⟨y4,rfl⟩;refine za0<|br (λc3=>?_) (λc3=>?_)
   . refine ⟨(y1.t (y2.t (y3.t y4))),?_⟩;have:¬CodeR c:=λh=>c3 (h.2.2 k oo);simp only [this,qak]
   refine zaw<|⟨m4-1,oo,k+1,oo,ss,(y3.t y4),?_⟩;exact ziX g0 (qaf.1 c3)
 refine ⟨(y1.t (y2.t y3)),?_⟩;have:CodeR c:=⟨c1.1,c1.2,λj _=>g0 j oo⟩;simp only [this,qbb]
def zoD  (h0:Is W0 v0 c) (e0:Ext W0 w)  :
   CALL tp 111 [v0] w λr w'=>Ext w w'/\(r=.bool (decide (NamesR c))):=by
 refine co (g:=kf [] [] []) Tryz.func111 ?_;refine za2 zbO rfl h0 e0 λg0 y1 C _=>zaa zez<|zab zb9 (zbH C) (xrf g0) λ_ h4=>?_;refine (zfd h4 (xrf g0)).mono ?_;rintro _ _ ⟨y2,rfl⟩;refine zau<|zaN (λc1=>?_) (λc1=>?_)
 . refine ⟨(y1.t y2),?_⟩;have:¬NamesR c:=λh=>by rw [h.1] at c1;cases c1
   simp only [this,qak]
 refine zaa zdM<|zab zb9 (zbq C) y2 λ_ h9=>?_;refine (zfd h9 y2).mono ?_;rintro _ _ ⟨y3,rfl⟩;refine zau<|zaN (λc2=>?_) (λc2=>?_)
 . refine ⟨(y1.t (y2.t y3)),?_⟩;have:¬NamesR c:=λh=>by rw [h.2.1] at c2;cases c2
   simp only [this,qak]
 refine zaa zby<|zab zb9 (zay C) (y2.t y3) λ_ g1=>?_;refine (zfd g1 (y2.t y3)).mono ?_;rintro _ _ ⟨y4,rfl⟩;refine zau<|zaN (λc3=>?_) (λc3=>?_)
 . refine ⟨(y1.t (y2.t (y3.t y4))),?_⟩;have:¬NamesR c:=λh=>by rw [h.2.2.1] at c3;cases c3
   simp only [this,qak]
 refine zaa zez<|zab zb9 (zbH C) (y2.t (y3.t y4)) λ_ g2=>?_;refine (zel g2 (y2.t (y3.t y4))).mono ?_;rintro _ _ ⟨y5,rfl⟩;refine br (λc4=>?_) (λc4=>?_)
 . refine ⟨(y1.t (y2.t (y3.t (y4.t y5)))),?_⟩;have:¬NamesR c:=λh=>c4 h.2.2.2.1;simp only [this,qak]
 refine zaa zdM<|zab zb9 (zbq C) (y2.t (y3.t (y4.t y5))) λ_ g3=>?_;refine (zel g3 (y2.t (y3.t (y4.t y5)))).mono ?_;rintro _ _ ⟨y6,rfl⟩;refine br (λc5=>?_) (λc5=>?_)
 . refine ⟨(y1.t (y2.t (y3.t (y4.t (y5.t y6))))),?_⟩;have:¬NamesR c:=λh=>c5 h.2.2.2.2.1;simp only [this,qak]
 refine zaa zby<|zab zb9 (zay C) (y2.t (y3.t (y4.t (y5.t y6)))) λ_ g4=>?_;refine (zel g4 (y2.t (y3.t (y4.t (y5.t y6))))).mono ?_;rintro _ _ ⟨y7,rfl⟩;refine br (λc6=>?_) (λc6=>?_)
 . refine ⟨(y1.t (y2.t (y3.t (y4.t (y5.t (y6.t y7)))))),?_⟩;have:¬NamesR c:=λh=>c6 h.2.2.2.2.2.1;simp only [this,qak]
 refine zaa zby<|zab zb9 (zay C) (y2.t (y3.t (y4.t (y5.t (y6.t y7))))) λ_ g5=>?_;refine (zcb g5 (y2.t (y3.t (y4.t (y5.t (y6.t y7)))))).mono ?_;rintro _ _ ⟨y8,rfl⟩;refine ⟨(y1.t (y2.t (y3.t (y4.t (y5.t (y6.t (y7.t y8))))))),?_⟩;congr 1;rw [decide_eq_decide];exact ⟨λh=>⟨by simpa using c1,by simpa using c2,by simpa using c3,qaf.1 c4,qaf.1 c5,qaf.1 c6,h⟩,λh=>h.2.2.2.2.2.2⟩
def zoE (c:DCode):Nat->Nat
 | 0=>0
 | k+1=>zoE c k+if (zap c k).op=9 then 1 else 0
theorem zwv (c:DCode):∀ k,zoE c k<=k
 | 0=>qaE _
 | k+1=>by have:=zwv c k;rw [zoE];split<;>omega
def EntI (c:DCode):Prop:=c.ins.length<=1500/\c.entry.length=c.procs.length/\en c 0=0/\zoE c c.ins.length=c.entry.length /\
 ∀ i,i<c.entry.length->en c i<zet c i/\zet c i<=c.ins.length/\(zap c (zet c i-1).toNat).op=9
instance (c:DCode):Decidable (EntI c):=by unfold EntI;infer_instance
theorem zio {c:DCode} (h0:en c 0=0):∀ {q:Nat},q<c.entry.length->(∀ i,i<q->en c i<zet c i)->0<=en c q
 | 0,_,_=>oo
 | q+1,hq,h=>by
   have h1:=zio h0 (q:=q) oo λi hi=>h i oo;have h2:=h q oo;unfold zet at h2;rw [qah hq] at h2;omega
def zlJ  (h0:Is W0 v0 c) (e0:Ext W0 w) (hp:0<c.procs.length) :
   CALL tp 112 [v0] w λr w'=>Ext w w'/\(r=.bool (decide (EntI c))):=by
 refine co (g:=kf [(18,9442427122730076733696,[8])] [(5,4393751543848,[3,32]),(13,19807040628564958498479145412,[50])] [(15,[0,1,2,3,4,5,6,7,8,9],0)]) Tryz.func112 ?_;refine za2 zbO rfl h0 e0 λD y1 C _=>zaa zaH<|zab zcQ (zao C) (xrf D) λ_ g3=>?_;have g4:=zan g3;refine zae u32 g3<|zbZ<|br (λc1=>?_) (λc1=>?_)
 . refine ⟨y1,?_⟩;have:¬EntI c:=λh=>by have:=h.1;omega
   simp only [this,qak]
 refine zaa zbj<|zab zcn (zav C) (xrf D) λ_ g5=>?_;have g9:=zan g5;refine zae u31 g5<|zaa zby<|zab zb9 (zay C) (xrf D) λ_ gb=>?_;have gc:=zan gb;refine zae u26 gb<|zaJ<|br (λc2=>?_) (λc2=>?_)
 . refine ⟨y1,?_⟩;have:¬EntI c:=λh=>by have:=h.2.1;omega
   simp only [this,qak]
 refine zaa zbj<|zab zcn (zav C) (xrf D) λ_ gz=>zdo u31 ty3 gz oo oo λ_ _ gA=>zad ty3 gA (xrf D) λ_=>zaJ<|br (λc3=>?_) (λc3=>?_)
 . refine ⟨y1,?_⟩;rw [zbK] at c3;have:¬EntI c:=λh=>c3 h.2.2.1;simp only [this,qak]
 refine zaa zaH<|zab zcQ (zao C) (xrf D) λ_ g1=>?_;have gd:=zan g1;refine zae u32 g1<|zar (c.ins.length) (λk us w'=>us=[.int .i64 (zoE c k:Int),.int .i64 (k:Int)]/\Ext D w'/\(True)) (0) oo ⟨rfl,xrf D,trivial⟩ ?_;rintro k m5 _ gf _ ⟨hu,y2,g2⟩;obtain ⟨gg,gh⟩:=zcv hu;clear hu;try rw [gg]
 try rw [gh]
 try clear gg gh
 have hel:=zwv c k;refine zah<|br (λc4=>?_) (λc4=>?_)
 . refine zac u32 zdw g1 oo λ_ _ gB=>?_;refine zab zdw gB y2 λ_ gi=>?_;rw [zaR] at gi;refine zbN zsM rfl zdw rfl gi y2 λgC y3 gD _=>zaa zbE<|zad ty3 (zaD gD) (xrf gC) λ_=>zag<|br (λc5=>?_) (λc5=>?_)
   . refine zaw ?_;refine zaw<|⟨m5-1,oo,k+1,oo,by rw [zoE,qah c5],(y2.t y3),?_⟩;trivial
   refine zaw<|⟨m5-1,oo,k+1,oo,by rw [zoE,qad c5];rfl,(y2.t y3),?_⟩;trivial
 refine zaa zbj<|zab zcn (zav C) y2 λ_ gj=>?_;have gl:=zan gj;refine zae u31 gj<|zaJ<|br (λc6=>?_) (λc6=>?_)
 . refine ⟨(y1.t y2),?_⟩;have:¬EntI c:=λh=>c6 (by rw [show k=c.ins.length by omega,h.2.2.2.1]);simp only [this,qak]
 refine zaa zbj<|zab zcn (zav C) y2 λ_ gn=>?_;have gp:=zan gn;refine zae u31 gn<|zar (c.entry.length) (λq us w'=>us=[.int .i64 (q:Int)]/\Ext gf w'/\(∀ i,i<q->en c i<zet c i/\zet c i<=c.ins.length/\(zap c (zet c i-1).toNat).op=9)) (0) oo ⟨ss,xrf gf,λi h=>oo⟩ ?_;rintro q gE _ g0 _ ⟨hu,y4,M⟩;try replace hu:=zbv hu
 try rw [hu]
 try clear hu
 refine zah<|br (λc7=>?_) (λc7=>?_)
 . have y5:=zai g0;refine zaa zbj<|zab zcn (zav C) (y2.t (y4.t y5)) λ_ gF=>zac u31 ty3 gF oo λ_ _ gG=>zad ty3 gG (y2.t (y4.t y5)) λ_=>zaa zaH<|zab zcQ (zao C) (y2.t (y4.t y5)) λ_ gq=>?_;have gr:=zan gq;refine zae u32 gq<|JOIN.mk (λus w'=>us=[.int .i64 (zet c q)]/\Ext (World.drew1 g0) w'/\(True)) ?_ ?_
   . refine zaw ?_;refine zaa zbj<|zab zcn (zav C) (y2.t (y4.t y5)) λ_ gs=>?_;have gt:=zan gs;refine zae u31 gs<|zah<|br (λc8=>?_) (λc8=>?_)
     . refine zaa zbj ?_;refine zab zcn (zav C) (y2.t (y4.t y5)) λ_ gH=>zaw<|zac u31 ty3 gH oo λ_ _ gI=>zad ty3 gI (y2.t (y4.t y5)) λ_=>⟨by unfold zet;rw [qah oo,zbK],xrf (World.drew1 g0),?_⟩;trivial
     refine ⟨by unfold zet;rw [qad oo],xrf (World.drew1 g0),?_⟩;trivial
   rintro _ _ ⟨hu,y6,g2⟩;try replace hu:=zbv hu
   try rw [hu]
   try clear hu
   refine zdJ<|br (λc9=>?_) (λc9=>?_)
   . refine ⟨(y1.t (y2.t (y4.t (y5.t y6)))),?_⟩;rw [zbK] at c9;have:¬EntI c:=λh=>by have:=(h.2.2.2.2 q oo).1;omega
     simp only [this,qak]
   refine zaa zaH<|zab zcQ (zao C) (y2.t (y4.t (y5.t y6))) λ_ gx=>?_;have gy:=zan gx;refine zae u32 gx<|zbZ<|br (λgJ=>?_) (λgJ=>?_)
   . refine ⟨(y1.t (y2.t (y4.t (y5.t y6)))),?_⟩;have:¬EntI c:=λh=>by have:=(h.2.2.2.2 q oo).2.1;omega
     simp only [this,qak]
   refine zaa zaH<|zab zcQ (zao C) (y2.t (y4.t (y5.t y6))) λ_ gK=>?_;rw [zbK] at c3 c9;have hq0:=zio (qaf.1 c3) (q:=q) oo λi hi=>(M i hi).1;refine zbp io<|zdo u32 zdw gK oo oo λ_ _ gL=>zaa zbE<|zad ty3 (zaD gL) (y2.t (y4.t (y5.t y6))) λ_=>zaJ<|br (λO=>?_) (λO=>?_)
   . refine ⟨(y1.t (y2.t (y4.t (y5.t y6)))),?_⟩;rw [zaR] at O;have:¬EntI c:=λh=>O (h.2.2.2.2 q oo).2.2;simp only [this,qak]
   refine zaw<|⟨gE-1,oo,q+1,oo,ss,(y4.t (y5.t y6)),?_⟩;rw [zaR] at O;exact ziX M ⟨oo,oo,qaf.1 O⟩
 refine ⟨(y1.t (y2.t y4)),?_⟩;rw [zbK] at c3;have:EntI c:=⟨oo,oo,qaf.1 c3,by rw [show c.ins.length=k by omega];omega,λi hi=>M i oo⟩;simp only [this,qbb]
def zuj  (h0:Is W0 v0 c) (e0:Ext W0 w)  :
   CALL tp 187 [v0,.int .i64 op] w λr w'=>Ext w w'/\(r=.int .i64 (zcy c op)):=by
 refine co (g:=kf [] [] []) Tryz.func187 ?_;refine za2 zbO rfl h0 e0 λC y1 D _=>zag<|br (λc1=>?_) (λc1=>?_)
 . refine zaa zez ?_;refine zab zb9 (zbH D) (xrf C) λ_ h9=>?_;have:=zan h9;refine zae u26 h9<|⟨y1,?_⟩;unfold zcy;rw [qah c1]
 refine zag<|br (λc2=>?_) (λc2=>?_)
 . refine zaa zby ?_;refine zab zb9 (zay D) (xrf C) λg2 M=>?_;have g0:=zan M;refine zae u26 M<|⟨y1,?_⟩;unfold zcy;rw [qad oo,qah oo]
 refine zag<|br (λc3=>?_) (λc3=>?_)
 . refine zaa zby ?_;refine zab zb9 (zay D) (xrf C) λg2 M=>?_;have g0:=zan M;refine zae u26 M<|⟨y1,?_⟩;unfold zcy;rw [qad oo,qah oo]
 refine zag<|br (λc4=>?_) (λc4=>?_)
 . refine zaa zdM ?_;refine zab zb9 (zbq D) (xrf C) λg3 O=>?_;have g1:=zan O;refine zae u26 O<|⟨y1,?_⟩;unfold zcy;rw [qad oo,qad oo,qah oo]
 refine zag<|br (λc5=>?_) (λc5=>?_)
 . refine zaa zdM ?_;refine zab zb9 (zbq D) (xrf C) λg3 O=>?_;have g1:=zan O;refine zae u26 O<|⟨y1,?_⟩;unfold zcy;rw [qad oo,qad oo,qah oo]
 refine ⟨y1,?_⟩;unfold zcy;rw [qad oo,qad oo,qad oo]
def zrE {a:DIns} {b:Int} {e:Int}  (h0:Is W0 v0 c) (e0:Ext W0 w) (h1:Is W1 v1 a) (e1:Ext W1 w)  :
   CALL tp 114 [v0,v1,.int .i64 b,.int .i64 e] w λr w'=>Ext w w'/\(r=.bool (decide (zin c a b e))):=by
 refine co (g:=kf [(14,9223372028264842496,[])] [(7,575897802350003456,[49])] [(1,[0,1,2,3,4,5,6,7,8,9,10,11,12,13,14,15,16,17,18,19,20,21],524288)]) Tryz.func114 ?_;refine za2 zbO rfl h0 e0 λ_ y1 gi gn=>za2 zdw rfl h1 (e1.trans y1) λgp y2 C _=>?_;have y3:=zai gp;refine zaa zbE<|zad ty3 (zaD C) y3 λ_=>zah<|br (λc1=>?_) (λc1=>?_)
 . refine ⟨(y1.t (y2.t y3)),?_⟩;have:¬zin c a b e:=λh=>by have:=h.1;omega
   simp only [this,qak]
 refine zaa zbE<|zad ty3 (zaD C) y3 λ_=>zbZ<|br (λc2=>?_) (λc2=>?_)
 . refine ⟨(y1.t (y2.t y3)),?_⟩;have:¬zin c a b e:=λh=>by have:=h.1;omega
   simp only [this,qak]
 refine zaa zbG<|zad ty3 (zaF C) y3 λ_=>zah<|br (λc3=>?_) (λc3=>?_)
 . refine ⟨(y1.t (y2.t y3)),?_⟩;have:¬zin c a b e:=λh=>by have:=h.2.1;omega
   simp only [this,qak]
 refine zaa zbG<|zad ty3 (zaF C) y3 λ_=>zcC gn (y2.t y3)<|zaa zbE<|zad ty3 (zaD C) y3 λ_=>?_;refine (zuj h0 (e0.t (y1.t (y2.t y3)))).mono ?_;rintro _ gq ⟨y4,rfl⟩;refine ⟨y4,?_⟩;refine zcH<|br (λc4=>?_) (λc4=>?_)
 . refine ⟨(y1.t (y2.t (y3.t y4))),?_⟩;have:¬zin c a b e:=λh=>by have:=h.2.1;omega
   simp only [this,qak]
 refine JOIN.mk (λus w'=>us=[]/\Ext gq w'/\(if a.op=1\/a.op=2 then zbg 6 a.term=true/\(∀ s∈zbf a.term,s∈c.globals) else a.term=term0)) ?_ ?_
 . refine zaa zbE ?_;refine zad ty3 (zaD C) (y3.t y4) λ_=>zag<|br (λc5=>?_) (λc5=>?_)
   . refine zaa zgZ ?_;refine zab zcD (zcZ C) (y3.t y4) λgr g4=>?_;refine (zdp g4 (y3.t y4)).mono ?_;rintro _ _ ⟨y6,rfl⟩;refine zau<|zaN (λc6=>?_) (λc6=>?_)
     . refine ⟨(y1.t (y2.t (y3.t (y4.t y6)))),?_⟩;have:¬zin c a b e:=λh=>by have:=h.2.2.1;rw [qah (.inl c5)] at this;rw [this.1] at c6;cases c6
       simp only [this,qak]
     refine zaa zgZ<|zab zcD (zcZ C) (y3.t (y4.t y6)) λgs g5=>?_;refine (zfU g5 (y3.t (y4.t y6))).mono ?_;rintro gt gj ⟨y7,O⟩;have g0:=zan O;refine zae u26 O<|zar ((zbf a.term).length) (λk us w'=>us=[.int .i64 (k:Int)]/\Ext gj w'/\(∀ s∈(zbf a.term).take k,s∈c.globals)) (0) oo ⟨ss,xrf gj,ss⟩ ?_;rintro k m7 gx _ gy ⟨hu,y8,D⟩;try replace hu:=zbv hu
     try rw [hu]
     try clear hu
     refine zah<|br (λc7=>?_) (λc7=>?_)
     . refine zac u26 ty9 O oo λgz gA g9=>?_;refine zaq ty9 g9 y8 λgb=>zaa zez<|zab zb9 (zbH gi) (y2.t (y3.t (y4.t (y6.t (y7.t y8))))) λgB gc=>?_;refine (zcb gc (y2.t (y3.t (y4.t (y6.t (y7.t y8)))))).mono ?_;rintro _ _ ⟨y9,rfl⟩;refine za0<|br (λc8=>?_) (λc8=>?_)
       . refine ⟨(y1.t (y2.t (y3.t (y4.t (y6.t (y7.t (y8.t y9))))))),?_⟩
         have:¬zin c a b e:=λh=>by
           have:=h.2.2.1;rw [qah (.inl c5)] at this;exact c8 (this.2 _ (qac (n:=k) oo))
         simp only [this,qak]
       refine zaw<|⟨m7-1,oo,k+1,oo,ss,(y8.t y9),?_⟩;intro s hs;rw [tk oo] at hs;rcases qae.1 hs with hs | hs
       . exact D s hs
       simp only [qaa,qag,qaz] at hs;subst hs;exact qaf.1 c8
     refine ⟨ss,(y6.t (y7.t y8)),?_⟩;rw [qah (.inl c5)];rw [qai oo] at D;exact ⟨by simpa using c6,D⟩
   refine zaa zbE<|zad ty3 (zaD C) (y3.t y4) λ_=>zag<|br (λc9=>?_) (λc9=>?_)
   . refine zaa zgZ ?_;refine zab zcD (zcZ C) (y3.t y4) λgr g4=>?_;refine (zdp g4 (y3.t y4)).mono ?_;rintro _ _ ⟨U,rfl⟩;refine zau<|zaN (λg2=>?_) (λg2=>?_)
     . refine ⟨(y1.t (y2.t (y3.t (y4.t U)))),?_⟩;have:¬zin c a b e:=λh=>by have:=h.2.2.1;rw [qah (.inr c9)] at this;rw [this.1] at g2;cases g2
       simp only [this,qak]
     refine zaa zgZ<|zab zcD (zcZ C) (y3.t (y4.t U)) λgs g5=>?_;refine (zfU g5 (y3.t (y4.t U))).mono ?_;rintro gt g1 ⟨g3,O⟩;have g0:=zan O;refine zae u26 O<|zar ((zbf a.term).length) (λk us w'=>us=[.int .i64 (k:Int)]/\Ext g1 w'/\(∀ s∈(zbf a.term).take k,s∈c.globals)) (0) oo ⟨ss,xrf g1,ss⟩ ?_;rintro k m7 gx _ gy ⟨hu,V,D⟩;try replace hu:=zbv hu
     try rw [hu]
     try clear hu
     refine zah<|br (λgC=>?_) (λgC=>?_)
     . refine zac u26 ty9 O oo λgz gA g9=>?_;refine zaq ty9 g9 V λgb=>zaa zez<|zab zb9 (zbH gi) (y2.t (y3.t (y4.t (U.t (g3.t V))))) λgB gc=>?_;refine (zcb gc (y2.t (y3.t (y4.t (U.t (g3.t V)))))).mono ?_;rintro _ _ ⟨gl,rfl⟩;refine za0<|br (λgd=>?_) (λgd=>?_)
       . refine ⟨(y1.t (y2.t (y3.t (y4.t (U.t (g3.t (V.t gl))))))),?_⟩
         have:¬zin c a b e:=λh=>by
           have:=h.2.2.1;rw [qah (.inr c9)] at this;exact gd (this.2 _ (qac (n:=k) oo))
         simp only [this,qak]
       refine zaw<|⟨m7-1,oo,k+1,oo,ss,(V.t gl),?_⟩;intro s hs;rw [tk oo] at hs;rcases qae.1 hs with hs | hs
       . exact D s hs
       simp only [qaa,qag,qaz] at hs;subst hs;exact qaf.1 gd
     refine ⟨ss,(U.t (g3.t V)),?_⟩;rw [qah (.inr c9)];rw [qai oo] at D;exact ⟨by simpa using g2,D⟩
   refine zaa zgZ<|zab zcD (zcZ C) (y3.t y4) λ_ gD=>?_;refine (zdr gD (y3.t y4)).mono ?_;rintro _ _ ⟨M,rfl⟩;refine za0<|br (λgf=>?_) (λgf=>?_)
   . refine ⟨(y1.t (y2.t (y3.t (y4.t M)))),?_⟩;have:¬zin c a b e:=λh=>by have:=h.2.2.1;rw [qad oo] at this;exact gf this
     simp only [this,qak]
   refine ⟨ss,M,?_⟩;rw [qad oo];exact qaf.1 gf
 rintro _ _ ⟨hu,M,hT⟩;try replace hu:=zbv hu
 clear hu;refine zaa zbE<|zad ty3 (zaD C) (y3.t (y4.t M)) λ_=>zag<|br (λgE=>?_) (λgE=>?_)
 . refine zaa zfa ?_;refine zad ty3 (zcJ C) (y3.t (y4.t M)) λgg=>zcH<|br (λgF=>?_) (λgF=>?_)
   . refine zaa zfa ?_;refine zad ty3 (zcJ C) (y3.t (y4.t M)) λgh=>zah<|⟨(y1.t (y2.t (y3.t (y4.t M)))),?_⟩
     first
       | (have no:¬zin c a b e:=λh=>by
           have h4:=h.2.2.2;rw [qah oo] at h4;omega
          simp only [no,qak]
          done)
       | (congr 1
          rw [decide_eq_decide];constructor
          . exact λh=>⟨oo,oo,hT,by first | (rw [qah oo];omega) | (rw [qad oo];omega)⟩
          intro h;have h4:=h.2.2.2
          first | (rw [qah oo] at h4;omega) | (rw [qad oo] at h4;omega))
   refine ⟨(y1.t (y2.t (y3.t (y4.t M)))),?_⟩
   first
     | (have no:¬zin c a b e:=λh=>by
         have h4:=h.2.2.2;rw [qah oo] at h4;omega
        simp only [no,qak]
        done)
     | (congr 1
        rw [decide_eq_decide];constructor
        . exact λh=>⟨oo,oo,hT,by first | (rw [qah oo];omega) | (rw [qad oo];omega)⟩
        intro h;have h4:=h.2.2.2
        first | (rw [qah oo] at h4;omega) | (rw [qad oo] at h4;omega))
 refine zaa zbE<|zad ty3 (zaD C) (y3.t (y4.t M)) λ_=>zag<|br (λgG=>?_) (λgG=>?_)
 . refine zaa zfa ?_;refine zad ty3 (zcJ C) (y3.t (y4.t M)) λgg=>zcH<|br (λgH=>?_) (λgH=>?_)
   . refine zaa zfa ?_;refine zad ty3 (zcJ C) (y3.t (y4.t M)) λgh=>zah<|⟨(y1.t (y2.t (y3.t (y4.t M)))),?_⟩
     first
       | (have no:¬zin c a b e:=λh=>by
           have h4:=h.2.2.2;rw [qah oo] at h4;omega
          simp only [no,qak]
          done)
       | (congr 1
          rw [decide_eq_decide];constructor
          . exact λh=>⟨oo,oo,hT,by first | (rw [qah oo];omega) | (rw [qad oo];omega)⟩
          intro h;have h4:=h.2.2.2
          first | (rw [qah oo] at h4;omega) | (rw [qad oo] at h4;omega))
   refine ⟨(y1.t (y2.t (y3.t (y4.t M)))),?_⟩
   first
     | (have no:¬zin c a b e:=λh=>by
         have h4:=h.2.2.2;rw [qah oo] at h4;omega
        simp only [no,qak]
        done)
     | (congr 1
        rw [decide_eq_decide];constructor
        . exact λh=>⟨oo,oo,hT,by first | (rw [qah oo];omega) | (rw [qad oo];omega)⟩
        intro h;have h4:=h.2.2.2
        first | (rw [qah oo] at h4;omega) | (rw [qad oo] at h4;omega))
 refine zaa zfa<|zad ty3 (zcJ C) (y3.t (y4.t M)) λ_=>zag<|⟨(y1.t (y2.t (y3.t (y4.t M)))),?_⟩
 first
   | (have no:¬zin c a b e:=λh=>by
       have h4:=h.2.2.2;rw [qah oo] at h4;omega
      simp only [no,qak]
      done)
   | (congr 1
      rw [decide_eq_decide];constructor
      . exact λh=>⟨oo,oo,hT,by first | (rw [qah oo];omega) | (rw [qad oo];omega)⟩
      intro h;have h4:=h.2.2.2
      first | (rw [qah oo] at h4;omega) | (rw [qad oo] at h4;omega))
def zdO  (h0:Is W0 v0 c) (e0:Ext W0 w) (hi:i<1000000000000) :
   CALL tp 113 [v0,.int .i64 (i:Int)] w λr w'=>Ext w w'/\(r=.int .i64 (zet c i)):=by
 refine co (g:=kf [] [] []) Tryz.func113 ?_;refine za2 zbO rfl h0 e0 λg0 y1 g1 _=>zaw<|zaa zbj<|zab zcn (zav g1) (xrf g0) λ_ h8=>?_;have:=zan h8;refine zae u31 h8<|zah<|br (λc1=>?_) (λc1=>?_)
 . refine zaa zbj ?_;refine zab zcn (zav g1) (xrf g0) λ_ g3=>zaw<|zac u31 ty3 g3 oo λ_ _ g4=>zad ty3 g4 (xrf g0) λ_=>⟨y1,?_⟩;unfold zet;rw [qah oo,zbK]
 refine zaa zaH<|zab zcQ (zao g1) (xrf g0) λ_ g2=>?_;have:=zan g2;refine zae u32 g2<|⟨y1,?_⟩;unfold zet;rw [qad oo]
structure EntF (c:DCode):Prop where
 len:c.entry.length=c.procs.length
 ins:c.ins.length<=1500
 zero:en c 0=0
 lt:∀ i,i<c.entry.length->en c i<zet c i/\zet c i<=c.ins.length
def EntF.nonneg (h:EntF c) {i:Nat} (hi:i<c.entry.length):0<=en c i:=zio h.zero hi λj hj=>(h.lt j oo).1
def EntF.step (h:EntF c) {i:Nat} (hi:i+1<c.entry.length):zet c i=en c (i+1):=by unfold zet;rw [qah hi]
def EntF.last (h:EntF c) {i:Nat} (hi:i+1=c.entry.length):zet c i=c.ins.length:=by unfold zet;rw [qad oo]
theorem EntF.mono (h:EntF c):∀ {i j:Nat},i<j->j<c.entry.length->zet c i<=en c j
 | i,j+1,hij,hj=>by
   by_cases e:i=j
   . subst e;rw [h.step hj];exact qda _
   have h1:=h.mono (i:=i) (j:=j) oo oo;have h2:=(h.lt j oo).1;rw [h.step hj] at h2;omega
def EntF.proc (h:EntF c) {i:Nat} {a:Int} (hi:i<c.entry.length) (h1:en c i<=a) (h2:a<zet c i):zaA c a=i:=by
 unfold zaA;rw [zkI (m:=i+1) oo λj _ g0=>by have:=h.mono (i:=i) (j:=j) oo g0;omega];rw [prc,qah h1]
def EntF.find (h:EntF c) (hp:0<c.procs.length) {a:Int} (h0:0<=a) (h1:a<c.ins.length):∃ i,i<c.entry.length/\en c i<=a/\a<zet c i/\zaA c a=i:=by
 have:=h.len;have:0<=zaA c a:=zjG (by rw [h.zero];exact h0) oo;have:=(ziW (c:=c) (a:=a)).2
 have g1:∀ n,n<=c.entry.length->(∀ j,n<=j->j<c.entry.length->a<en c j)->0<n->∃ i,i<n/\en c i<=a/\a<zet c i:=by
   intro n
   induction n with
   | zero=>intro _ _ h;omega
   | succ n ih=>
     intro _ hj _;by_cases hle:en c n<=a
     . refine ⟨n,oo,hle,?_⟩;by_cases hl:n+1<c.entry.length
       . rw [h.step hl];exact hj (n+1) oo hl
       rw [h.last oo];exact h1
     by_cases h0n:n=0
     . subst h0n;rw [h.zero] at hle;omega
     obtain ⟨i,hi,hx⟩:=ih oo (λj g2 g0=>by
       by_cases e:j=n
       . subst e;omega
       exact hj j oo g0) oo
     exact ⟨i,oo,hx⟩
 obtain ⟨i,hi,hx,hy⟩:=g1 c.entry.length (lr _) (λj g2 g0=>oo) oo;exact ⟨i,hi,hx,hy,h.proc hi hx hy⟩
def EntS.f (h:EntS c) (hp:0<c.procs.length):EntF c:=by
 obtain ⟨h1,h2,h3,_⟩:=h;refine ⟨h1,h2,(h3 0 oo).1 rfl,λi hi=>?_⟩;unfold zet;split
 . rename_i hl;have:=h3 (i+1) hl;have h5:=this.2.1 oo;simp only [qbL] at h5;exact ⟨h5,oo⟩
 exact ⟨(h3 i hi).2.2,qda _⟩
def EntI.f (h:EntI c):EntF c:=⟨h.2.1,h.1,h.2.2.1,λi hi=>⟨(h.2.2.2.2 i hi).1,(h.2.2.2.2 i hi).2.1⟩⟩
theorem zww (c:DCode) (a:Nat):∀ (d:Nat),zoE c a<=zoE c (a+d)/\(zoE c (a+d)=zoE c a↔∀ j,a<=j->j<a+d->¬(zap c j).op=9)
 | 0=>⟨qaE _,⟨λ_ j h1 h2=>oo,λ_=>rfl⟩⟩
 | d+1=>by
   obtain ⟨h1,h2⟩:=zww c a d;rw [<-qbW,zoE];refine ⟨oo,?_⟩;split
   . rename_i h9;exact ⟨λh=>oo,λh=>absurd h9 (h (a+d) oo oo)⟩
   rename_i h9;rw [qck,h2];constructor
   . intro h j hj1 hj2;by_cases e:j=a+d
     . subst e;exact h9
     exact h j hj1 oo
   exact λh j hj1 hj2=>h j hj1 oo
def eb (c:DCode) (n:Nat):Nat:=if n=0 then 0 else (zet c (n-1)).toNat
def EntF.eb_en (h:EntF c) {n:Nat} (hn:n<c.entry.length):(eb c n:Int)=en c n:=by
 unfold eb;split
 . rename_i h0;subst h0;rw [h.zero];rfl
 have h1:=h.nonneg hn
 have h2:zet c (n-1)=en c n:=by
   have:=h.step (i:=n-1) oo;rwa [show n-1+1=n by omega] at this
 rw [h2];omega
def EntF.eb_succ (h:EntF c) {n:Nat} (hn:n<c.entry.length):(eb c (n+1):Int)=zet c n:=by
 unfold eb;rw [qad oo,qbL];have:=(h.lt n hn).1;have:=h.nonneg hn;omega
theorem zjH {c:DCode} (h:EntF c) (he:∀ i,i<c.entry.length->(zap c (zet c i-1).toNat).op=9):∀ n,n<=c.entry.length ->
   n<=zoE c (eb c n)/\(zoE c (eb c n)=n↔∀ j:Nat,j<eb c n->(zap c j).op=9->∃ i,i<n/\zet c i=j+1)
 | 0,_=>⟨qbt _,⟨λ_ j hj=>by simp [eb] at hj,λ_=>rfl⟩⟩
 | n+1,hn=>by
   obtain ⟨_,h2⟩:=zjH h he n oo;have:=h.eb_en (n:=n) oo;have:=h.eb_succ (n:=n) oo;have:=(h.lt n oo).1;have h9:=he n oo;have e9:(zet c n-1).toNat=eb c (n+1)-1:=oo;rw [e9] at h9;obtain ⟨d,hd⟩:∃ d,eb c (n+1)=eb c n+d+1:=⟨eb c (n+1)-eb c n-1,oo⟩;have g1:eb c (n+1)-1=eb c n+d:=oo;rw [g1] at h9;obtain ⟨_,h4⟩:=zww c (eb c n) d;rw [hd,zoE,qah h9];refine ⟨oo,?_⟩;have g0:zoE c (eb c n+d)+1=n+1↔(zoE c (eb c n)=n/\zoE c (eb c n+d)=zoE c (eb c n)):=oo;rw [g0,h2,h4];constructor
   . rintro ⟨p1,p2⟩ j hj C;by_cases hja:j<eb c n
     . obtain ⟨i,hi,hx⟩:=p1 j hja C;exact ⟨i,oo,hx⟩
     by_cases hje:j=eb c n+d
     . exact ⟨n,oo,oo⟩
     exact absurd C (p2 j oo oo)
   intro p;constructor
   . intro j hj C;obtain ⟨i,hi,hx⟩:=p j oo C;by_cases hin:i=n
     . subst hin;omega
     exact ⟨i,oo,hx⟩
   intro j _ _ C;obtain ⟨i,hi,hx⟩:=p j oo C;by_cases hin:i=n
   . subst hin;omega
   have:=h.mono (i:=i) (j:=n) oo oo;omega
def zwx (hp:0<c.procs.length):EntI c↔EntS c:=by
 constructor
 . intro h;have hf:=h.f;obtain ⟨_,_,_,hc,g0⟩:=h;have g1:=hf.len;have he:∀ i,i<c.entry.length->(zap c (zet c i-1).toNat).op=9:=λi hi=>(g0 i hi).2.2;obtain ⟨_,h2⟩:=zjH hf he c.entry.length (lr _)
   have hb:eb c c.entry.length=c.ins.length:=by
     have:=hf.eb_succ (n:=c.entry.length-1) oo;rw [hf.last oo,show c.entry.length-1+1=c.entry.length by omega] at this;omega
   rw [hb] at h2;have h3:=h2.1 hc;refine ⟨hf.len,hf.ins,λi hi=>⟨λ_=>hf.zero,λh0=>?_,?_⟩,λj hj=>?_⟩
   . have h4:=(hf.lt (i-1) oo).1;have h5:=hf.step (i:=i-1) oo;rw [show i-1+1=i by omega] at h5;omega
   . have:=hf.lt i hi;omega
   obtain ⟨i,hi,hx,hy,g2⟩:=hf.find hp (a:=j) oo oo;rw [g2,zeV];constructor
   . intro h9;obtain ⟨i',g3,_⟩:=h3 j hj h9;have:=hf.lt i' g3;have g4:=hf.proc (a:=j) g3 oo oo;have:i'=i:=oo;subst this;omega
   intro h9;have:=he i hi;rwa [show (zet c i-1).toNat=j by omega] at this
 intro h;have hf:=h.f hp;have g1:=hf.len;have h4:=h.2.2.2
 have he:∀ i,i<c.entry.length->(zap c (zet c i-1).toNat).op=9:=λi hi=>by
   have h1:=hf.lt i hi;have h0:=hf.nonneg hi;have:=(h4 (zet c i-1).toNat oo).2;refine this ?_;rw [hf.proc (i:=i) hi oo oo,zeV];omega
 obtain ⟨_,h2⟩:=zjH hf he c.entry.length (lr _)
 have hb:eb c c.entry.length=c.ins.length:=by
   have:=hf.eb_succ (n:=c.entry.length-1) oo;rw [hf.last oo,show c.entry.length-1+1=c.entry.length by omega] at this;omega
 rw [hb] at h2;refine ⟨hf.ins,hf.len,hf.zero,h2.2 λj hj h9=>?_,λi hi=>⟨(hf.lt i hi).1,(hf.lt i hi).2,he i hi⟩⟩;obtain ⟨i,hi,hx,hy,g2⟩:=hf.find hp (a:=j) oo oo;have:=(h4 j hj).1 h9;rw [g2,zeV] at this;exact ⟨i,hi,oo⟩
def zpV (hn:NamesR c) (he:EntI c):CodeR c↔∀ i,i<c.entry.length->∀ j:Nat,en c i<=j->(j:Int)<zet c i->zin c (zap c j) (en c i) (zet c i):=by
 have hf:=he.f;have hp:=hn.procs8.2;constructor
 . intro h i hi j h1 h2;have h3:=hf.lt i hi;have:=h.2.2 j oo;rw [hf.proc hi h1 h2,zeV,qaF] at this;rwa [Int.sub_add_cancel] at this
 intro h;refine ⟨hn,(zwx hp).1 he,λj _=>?_⟩;obtain ⟨i,hi,hx,hy,g0⟩:=hf.find hp (a:=j) oo oo;rw [g0,zeV,qaF,Int.sub_add_cancel];exact h i hi j hx hy
def ziY  (h0:Is W0 v0 c) (e0:Ext W0 w)  :
   CALL tp 44 [v0] w λr w'=>Ext w w'/\(r=.bool (decide (CodeR c))):=by
 refine co (g:=kf [] [(4,35184371564732,[19]),(8,17583596109956,[33])] []) Tryz.func44 ?_;refine za2 zbO rfl h0 e0 λgg y1 g9 g2=>zcC g2 (xrf gg) ?_;refine (zoD h0 (e0.t y1)).mono ?_;rintro _ _ ⟨y2,rfl⟩;refine za0<|br (λc1=>?_) (λc1=>?_)
 . refine ⟨(y1.t y2),?_⟩;have:¬CodeR c:=λh=>c1 h.1;simp only [this,qak]
 refine zcC g2 y2 ?_;refine (zlJ h0 (e0.t (y1.t y2)) (qaf.1 c1).procs8.2).mono ?_;rintro _ gb ⟨y3,rfl⟩;refine za0<|br (λc2=>?_) (λc2=>?_)
 . refine ⟨(y1.t (y2.t y3)),?_⟩;have:¬CodeR c:=λh=>c2 ((zwx h.1.procs8.2).2 h.2.1);simp only [this,qak]
 refine zaa zbj<|zab zcn (zav g9) (y2.t y3) λ_ g3=>?_;have gc:=zan g3;refine zae u31 g3<|zar (c.entry.length) (λq us w'=>us=[.int .i64 (q:Int)]/\Ext gb w'/\(∀ i,i<q->∀ j:Nat,en c i<=j->(j:Int)<zet c i->zin c (zap c j) (en c i) (zet c i))) (0) oo ⟨ss,xrf gb,λi h=>oo⟩ ?_;rintro q m4 _ _ _ ⟨hu,y4,g0⟩;try replace hu:=zbv hu
 try rw [hu]
 try clear hu
 replace c1:=qaf.1 c1;replace c2:=qaf.1 c2;have gh:=zan g3;refine zah<|br (λc3=>?_) (λc3=>?_)
 . refine zac u31 ty3 g3 oo λ_ _ gi=>?_;refine zad ty3 gi (y2.t (y3.t y4)) λ_=>?_;rw [zbK];have h8:=c1.procs8;have hlq:=c2.f.lt q oo;have hnq:=c2.f.nonneg (i:=q) oo;have gj:=c2.f.len;refine zcC g2 (y2.t (y3.t y4)) ?_;refine (zdO h0 (e0.t (y1.t (y2.t (y3.t y4)))) oo).mono ?_;rintro _ gd ⟨y5,rfl⟩;refine zaa zaH<|zab zcQ (zao g9) (y2.t (y3.t (y4.t y5))) λ_ gl=>zot u32 zdw gl oo oo oo λ_ g4=>?_;have gf:=zan g4;refine zae u32 g4<|zar ((zet c q).toNat-(en c q).toNat) (λk us w'=>us=[.int .i64 (k:Int)]/\Ext gd w'/\(∀ j:Nat,en c q<=j->(j:Int)<en c q+k->zin c (zap c j) (en c q) (zet c q))) (0) oo ⟨ss,xrf gd,λj h1 h2=>oo⟩ ?_;rintro k m8 _ _ _ ⟨hu,y6,g1⟩;try replace hu:=zbv hu
   try rw [hu]
   try clear hu
   have gn:((c.ins.take (zet c q).toNat).drop (en c q).toNat).length=(zet c q).toNat-(en c q).toNat:=by rw [qbc,qao];omega
   refine zah<|br (λc4=>?_) (λc4=>?_)
   . refine zac u32 zdw g4 oo λ_ _ gp=>?_;refine zab zdw gp (y2.t (y3.t (y4.t (y5.t y6)))) λ_ g5=>?_;rw [qcT,List.getElem_take,zaR] at g5;refine zbN zsM rfl zdw rfl g5 (y2.t (y3.t (y4.t (y5.t y6)))) λgq y7 _ gr=>zcC g2 (y2.t (y3.t (y4.t (y5.t (y6.t y7)))))<|zcC gr (xrf gq) ?_;refine (zrE h0 (e0.t (y1.t (y2.t (y3.t (y4.t (y5.t (y6.t y7))))))) g5 (y2.t (y3.t (y4.t (y5.t (y6.t y7)))))).mono ?_;rintro _ _ ⟨y8,rfl⟩;refine za0<|br (λc5=>?_) (λc5=>?_)
     . refine ⟨(y1.t (y2.t (y3.t (y4.t (y5.t (y6.t (y7.t y8))))))),?_⟩;have:¬CodeR c:=λh=>c5 ((zpV c1 c2).1 h q oo _ oo oo);simp only [this,qak]
     refine zaw<|⟨m8-1,oo,k+1,oo,ss,(y6.t (y7.t y8)),?_⟩;intro j h1 h2;by_cases hj:j=(en c q).toNat+k
     . subst hj;exact qaf.1 c5
     exact g1 j h1 oo
   refine zaw<|⟨m4-1,oo,q+1,oo,ss,(y4.t (y5.t y6)),?_⟩;intro i hi j h1 h2;by_cases hiq:i=q
   . subst hiq;exact g1 j h1 oo
   exact g0 i oo j h1 h2
 refine ⟨(y1.t (y2.t (y3.t y4))),?_⟩;have:CodeR c:=(zpV c1 c2).2 λi hi=>g0 i oo;simp only [this,qbb]
structure Cur where
 i:Nat
 h:Int
def nO:ByteArray:=ByteArray.mk #[]
def zEL (k n:Int) (s:ByteArray) (l:List DTerm):wT (.mk k n s l)=s.size+(l.length+sm wT l):=by
 rw [zwt,zpU];rfl
def TmR (gl:List ByteArray) (t:DTerm):Prop:=zbg 6 t=true/\(∀ s∈zbf t,s∈gl)/\wT t<=1000
structure Scp where
 gl:List ByteArray
 lk:List ByteArray
 pr:List ByteArray
def St0 (c:Scp) (t:DStmt):Prop:=(t.kind=1/\t.name∈c.gl/\TmR c.gl t.term/\t.body=[]/\t.els=[])\/((t.kind=4\/t.kind=5)/\t.name∈c.pr/\t.term=term0/\t.body=[]/\t.els=[]) \/
   ((t.kind=6\/t.kind=7)/\t.name∈c.lk/\t.term=term0/\t.body=[]/\t.els=[])\/(t.kind=8/\t.name=nO/\t.term=term0/\t.body=[]/\t.els=[])
def StR (c:Scp):Nat->DStmt->Prop
 | 0,t=>St0 c t
 | n+1,t=>St0 c t\/((t.kind=2\/t.kind=3/\t.els=[])/\t.name=nO/\TmR c.gl t.term/\(∀ x∈t.body,StR c n x)/\∀ x∈t.els,StR c n x)
theorem StR.base {c:Scp}:∀ {n:Nat} {t:DStmt},St0 c t->StR c n t
 | 0,t,h=>by rw [StR];exact h
 | n+1,t,h=>by rw [StR];exact .inl h
def StR.more {c:Scp} {t:DStmt} (h1:t.kind=2\/t.kind=3/\t.els=[]) (h2:t.name=nO) (h3:TmR c.gl t.term) (h4:∀ x∈t.body,StR c n x) (h5:∀ x∈t.els,StR c n x):StR c (n+1) t:=by
 rw [StR];exact .inr ⟨h1,h2,h3,h4,h5⟩
def StR.zero {c:Scp} {t:DStmt} (h:StR c 0 t):St0 c t:=by rw [StR] at h;exact h
def StR.succ {c:Scp} {t:DStmt} (h:StR c (n+1) t):St0 c t\/((t.kind=2\/t.kind=3/\t.els=[])/\t.name=nO/\TmR c.gl t.term/\(∀ x∈t.body,StR c n x)/\∀ x∈t.els,StR c n x):=by
 rw [StR] at h;exact h
theorem StR.mono {c:Scp}:∀ {n m:Nat} {t:DStmt},n<=m->StR c n t->StR c m t
 | 0,m,_,_,h=>StR.base h.zero
 | n+1,0,_,h,_=>absurd h oo
 | n+1,m+1,t,hn,h=>by
   rcases h.succ with h | ⟨h1,h2,h3,h4,h5⟩
   . exact StR.base h
   exact StR.more h1 h2 h3 (λx hx=>(h4 x hx).mono oo) λx hx=>(h5 x hx).mono oo
mutual
def szS:DStmt->Nat
  | .mk _ _ _ b e=>1+szL b+szL e
def szL:List DStmt->Nat
  | []=>0
  | x :: l=>szS x+szL l
end
mutual
def zvi:DStmt->Int->Int
  | .mk _ _ _ b e,n=>zkz e (zkz b (n-1))
def zkz:List DStmt->Int->Int
  | [],n=>n
  | x :: l,n=>if 0<=n then zkz l (zvi x n) else n
end
mutual
theorem zwy:∀ (x:DStmt) (n:Int),0<=n->((szS x:Int)<=n->zvi x n=n-szS x)/\(n<szS x->zvi x n<0)
  | .mk k s t b e,n,hn=>by
    rw [szS,zvi];have h1:=zlK b (n-1);have h2:=zlK e (zkz b (n-1));refine ⟨λh=>?_,λh=>?_⟩
    . rw [h2.1 (by rw [h1.1 oo];omega),h1.1 oo];omega
    by_cases hb:(szL b:Int)<=n-1
    . exact h2.2.1 (by rw [h1.1 hb];omega)
    have:=h1.2.1 oo;by_cases h0:zkz b (n-1)<0
    . exact h2.2.2 h0
    omega
theorem zlK:∀ (l:List DStmt) (n:Int),((szL l:Int)<=n->zkz l n=n-szL l)/\(n<szL l->zkz l n<0)/\(n<0->zkz l n<0)
  | [],n=>by
    rw [szL,zkz];exact ⟨λ_=>oo,λh=>oo,λh=>h⟩
  | x :: l,n=>by
    rw [szL,zkz];refine ⟨λh=>?_,λh=>?_,λh=>?_⟩
    . have h1:=zwy x n oo;have h2:=zlK l (zvi x n);rw [qah oo,h2.1 (by rw [h1.1 oo];omega),h1.1 oo];omega
    . split
      . rename_i h0;have h1:=zwy x n h0;have h2:=zlK l (zvi x n);by_cases hx:(szS x:Int)<=n
        . exact h2.2.1 (by rw [h1.1 hx];omega)
        exact h2.2.2 (h1.2 oo)
      omega
    rw [qad oo];exact h
end
theorem znp:∀ (l m:List DStmt),szL (l++m)=szL l+szL m
 | [],m=>by simp [szL]
 | x :: l,m=>by rw [qbE,szL,szL,znp l m];omega
theorem zwz:∀ (l:List DStmt),l.length<=szL l
 | []=>by simp
 | .mk k s t b e :: l=>by have:=zwz l;rw [szL,szS,qam];omega
def zEM (c:Scp) (l:List DStmt):Prop:=(∀ x∈l,StR c 6 x)/\szL l<=60
structure ProgR (p:DProg):Prop where
 g:p.globals.length<=6/\(∀ x∈p.globals,zaz x=true)/\p.globals.Nodup
 l:p.locks.length<=6/\(∀ x∈p.locks,zaz x=true)/\p.locks.Nodup
 n:p.procs.length<=8/\(∀ x∈p.procs.map DProc.name,zaz x=true)/\(p.procs.map DProc.name).Nodup/\zg5∈p.procs.map DProc.name
 b:∀ x∈p.procs,zEM ⟨p.globals,p.locks,p.procs.map DProc.name⟩ x.body
def St0.sub {c d:Scp} {t:DStmt} (hg:∀ x∈c.gl,x∈d.gl) (hl:∀ x∈c.lk,x∈d.lk) (hp:∀ x∈c.pr,x∈d.pr) (h:St0 c t):St0 d t:=by
 rcases h with ⟨k1,k2,k3,k4⟩ | ⟨k1,k2,k3⟩ | ⟨k1,k2,k3⟩ | h
 . exact .inl ⟨k1,hg _ k2,⟨k3.1,λs hs=>hg _ (k3.2.1 s hs),k3.2.2⟩,k4⟩
 . exact .inr (.inl ⟨k1,hp _ k2,k3⟩)
 . exact .inr (.inr (.inl ⟨k1,hl _ k2,k3⟩))
 exact .inr (.inr (.inr h))
theorem StR.sub {c d:Scp} (hg:∀ x∈c.gl,x∈d.gl) (hl:∀ x∈c.lk,x∈d.lk) (hp:∀ x∈c.pr,x∈d.pr):∀ (n:Nat) (t:DStmt),StR c n t->StR d n t
 | 0,t,h=>StR.base (h.zero.sub hg hl hp)
 | n+1,t,h=>by
   rcases h.succ with h | ⟨h1,h2,h3,h4,h5⟩
   . exact StR.base (h.sub hg hl hp)
   exact StR.more h1 h2 ⟨h3.1,λs hs=>hg _ (h3.2.1 s hs),h3.2.2⟩ (λx hx=>StR.sub hg hl hp n x (h4 x hx)) λx hx=>StR.sub hg hl hp n x (h5 x hx)
section
variable (G L P:List ByteArray)
mutual
def emS:DStmt->Nat->List DIns
  | .mk k n t b e,at_=>
    if k=1 then [⟨1,plc n G,t,0⟩]
    else if k=4 then [⟨4,plc n P,term0,0⟩]
    else if k=5 then [⟨5,plc n P,term0,0⟩]
    else if k=6 then [⟨6,plc n L,term0,0⟩]
    else if k=7 then [⟨7,plc n L,term0,0⟩]
    else if k=8 then [⟨8,0,term0,0⟩]
    else if k=3 then ⟨2,0,t,((at_+1+(emL b (at_+1)).length+1:Nat):Int)⟩ :: (emL b (at_+1)++[⟨3,0,term0,(at_:Int)⟩])
    else if k=2 then
      (if e.length=0 then ⟨2,0,t,((at_+1+(emL b (at_+1)).length:Nat):Int)⟩ :: emL b (at_+1)
      else ⟨2,0,t,((at_+1+(emL b (at_+1)).length+1:Nat):Int)⟩ :: (emL b (at_+1) ++
        (⟨3,0,term0,((at_+1+(emL b (at_+1)).length+1+(emL e (at_+1+(emL b (at_+1)).length+1)).length:Nat):Int)⟩ :: emL e (at_+1+(emL b (at_+1)).length+1))))
    else []
def emL:List DStmt->Nat->List DIns
  | [],_=>[]
  | x :: l,at_=>emS x at_++emL l (at_+(emS x at_).length)
end
def InsQ (x:DIns) (lo hi:Nat):Prop:=1<=x.op/\x.op<=8 /\
 (0<=x.arg/\x.arg<if x.op=1 then (G.length:Int) else if x.op=4\/x.op=5 then P.length else if x.op=6\/x.op=7 then L.length else 1) /\
 (if x.op=1\/x.op=2 then TmR G x.term else x.term=term0)/\(if x.op=2\/x.op=3 then (lo:Int)<=x.to/\x.to<=hi else x.to=0)
end
section
variable {G L P:List ByteArray}
def InsQ.mono {x:DIns} {lo hi g0 g1:Nat} (h:InsQ G L P x lo hi) (h1:g0<=lo) (h2:hi<=g1):InsQ G L P x g0 g1:=by
 obtain ⟨a,b,c,d,e⟩:=h;refine ⟨a,b,c,d,?_⟩;split at e
 . rename_i hh;rw [qah hh];omega
 rename_i hh;rw [qad hh];exact e
def zpW {n:ByteArray} {l:List ByteArray} (h:n∈l):0<=plc n l/\plc n l<l.length:=⟨zfT.2 h,ziU.2⟩
def zA1 {op arg to:Int} {t:DTerm} {lo hi:Nat} (h1:1<=op) (h1':op<=8) (h2:0<=arg/\arg<if op=1 then (G.length:Int) else if op=4\/op=5 then P.length else if op=6\/op=7 then L.length else 1)
   (h3:if op=1\/op=2 then TmR G t else t=term0) (h4:if op=2\/op=3 then (lo:Int)<=to/\to<=hi else to=0):InsQ G L P ⟨op,arg,t,to⟩ lo hi:=⟨h1,h1',h2,h3,h4⟩
def zwA {t:DTerm} (ht:TmR G t) {to lo hi:Nat} (h1:lo<=to) (h2:to<=hi):InsQ G L P ⟨2,0,t,(to:Int)⟩ lo hi:=
 zA1 dD dD (by rw [qad dD,qad dD,qad dD];decide) (by rw [qah (.inr rfl)];exact ht) (by rw [qah (.inl rfl)];omega)
def zA2 {to lo hi:Nat} (h1:lo<=to) (h2:to<=hi):InsQ G L P ⟨3,0,term0,(to:Int)⟩ lo hi:=
 zA1 dD dD (by rw [qad dD,qad dD,qad dD];decide) (by rw [qad dD]) (by rw [qah (.inr rfl)];omega)
theorem zE7 {c:Scp} (hG:G=c.gl) (hL:L=c.lk) (hP:∀ x∈c.pr,x∈P):∀ (n:Nat),
   (∀ (t:DStmt) (a:Nat),StR c n t->(∀ x∈emS G L P t a,InsQ G L P x a (a+(emS G L P t a).length))/\(emS G L P t a).length<=2*szS t) /\
   ∀ (l:List DStmt) (a:Nat),(∀ x∈l,StR c n x)->(∀ x∈emL G L P l a,InsQ G L P x a (a+(emL G L P l a).length))/\(emL G L P l a).length<=2*szL l:=by
 have hl:∀ n,(∀ (t:DStmt) (a:Nat),StR c n t->(∀ x∈emS G L P t a,InsQ G L P x a (a+(emS G L P t a).length))/\(emS G L P t a).length<=2*szS t) ->
     ∀ (l:List DStmt) (a:Nat),(∀ x∈l,StR c n x)->(∀ x∈emL G L P l a,InsQ G L P x a (a+(emL G L P l a).length))/\(emL G L P l a).length<=2*szL l:=by
   intro n hs l
   induction l with
   | nil=>intro a _;rw [emL];exact ⟨(λx hx=>by cases hx),qbt _⟩
   | cons t l ih=>
     intro a h;have h1:=hs t a (h t ss);have h2:=ih (a+(emS G L P t a).length) λx hx=>h x (by simp [hx]);rw [emL,szL];generalize emS G L P t a=u at *;generalize emL G L P l (a+u.length)=v at *;rw [qab];refine ⟨λx hx=>?_,oo⟩;rcases qae.1 hx with hx | hx
     . exact (h1.1 x hx).mono (lr _) oo
     exact (h2.1 x hx).mono oo oo
 have h0:∀ (t:DStmt) (a:Nat),St0 c t->(∀ x∈emS G L P t a,InsQ G L P x a (a+(emS G L P t a).length))/\(emS G L P t a).length<=2*szS t:=by
   rintro ⟨k,n,t,b,e⟩ a h;rw [emS,szS];rcases h with ⟨hk,hn,ht,_,_⟩ | ⟨hk,hn,_⟩ | ⟨hk,hn,_⟩ | ⟨hk,hn,_⟩
   . have hk:k=1:=hk;have hn:n∈c.gl:=hn;rw [qah hk];refine ⟨λx hx=>?_,by simp;omega⟩;simp only [qaa,qag,qaz] at hx;subst hx;exact zA1 dD dD (by rw [qah rfl];exact zpW (by rw [hG];exact hn)) (by rw [qah (.inl rfl)];exact hG▸ht) (by rw [qad dD])
   . have hk:k=4\/k=5:=hk;have hn:n∈c.pr:=hn;rw [qad oo];rcases hk with hk | hk
     . rw [qah hk];refine ⟨λx hx=>?_,by simp;omega⟩;simp only [qaa,qag,qaz] at hx;subst hx;exact zA1 dD dD (by rw [qad dD,qah (.inl rfl)];exact zpW (hP _ hn)) (by rw [qad dD]) (by rw [qad dD])
     rw [qad oo,qah hk];refine ⟨λx hx=>?_,by simp;omega⟩;simp only [qaa,qag,qaz] at hx;subst hx;exact zA1 dD dD (by rw [qad dD,qah (.inr rfl)];exact zpW (hP _ hn)) (by rw [qad dD]) (by rw [qad dD])
   . have hk:k=6\/k=7:=hk;have hn:n∈c.lk:=hn;rw [qad oo,qad oo,qad oo];rcases hk with hk | hk
     . rw [qah hk];refine ⟨λx hx=>?_,by simp;omega⟩;simp only [qaa,qag,qaz] at hx;subst hx;exact zA1 dD dD (by rw [qad dD,qad dD,qah (.inl rfl)];exact zpW (by rw [hL];exact hn)) (by rw [qad dD]) (by rw [qad dD])
     rw [qad oo,qah hk];refine ⟨λx hx=>?_,by simp;omega⟩;simp only [qaa,qag,qaz] at hx;subst hx;exact zA1 dD dD (by rw [qad dD,qad dD,qah (.inr rfl)];exact zpW (by rw [hL];exact hn)) (by rw [qad dD]) (by rw [qad dD])
   have hk:k=8:=hk;rw [qad oo,qad oo,qad oo,qad oo,qad oo,qah hk];refine ⟨λx hx=>?_,by simp;omega⟩;simp only [qaa,qag,qaz] at hx;subst hx;exact zA1 dD dD (by rw [qad dD,qad dD,qad dD];decide) (by rw [qad dD]) (by rw [qad dD])
 intro n
 induction n with
 | zero=>exact ⟨λt a h=>h0 t a h.zero,hl 0 λt a h=>h0 t a h.zero⟩
 | succ n ih=>
   have hs:∀ (t:DStmt) (a:Nat),StR c (n+1) t->(∀ x∈emS G L P t a,InsQ G L P x a (a+(emS G L P t a).length))/\(emS G L P t a).length<=2*szS t:=by
     intro t a h;rcases h.succ with h | ⟨hk,hn,ht,hb,he⟩
     . exact h0 t a h
     obtain ⟨k,_,t,b,e⟩:=t;have hq:k=2\/k=3/\e=[]:=hk;clear hk;replace ht:TmR G t:=hG▸ht;have h1:=ih.2 b (a+1) hb;have h2:=ih.2 e (a+1+(emL G L P b (a+1)).length+1) he;rw [emS,szS,qad oo,qad oo,qad oo,qad oo,qad oo,qad oo];generalize emL G L P b (a+1)=u at *;generalize emL G L P e (a+1+u.length+1)=v at *;rcases hq with hq | ⟨hq,rfl⟩
     . rw [qad oo,qah hq];split
       . refine ⟨λx hx=>?_,by simp only [qam];omega⟩;rw [qam];rcases qaa.1 hx with rfl | hx
         . exact zwA ht oo oo
         exact (h1.1 x hx).mono oo oo
       rename_i hne;refine ⟨λx hx=>?_,?_⟩
       . simp only [qam,qab];rcases qaa.1 hx with rfl | hx
         . exact zwA ht oo oo
         rcases qae.1 hx with hx | hx
         . exact (h1.1 x hx).mono oo oo
         rcases qaa.1 hx with rfl | hx
         . exact zA2 oo oo
         exact (h2.1 x hx).mono oo oo
       have:=zwz e;simp only [qam,qab];omega
     rw [qah hq];refine ⟨λx hx=>?_,by simp only [qam,qab,qaI];omega⟩;simp only [qam,qab,qaI];rcases qaa.1 hx with rfl | hx
     . exact zwA ht oo oo
     rcases qae.1 hx with hx | hx
     . exact (h1.1 x hx).mono oo oo
     simp only [qaa,qag,qaz] at hx;subst hx;exact zA2 oo oo
   exact ⟨hs,hl (n+1) hs⟩
end
def zA3:DIns:=⟨9,0,term0,0⟩
section
variable (G L P:List ByteArray)
def emP:List DProc->Nat->List DIns
 | [],_=>[]
 | x :: l,a=>emL G L P x.body a++(zA3 :: emP l (a+(emL G L P x.body a).length+1))
def zmV:List DProc->Nat->List Int
 | [],_=>[]
 | x :: l,a=>(a:Int) :: zmV l (a+(emL G L P x.body a).length+1)
end
def zc1 (p:DProg):DCode:=
 ⟨p.globals,p.locks,p.procs.map DProc.name,zmV p.globals p.locks (p.procs.map DProc.name) p.procs 0,emP p.globals p.locks (p.procs.map DProc.name) p.procs 0⟩
theorem zoF (G L P:List ByteArray):∀ (l:List DProc) (a:Nat),(zmV G L P l a).length=l.length
 | [],_=>by rw [zmV];rfl
 | x :: l,a=>by rw [zmV,qam,qam,zoF G L P l]
theorem zA4 (G L P:List ByteArray):∀ (l:List DProc) (a i:Nat) (hi:i<l.length),∃ s,(zmV G L P l a)[i]?=some ((a+s:Nat):Int)/\s+(emL G L P l[i].body (a+s)).length+1<=(emP G L P l a).length /\
   (∀ k,k<(emL G L P l[i].body (a+s)).length->(emP G L P l a)[s+k]?=(emL G L P l[i].body (a+s))[k]?)/\(emP G L P l a)[s+(emL G L P l[i].body (a+s)).length]?=some zA3 /\
   (i=0->s=0)/\(i+1<l.length->(zmV G L P l a)[i+1]?=some ((a+s+(emL G L P l[i].body (a+s)).length+1:Nat):Int))/\(i+1=l.length->s+(emL G L P l[i].body (a+s)).length+1=(emP G L P l a).length)
 | x :: l,a,0,hi=>by
   refine ⟨0,?_⟩;simp only [qck,qba,qbF];rw [zmV,emP];generalize emL G L P x.body a=u;refine ⟨ss,ss,λk hk=>List.getElem?_append_left hk,ss,ss,λh=>?_,λh=>?_⟩
   . cases l with
     | nil=>simp at h
     | cons y l=>rw [zmV];rfl
   have:l=[]:=qaj (by simpa using h);subst this;rw [emP];simp
 | x :: l,a,i+1,hi=>by
   obtain ⟨s,h1,_,h3,h4,_,h6,h7⟩:=zA4 G L P l (a+(emL G L P x.body a).length+1) i (by simpa using hi);refine ⟨(emL G L P x.body a).length+1+s,?_⟩;simp only [qbR];rw [zmV,emP];have e:a+((emL G L P x.body a).length+1+s)=a+(emL G L P x.body a).length+1+s:=oo;rw [e];generalize emL G L P x.body a=u at *;have g0:i<l.length:=by simpa using hi
   generalize emL G L P (l[i]'g0).body (a+u.length+1+s)=v at *
   have sh:∀ (q:Nat) (m:List DIns),(u++zA3 :: m)[u.length+1+q]?=m[q]?:=by
     intro q m;rw [List.getElem?_append_right oo,show u.length+1+q-u.length=q+1 by omega,List.getElem?_cons_succ]
   refine ⟨by simpa using h1,by simp only [qab,qam];omega,λk hk=>?_,?_,λh=>oo,λh=>?_,λh=>?_⟩
   . rw [show u.length+1+s+k=u.length+1+(s+k) by omega,sh];exact h3 k hk
   . rw [show u.length+1+s+v.length=u.length+1+(s+v.length) by omega,sh];exact h4
   . rw [List.getElem?_cons_succ];exact h6 (by simpa using h)
   have:=h7 (by simpa using h);simp only [qab,qam];omega
theorem zwB (G L P:List ByteArray) {m:Nat}:∀ (l:List DProc) (a:Nat),(∀ x∈l,∀ b,(emL G L P x.body b).length<=m)->(emP G L P l a).length<=l.length*(m+1)
 | [],_,_=>by rw [emP];simp
 | x :: l,a,h=>by
   have h1:=h x ss a;have h2:=zwB G L P l (a+(emL G L P x.body a).length+1) λy hy=>h y (by simp [hy]);rw [emP,qab,qam,qam,qbu,qbY];omega
def zoG {α:Type} {l:List α} {x d:α} (h:l[i]?=some x):l.getD i d=x:=by rw [List.getD_eq_getElem?_getD,h];rfl
def ProgR.gok {p:DProg} (hp:ProgR p):(decide ((p.globals.length:Int)<=6)&&p.globals.all zaz)=true:=by
 rw [qaH.2 hp.g.2.1,decide_eq_true (by have:=hp.g.1;omega)];rfl
def ProgR.lok {p:DProg} (hp:ProgR p):(decide ((p.locks.length:Int)<=6)&&p.locks.all zaz)=true:=by
 rw [qaH.2 hp.l.2.1,decide_eq_true (by have:=hp.l.1;omega)];rfl
def code_at {p:DProg} (hp:ProgR p) {i:Nat} (hi:i<p.procs.length):∃ s n:Nat,en (zc1 p) i=(s:Int)/\zet (zc1 p) i=((s+n+1:Nat):Int)/\s+n+1<=(zc1 p).ins.length /\
   (∀ k,k<n->InsQ (zc1 p).globals (zc1 p).locks (zc1 p).procs (zap (zc1 p) (s+k)) s (s+n))/\zap (zc1 p) (s+n)=zA3/\(i=0->s=0):=by
 obtain ⟨s,h1,h2,h3,h4,h5,h6,h7⟩:=zA4 p.globals p.locks (p.procs.map DProc.name) p.procs 0 i hi;simp only [qba] at h1 h2 h3 h4 h5 h6 h7;have hb:=hp.b _ (qac hi);have hr:=(zE7 (G:=p.globals) (L:=p.locks) (P:=p.procs.map DProc.name) (c:=⟨p.globals,p.locks,p.procs.map DProc.name⟩) rfl rfl (λ_ hx=>hx) 6).2 p.procs[i].body s hb.1;generalize emL p.globals p.locks (p.procs.map DProc.name) p.procs[i].body s=u at *;refine ⟨s,u.length,zoG h1,?_,h2,λk hk=>?_,zoG h4,h5⟩
 . unfold zet;have hl:(zc1 p).entry.length=p.procs.length:=zoF _ _ _ _ _;split
   . rename_i hh;exact zoG (h6 oo)
   rename_i hh;show ((emP _ _ _ _ _).length:Int)=_;rw [<-h7 oo]
 have e:zap (zc1 p) (s+k)=u[k]:=zoG (by
   have:=h3 k hk;rw [List.getElem?_eq_getElem hk] at this;exact this)
 rw [e];exact (hr.1 _ (qac hk)).mono (lr _) (lr _)
def znq {p:DProg} (hp:ProgR p):CodeR (zc1 p)/\(zc1 p).ins.length<=968:=by
 obtain ⟨_,n2,n3,n4⟩:=hp.n;have hl:(zc1 p).entry.length=p.procs.length:=zoF _ _ _ _ _;have g0:(p.procs.map DProc.name).length=p.procs.length:=qaD _
 have hN:NamesR (zc1 p):=by
   refine ⟨?_,?_,?_,?_,?_,?_,?_⟩
   . show (decide ((p.globals.length:Int)<=6)&&p.globals.all zaz)=true;exact hp.gok
   . show (decide ((p.locks.length:Int)<=6)&&p.locks.all zaz)=true;exact hp.lok
   . show (decide (((p.procs.map DProc.name).length:Int)<=8)&&(p.procs.map DProc.name).all zaz)=true;rw [qaH.2 n2,decide_eq_true oo];rfl
   . show p.globals.Nodup;exact hp.g.2.2
   . show p.locks.Nodup;exact hp.l.2.2
   . show (p.procs.map DProc.name).Nodup;exact n3
   show zg5∈p.procs.map DProc.name;exact n4
 have g1:(zc1 p).ins.length<=968:=by
   have:=zwB p.globals p.locks (p.procs.map DProc.name) (m:=120) p.procs 0 λx hx b=>by
     have hb:=hp.b x hx;have hr:=(zE7 (G:=p.globals) (L:=p.locks) (P:=p.procs.map DProc.name) (c:=⟨p.globals,p.locks,p.procs.map DProc.name⟩) rfl rfl (λx hx=>hx) 6).2 x.body b hb.1;have:=hb.2;omega
   show (emP _ _ _ _ _).length<=968;omega
 have h0:0<p.procs.length:=by
   rw [<-g0];exact qb4 n4
 have hF:EntF (zc1 p):=by
   refine ⟨by rw [hl];exact g0.symm,oo,?_,λi hi=>?_⟩
   . obtain ⟨s,n,e1,_,_,_,_,e0⟩:=code_at hp h0;rw [e1,e0 rfl];rfl
   obtain ⟨s,n,e1,e2,e3,_,_,_⟩:=code_at hp (i:=i) oo;rw [e1,e2];omega
 have g2:0<(zc1 p).procs.length:=by show 0<(p.procs.map DProc.name).length;omega
 have C:∀ j:Nat,j<(zc1 p).ins.length->∃ i s n:Nat,i<p.procs.length/\en (zc1 p) i=(s:Int)/\zet (zc1 p) i=((s+n+1:Nat):Int)/\s<=j/\j<=s+n/\zaA (zc1 p) j=i /\
     (∀ k,k<n->InsQ (zc1 p).globals (zc1 p).locks (zc1 p).procs (zap (zc1 p) (s+k)) s (s+n))/\zap (zc1 p) (s+n)=zA3:=by
   intro j hj;obtain ⟨i,hi,a1,a2,a3⟩:=hF.find g2 (a:=(j:Int)) oo oo;obtain ⟨s,n,e1,e2,e3,e4,e5,_⟩:=code_at hp (i:=i) oo;rw [e1] at a1;rw [e2] at a2;exact ⟨i,s,n,oo,e1,e2,oo,oo,a3,e4,e5⟩
 have D:∀ (i:Nat),zf5 (zc1 p) i=zet (zc1 p) i-1:=λi=>zeV _ i;refine ⟨⟨hN,⟨hF.len,hF.ins,λi hi=>⟨λh=>by subst h;exact hF.zero,λh=>?_,?_⟩,λj hj=>?_⟩,λj hj=>?_⟩,g1⟩
 . have h1:=(hF.lt (i-1) oo).1;rw [hF.step oo,show i-1+1=i by omega] at h1;exact h1
 . have:=hF.lt i hi;omega
 . obtain ⟨i,s,n,hi,e1,e2,a1,a2,a3,e4,e5⟩:=C j hj;rw [a3,D,e2];constructor
   . intro h9;by_cases hjn:j=s+n
     . omega
     have:=e4 (j-s) oo;rw [show s+(j-s)=j by omega] at this;have:=this.2.1;omega
   intro h9;have:j=s+n:=oo;rw [this,e5];rfl
 obtain ⟨i,s,n,hi,e1,e2,a1,a2,a3,e4,e5⟩:=C j hj;rw [a3,D,e2];simp only [qaF];rw [e1];by_cases hjn:j=s+n
 . rw [hjn,e5]
   have ha:(0:Int)<zcy (zc1 p) 9:=by
     unfold zcy;rw [qad dD,qad dD,qad dD];decide
   refine ⟨dD,⟨dD,ha⟩,by rw [qad dD];rfl,by rw [qad dD];rfl⟩
 have hq:=e4 (j-s) oo;rw [show s+(j-s)=j by omega] at hq;generalize zap (zc1 p) j=x at *;obtain ⟨q1,_,q3,q4,q5⟩:=hq;refine ⟨⟨q1,oo⟩,?_,?_,?_⟩
 . unfold zcy;exact q3
 . split at q4
   . rename_i hh;rw [qah hh];refine ⟨q4.1,λy hy=>?_⟩;show y∈p.globals;exact q4.2.1 y hy
   rename_i hh;rw [qad hh];exact q4
 split at q5
 . rename_i hh;rw [qah hh];omega
 rename_i hh;rw [qad hh];exact q5
end Go.Proofs.YtkgiigmcbgifdaaGreatDoor
namespace Go.Sh
open Rep (rep)
section
variable {P:pG} {w w0:wD} {α:Type} [Rep α]
theorem zpX [RepZ α] {z:vL} (hz:RepZ.zc α=[z]) (w:wD):∀ n,Cells [] w (List.replicate n z) (List.replicate n (RepZ.zv:α))
 | 0=>⟨rfl,rfl⟩
 | n+1=>⟨[],[],[z],List.replicate n z,rfl,rfl,hz▸RepZ.zr w,zpX hz w n⟩
def zy2 (z:vL) (n:Nat):(madeCells #[z] n).toList=List.replicate n z:=by
 apply qaP
 . simp [madeCells]
 intro _ _ _;simp [madeCells,Nat.mod_one]
def zhG [RepZ α] {t e:TypeId} {by_:Nat} {z:vL} {K:vL->wD->Prop} {n:Nat} (ht:P.underlying t=some (.slice e)) (he:tyI P e=some (Rep.size α,by_,Rep.agg α)) (h1:Rep.size α=1) (g9:RepZ.zc α=[z]) (hz:zcq P e=some [z])
   (hb:by_*n<=281474976710656) (hm:n<=9223372036854775807)
   (k:∀ w',Ext w w'->RowI w.heap.size w'.heap.size e w' (.slice (some ⟨w.heap.size,0,none⟩) n n) (List.replicate n (RepZ.zv:α))->K (.slice (some ⟨w.heap.size,0,none⟩) n n) w') :
   OP P (Instr.makeSlice t (.int .i64 (n:Int)) (.int .i64 (n:Int))) w K:=by
 obtain ⟨i,_,hi,_,hs,g2,_⟩:=zdd he;unfold zcq at hz;rw [hi] at hz;obtain ⟨zz,g3,g4⟩:=qaS.1 hz
 have g5:(i.bytes:Int)*(n:Int)<=281474976710656:=by
   have h:((i.bytes*n:Nat):Int)<=281474976710656:=by rw [g2];omega
   rwa [Int.natCast_mul] at h
 have hr:=run_make (P:=P) w t e i zz ht hi g3 .i64 .i64 n n oo (qda _) g5 oo;simp only [qaF] at hr;have g0:zz.cells=#[z]:=by apply qcc;simpa using g4
 have g1:n*i.size=n:=by rw [hs,h1,qcW]
 rw [g0,g1] at hr;refine ⟨_,_,hr,k _ (zaU w _) (.inr ⟨[w.heap.size],⟨List.replicate n z,[],⟨?_,.inr ⟨w.heap.size,n,madeCells #[z] n,?_,z0 _,heap_alloc_new w _,ss,by rw [zak];omega,?_,?_⟩⟩,zpX g9 _ n,rfl,Wr.nil _⟩,ss,?_⟩)⟩
 . simp [h1]
 . simp
 . rw [h1];simp [madeCells]
 . rw [zy2,qcb,h1,qcW,qai ss]
 intro _ hb;simp only [qaa,qag,qaz] at hb;subst hb;exact ⟨qaE _,(Array.getElem?_eq_some_iff.1 (heap_alloc_new w _)).1⟩
def zas {K:vL->Prop} {t:TypeId} {parts:Array (Nat×vL)} {cells:Array vL} (h:P.built t parts.toList=some cells) (k:K (.agg cells)):RD P (Instr.build t parts) w K:=
 za9 (λw' _=>run_build w' t parts cells h) k
def zfg {t by_ g e:Nat} {cs:List vL} {K:vL->Prop} (hB:Blk g e w cs) (ht:tyI P t=some (cs.length,by_,true)) (k:K (.agg cs.toArray)):RD P (Instr.loadAt t (.pointer (some ⟨g,0,none⟩))) w K:=
 zcC ⟨e,cs,by_,hB,rfl,ht⟩ (xrf w) k
def zcL {t by_ g e:Nat} {cs:List vL} {K:vL->Prop} (hB:Blk g e w cs) (ht:tyI P t=some (cs.length,by_,true)) (k:K (.agg cs.toArray)):RD P (zbr t (.pointer (some ⟨g,0,none⟩))) w K:=by
 obtain ⟨_,d,hi,hd,hs,_,hg⟩:=zdd ht;refine za9 (λw' g0=>?_) k;have:=run_loadAt_mid w' g 0 t cs d (hB.ext g0).range hd hg (by simp [hi,hs]);simpa [zbr,asAddr,Instr.loadAt,Instr.sureAddr] using this
def za3 {t by_ g e:Nat} {cs:List vL} {us:Array vL} {lo hi:Nat} {x:α} {K:wD->Prop} (ht:tyI P t=some (Rep.size α,by_,true)) (ha:Rep.agg α=true) (hB:Blk g e w cs) (hl:cs.length=Rep.size α) (hu:OwnI lo hi w (.agg us) x)
   (k:∀ w',ChgI g (g+1) w w'->Blk g e w' us.toList->K w'):OPU P (Instr.storeAt t (.pointer (some ⟨g,0,none⟩)) (.agg us)) w K:=by
 obtain ⟨_,⟨⟨g1,hr,hv⟩,_⟩,_⟩:=hu
 have g2:us.toList=g1:=by
   simp only [mkv,ha,cond_true,Value.agg.injEq] at hv;rw [hv]
 have:=Rep.len hr;rw [hv];refine zod (by rw [ha];exact ht) hB hr rfl oo λw' hc g0=>k w' (hc.toI ss) ?_;rw [g2];rw [qb2,qbo,qba,qcs oo,qaJ] at g0;exact g0
def zaW {t by_ g e o:Nat} {cs:List vL} {u:vL} {lo hi:Nat} {x:α} {K:wD->Prop} (ht:tyI P t=some (1,by_,false)) (h1:Rep.size α=1) (ha:Rep.agg α=false) (hB:Blk g e w cs) (ho:o<cs.length) (hu:OwnI lo hi w u x)
   (k:∀ w',ChgI g (g+1) w w'->Blk g e w' (cs.set o u)->K w'):OPU P (Instr.storeAt t (.pointer (some ⟨g,o,none⟩)) u) w K:=by
 obtain ⟨_,⟨⟨_,hr,hv⟩,_⟩,_⟩:=hu;have g0:=Rep.len hr;rw [h1] at g0;obtain ⟨c,rfl⟩:=qbf.1 g0;have g1:u=c:=by simpa [mkv,ha] using hv
 subst g1;refine zod (by rw [h1,ha];exact ht) hB hr hv oo λw' hc g2=>k w' (hc.toI ss) ?_
 have:cs.set o u=cs.take o++[u]++cs.drop (o+1):=by
   rw [qbB,qah ho];simp
 rw [this];exact g2
def Blk.chgI {g e a b:Nat} {w':wD} {cs:List vL} (h:Blk g e w cs) (hc:ChgI a b w w') (hd:g<a\/b<=g):Blk g e w' cs:=h.keep (hc.block g h.lt hd)
end
end Go.Sh
namespace Go.Sh
open Rep (rep)
def RowG {α:Type} [Rep α] (F:List Nat) (e:TypeId) (w:wD) (v:vL) (l:List α):Prop:=(∃ a,v=.slice a 0 0/\l=[]/\F=[])\/RowF F e w v l
section
variable {P:pG} {w w0 w':wD} {α β γ:Type} [Rep α] [Rep β] {e lo hi:Nat} {v:vL} {l:List α} {F:List Nat}
def RowG.lt (h:RowG F e w v l):∀ b∈F,b<w.heap.size:=by
 rcases h with ⟨_,_,_,rfl⟩ | h
 . simp
 exact h.lt
def RowG.keep (h:RowG F e w v l) (hk:∀ b∈F,w'.heap[b]?=w.heap[b]?):RowG F e w' v l:=by
 rcases h with h | h
 . exact .inl h
 exact .inr (h.keep hk)
def RowG.own (h:RowG F e w v l):OwnF F w v l:=by
 rcases h with ⟨a,rfl,rfl,rfl⟩ | h
 . exact ⟨_,⟨a,0,[],[],rfl,lr _,z0 _,⟨rfl,rfl⟩,.inl ⟨rfl,rfl⟩⟩,rfl⟩
 exact h.own
def RowG.wr (h:RowG F e w v l):Wr F w:=by
 rcases h with ⟨_,_,_,rfl⟩ | h
 . exact Wr.nil w
 exact h.wr
def RowG.one (h:RowG F e w v l):v.oneCell'=true:=by
 obtain ⟨_,⟨_,_,_,_,rfl,_⟩,rfl⟩:=h.own;rfl
def zhH:RowI lo hi e w v l↔∃ F,RowG F e w v l/\F.Nodup/\∀ b∈F,lo<=b/\b<hi:=by
 constructor
 . rintro (⟨a,h1,h2⟩ | ⟨F,h1,h2,h3⟩)
   . exact ⟨[],.inl ⟨a,h1,h2,rfl⟩,qas,ss⟩
   exact ⟨F,.inr h1,h2,h3⟩
 rintro ⟨F,(⟨a,h1,h2,_⟩ | h1),g0,h3⟩
 . exact .inl ⟨a,h1,h2⟩
 exact .inr ⟨F,h1,g0,h3⟩
end
structure RV (α:Type) (e:TypeId) where
 v:vL
 l:List α
instance {α:Type} [Rep α] {e:TypeId}:Rep (RV α e) where
 size:=1
 agg:=false
 rep F w cs x:=cs=[x.v]/\RowG F e w x.v x.l
 pos:=by decide
 sz _:=rfl
 len:=by rintro _ _ _ _ ⟨rfl,_⟩;rfl
 one:=by rintro _ _ _ _ ⟨rfl,h⟩ v hv;simp at hv;subst hv;exact h.one
 keep:=by rintro _ _ _ _ _ ⟨rfl,h⟩ hk;exact ⟨rfl,h.keep hk⟩
 lt:=by rintro _ _ _ _ ⟨rfl,h⟩;exact h.lt
section
variable {P:pG} {w w0 w':wD} {α β γ:Type} [Rep α] [Rep β] {e lo hi:Nat} {v:vL} {l:List α} {F:List Nat}
def zB1 {x:RV α e} (h:Is w v x):v=x.v/\Is w x.v x.l:=by
 obtain ⟨F,cs,⟨rfl,h1⟩,hv⟩:=h;obtain ⟨cs,hr,g0⟩:=h1.own;exact ⟨hv,F,cs,hr,g0⟩
def zDJ {k:Nat} (hm:RowG F e w v l) (hn:F.Nodup) (hk:k<l.length) :
   ∃ b a cap G,v=.slice (some ⟨b,a,none⟩) l.length cap/\Lens (λF w l=>RowG F e w v l/\F.Nodup) F w b (a+k*Rep.size α) G l[k] (λy=>l.set k y):=by
 rcases hm with ⟨a,_,rfl,_⟩ | hm
 . simp at hk
 have gq:=hm.wr;obtain ⟨_,_,ho,hc,rfl,g4⟩:=hm;rcases ho.2 with ⟨_,_⟩ | ⟨g,cap,cur,rfl,gr,hg,h1,h2,h3,h4⟩
 . omega
 simp only [Value.ownBlock,Option.toList_some,qbE,qbo] at hn gq ⊢;have gh:=ho.1;have e0:l=l.take k++(l[k] :: l.drop (k+1)):=by simp
 have gi:=hc;rw [e0] at gi;obtain ⟨F1,_,x1,_,gs,gt,c1,gx⟩:=Cells.split gi;obtain ⟨G,F2,cg,x2,rfl,rfl,gj,c2⟩:=gx;subst gs gt;have gl:x1.length=k*Rep.size α:=by rw [Cells.len c1,qao];congr 1;omega
 have gy:=Rep.len gj;have gz:=hn;rw [qaR] at hn;obtain ⟨g5,hn⟩:=hn;rw [qav] at hn;obtain ⟨_,gn,gA⟩:=hn;rw [qav] at gn;obtain ⟨gB,_,gC⟩:=gn
 have g1:w.rangeAt g 0 (x1++(cg++x2)):=by
   intro j _ hu;rw [<-h4,List.getElem?_take] at hu;split at hu
   . simpa [World.cell?,hg] using hu
   cases hu
 obtain ⟨_,r2⟩:=zaP g1;obtain ⟨rg,r3⟩:=zaP r2;rw [gl] at rg r3;refine ⟨g,0,cap,G,rfl,⟨cg,gj,rg,gB,g4.sub sd,λh=>g5 (by simp [h]),cur,e,hg⟩,by simp +contextual,λw' G' y' g9 hO hs=>?_⟩;obtain ⟨g3,gp,gD,gb,gc,_,_⟩:=hO;have gd:=Rep.len gp;obtain ⟨M,V,C⟩:=g9.cell cur e hg
 have Z:∀ c∈F1,w'.heap[c]?=w.heap[c]?:=λc g2=>by
   refine g9.chg.block c (Cells.lt c1 c g2) λhm=>?_;rcases qaa.1 hm with rfl | hm
   . exact g5 (by simp [g2])
   exact gA c g2 c (by simp [hm]) rfl
 have g0:∀ c∈F2,w'.heap[c]?=w.heap[c]?:=λc g2=>by
   refine g9.chg.block c (Cells.lt c2 c g2) λhm=>?_;rcases qaa.1 hm with rfl | hm
   . exact g5 (by simp [g2])
   exact gC c hm c g2 rfl
 have gE:k*Rep.size α+Rep.size α<=cur.size:=by
   rw [h3];have:=qa6 (Rep.size α) (show k+1<=cap by omega);rw [qbu,qbY] at this;exact this
 have O:∀ j,j<g3.length->M[0+k*Rep.size α+j]?=g3[j]?:=by
   intro j hj;have:=gD j g3[j] (by simp [hj]);simpa [World.cell?,V,hj] using this
 have gF:=Rep.pos (α:=α)
 have gf:M.size=cur.size:=by
   rcases qcv M.size cur.size with h | h | h
   . exfalso;rcases qaw M.size (k*Rep.size α+Rep.size α) with h' | h'
     . have:=O (Rep.size α-1) oo;rw [List.getElem?_eq_getElem oo] at this;have:=(Array.getElem?_eq_some_iff.1 this).1;omega
     have:=C M.size (.inr oo);rw [Array.getElem?_eq_none (lr _),Array.getElem?_eq_getElem h] at this;cases this
   . exact h
   exfalso;have:=C cur.size (.inr oo);rw [Array.getElem?_eq_none (lr _),Array.getElem?_eq_getElem h] at this;cases this
 have D:(l.set k y').length=l.length:=by simp
 refine ⟨g :: (F1++(G'++F2)),⟨.inr ⟨x1++(g3++x2),F1++(G'++F2),⟨?_,.inr ⟨g,cap,M,by rw [D],gr,V,by rw [D];exact h1,h2,by rw [gf];exact h3,?_⟩⟩,?_,rfl,?_⟩,zpJ gz gb hs⟩,?_⟩
 . rw [D];simp only [qab] at gh ⊢;omega
 . rw [D];apply List.ext_getElem?;intro j;have gg:(cur.toList.take (l.length*Rep.size α))[j]?=(x1++(cg++x2))[j]?:=by rw [h4]
   rcases qaw j (l.length*Rep.size α) with hj | hj
   . rw [List.getElem?_take,qah hj] at gg ⊢;rcases qaw j (k*Rep.size α) with h' | h'
     . rw [Array.getElem?_toList,C j (.inl oo),<-Array.getElem?_toList,gg,List.getElem?_append_left oo,List.getElem?_append_left oo]
     rcases qaw j (k*Rep.size α+Rep.size α) with gG | gG
     . rw [Array.getElem?_toList,List.getElem?_append_right oo,List.getElem?_append_left oo,gl,<-O (j-k*Rep.size α) oo];congr 1;omega
     rw [Array.getElem?_toList,C j (.inr oo),<-Array.getElem?_toList,gg,List.getElem?_append_right oo,List.getElem?_append_right oo,List.getElem?_append_right oo,List.getElem?_append_right oo,gy,gd]
   rw [List.getElem?_take,qad oo,List.getElem?_eq_none];simp only [qab] at gh ⊢;omega
 . have:l.set k y'=l.take k++(y' :: l.drop (k+1)):=by rw [qbB];simp [hk]
   rw [this];exact Cells.append (Cells.keep c1 Z) ⟨G',F2,g3,x2,rfl,rfl,gp,Cells.keep c2 g0⟩
 . exact ((g4.sub sd).keep Z).append (gc.append ((g4.sub sd).keep g0))
 intro c U;rcases qaa.1 U with rfl | U
 . exact .inl ss
 rcases qae.1 U with U | U
 . exact .inl (by simp [U])
 rcases qae.1 U with U | U
 . exact .inr U
 exact .inl (by simp [U])
def Lens.elemV {H:List Nat->wD->γ->Prop} {S:List Nat} {b o:Nat} {G:List Nat} {x:RV β e} {upd:RV β e->γ} (h:Lens H S w b o G x upd) {k:Nat} (hk:k<x.l.length) :
   ∃ b2 a cap G2,x.v=.slice (some ⟨b2,a,none⟩) x.l.length cap/\(∀ c∈b2 :: G2,c∈G)/\Lens H S w b2 (a+k*Rep.size β) G2 x.l[k] (λy=>upd ⟨x.v,x.l.set k y⟩):=by
 obtain ⟨⟨_,⟨rfl,g3⟩,hr,hn,_,hb,g9⟩,g0,g1⟩:=h;obtain ⟨b2,a,cap,G2,hu,hL⟩:=zDJ g3 hn hk;have hG:∀ c∈G,c∈S:=λc hc=>g0 c (by simp [hc]);refine ⟨b2,a,cap,G2,hu,hL.sub,hL.here,λc hc=>hG c (hL.sub c hc),λw' G' y' gb hO hs=>?_⟩
 obtain ⟨F1,⟨gc,gg⟩,gd⟩:=hL.back w' G' y' gb hO λc hc=>by
   rcases hs c hc with h | h
   . exact .inl h
   exact .inr λe=>h (hG c e)
 have g2:Chg G w w':=gb.chg.mono hL.sub;have gh:b<w.heap.size:=by obtain ⟨c,e,h⟩:=g9;exact (Array.getElem?_eq_some_iff.1 h).1
 have g4:w'.heap[b]?=w.heap[b]?:=g2.block b gh hb
 have gf:∀ c∈F1,c∈G\/c∉S:=λc hc=>by
   rcases gd c hc with h | h
   . exact .inl h
   rcases hs c h with h | h
   . exact .inl (hL.sub c (by simp [h]))
   exact .inr h
 have g5:b∉F1:=λhm=>by
   rcases gf b hm with h | h
   . exact hb h
   exact h (g0 b ss)
 obtain ⟨F',gi,gj⟩:=g1 w' F1 ⟨x.v,x.l.set k y'⟩ ⟨g2.mono sd,λc e hc=>⟨c,by rw [g4];exact hc,λ_ _=>rfl⟩⟩
   ⟨[x.v],⟨rfl,gc⟩,zbx hr g4,gg,gc.wr,g5,by obtain ⟨c,e,h⟩:=g9;exact ⟨c,e,by rw [g4];exact h⟩⟩ gf
 refine ⟨F',gi,λc hc=>?_⟩;rcases gj c hc with h | h
 . exact .inl h
 rcases gd c h with h | h
 . exact .inl (hG c h)
 exact .inr h
instance:RepZ (RV α e):=⟨⟨.slice none 0 0,[]⟩,[.slice none 0 0],λ_=>⟨rfl,.inl ⟨none,rfl,rfl,rfl⟩⟩⟩
end
end Go.Sh
namespace Go.Sh
open Rep (rep)
structure Raw where
 v:vL
instance:Rep Raw where
 size:=1
 agg:=false
 rep F _ cs x:=F=[]/\cs=[x.v]/\x.v.oneCell'=true
 pos:=by decide
 sz _:=rfl
 len:=by rintro _ _ _ _ ⟨_,rfl,_⟩;rfl
 one:=by rintro _ _ _ _ ⟨_,rfl,h⟩ v hv;simp at hv;subst hv;exact h
 keep:=by rintro _ _ _ _ _ h _;exact h
 lt:=by rintro _ _ _ _ ⟨rfl,_⟩ b hb;cases hb
section
variable {P:pG} {w w0 w' w1:wD} {α β γ:Type} [Rep α] [Rep β] {e lo hi:Nat} {v:vL} {F G S:List Nat} {b o g:Nat}
def ChgAt.ext_left {n:Nat} (hx:Ext w w1) (h:ChgAt b o n G w1 w'):ChgAt b o n G w w':=
 ⟨(hx.chg _).trans h.chg,λc e hc=>h.cell c e (by rw [hx.heap (Array.getElem?_eq_some_iff.1 hc).1];exact hc)⟩
def OAt.ext {x:α} (h:OAt G w b o x) (hx:Ext w w1):OAt G w1 b o x:=h.keep λc hc=>hx.heap (h.lts c hc)
def Lens.ext {H:List Nat->wD->γ->Prop} {y:β} {upd:β->γ} (h:Lens H S w b o G y upd) (hx:Ext w w1):Lens H S w1 b o G y upd:=
 ⟨h.here.ext hx,h.sub,λw' G' y' hch hO hs=>h.back w' G' y' (hch.ext_left hx) hO hs⟩
def zdH {ft by_:Nat} {u:vL} {K:vL->Prop} (g1:tyI P ft=some (1,by_,false)) (hr:w.rangeAt b o [u]) (k:K u):RD P (Instr.loadAt ft (.pointer (some ⟨b,o,none⟩))) w K:=by
 refine za9 (λw' g0=>?_) k;have h0:w'.cell? ⟨b,o,none⟩=some u:=by simpa using (zbw hr g0) 0 u rfl
 have hA:=zcd g1 w';simp [Instr.loadAt,Instr.sureAddr,loadVar,hA,h0]
def zs3 {t by_:Nat} {u old:vL} {K:wD->Prop} (ht:tyI P t=some (1,by_,false)) (hw:∃ c e,w.heap[b]?=some (.cells c e (0,0))) (hr:w.rangeAt b o [old]) (ho:old.oneCell'=true) (hu:u.oneCell'=true)
   (k:∀ w',ChgAt b o 1 [] w w'->w'.rangeAt b o [u]->K w'):OPU P (Instr.storeAt t (.pointer (some ⟨b,o,none⟩)) u) w K:=by
 refine zsO (β:=Raw) (G:=[]) (y:=⟨old⟩) (y':=⟨u⟩) (G':=[]) ht ⟨[old],⟨rfl,rfl,ho⟩,hr,qas,Wr.nil w,ss,hw⟩ ⟨[u],⟨rfl,rfl,hu⟩,rfl⟩ qas (Wr.nil w) ss λw' hc hO=>k w' hc ?_;obtain ⟨_,⟨_,rfl,_⟩,g0,_⟩:=hO;exact g0
def VarI.mono {g0 g1:Nat} {x:α} (h:VarI lo hi w g x) (h1:g0<=lo) (h2:hi<=g1):VarI g0 g1 w g x:=by
 obtain ⟨F,h,hF⟩:=h;exact ⟨F,h,λb hb=>by have:=hF b hb;omega⟩
def zdD {t ty:TypeId} {by_:Nat} {u:vL} {x:β} {l:List β} {GX:List Nat} {K:wD->vL->wD->Prop} {C:vL->wD->Prop} (ht:P.underlying t=some (.slice e)) (he:tyI P e=some (Rep.size β,by_,Rep.agg β)) (hz:zbU P e=true)
   (gd:(P.info? e).map (λi=>(i.zero.map (·.cells.size)))=some (some (Rep.size β))) (gf:Rep.size β<=1000) (hv:RowG G e w v l) (hn:G.Nodup) (hx:Mine GX w u x) (hd:∀ c∈GX,c∉G) (hm:l.length+1<=maxLen) (hb:(l.length+1)*by_<=140737488355328)
   (k:∀ w1 v' w' G',Ext w w1->Chg G w1 w'->RowG G' e w' v' (l++[x])->G'.Nodup->(∀ c∈G',c∈G\/c∈GX\/w.heap.size<=c)->K w1 v' w')
   (hC:∀ s w1,Ext w w1->OP P (Builtin.append_ #[t,t] ty [v,s].toArray) w1 (K w1)->C s w1):OP P (Instr.buildSlice t 1 #[(0,u)]) w C:=by
 refine ziR ht he hz gf hx λw1 g1 gg=>?_;obtain ⟨⟨_,⟨_,_,Fi,xs,rfl,_,_,hc,h4⟩,g0⟩,_,gh⟩:=gg;simp only [mkv,Rep.agg,cond_false,qbO,Value.slice.injEq,qam,qaI] at g0;obtain ⟨rfl,_,rfl⟩:=g0;rcases h4 with ⟨h4,_⟩ | ⟨b,o,g2,g5,g9,_⟩
 . simp at h4
 simp only [qa8] at g5;obtain ⟨_,rfl⟩:=g5;refine hC _ w1 g1 ?_
 have gb:∀ (v:vL) (F:List Nat),RowF F e w v l->F.Nodup->(∀ c∈F,c∈G)->OP P (Builtin.append_ #[t,t] ty [v,.slice (some ⟨w.heap.size,0,none⟩) 1 1].toArray) w1 (K w1):=by
   intro v F hF gc g3;have gi:=hF.ext g1
   have gj:(GX++F).Nodup:=by
     rw [qav];exact ⟨hx.nodup,gc,λp hp _ hq e=>hd p hp (g3 _ (e▸hq))⟩
   refine ziJ (m:=[x]) ht he gd gi gc rfl hc (.inr ⟨b,o,g2,g9⟩) (gh.sub sd) gj (by simpa using hm) (by simpa using hb) λv' w' F' gl _ gn gp gq=>?_
   have g4:∀ c∈v.ownBlock.toList,c∈G:=λc hc=>by
     obtain ⟨xs,Fi,_,_,rfl,_⟩:=hF;exact g3 c (by simp only [qae];exact .inl hc)
   refine k w1 v' w' F' g1 (gl.mono g4) (.inr gn) gp λc hc=>?_;rcases gq c hc with h | h | h
   . exact .inl (g3 c h)
   . exact .inr (.inl h)
   exact .inr (.inr (qal g1.size h))
 rcases hv with ⟨a0,rfl,rfl,rfl⟩ | hF
 . have kn:=gb (.slice none 0 0) [] (zlu e w) qas ss;cases a0 with
   | none=>exact kn
   | some x0=>
     simp only [qaq,Addr.mk.injEq] at g2;obtain ⟨rfl,rfl,_⟩:=g2;exact zor (zik (α:=β) (n:=1) ht he gd (by simpa using Cells.len hc) g9 oo (by rw [zak];omega) (by simpa using hb)) kn
 exact gb v G hF hn (λ_ h=>h)
def zc8 {t:TypeId} {by_:Nat} {u:vL} {x:β} {K:vL->wD->Prop} (ht:P.underlying t=some (.slice e)) (he:tyI P e=some (Rep.size β,by_,Rep.agg β)) (hz:zbU P e=true) (hsz:Rep.size β<=1000) (hx:Mine [] w u x)
   (k:∀ v w',Ext w w'->RowI w.heap.size w'.heap.size e w' v [x]->K v w'):OP P (Instr.buildSlice t 1 #[(0,u)]) w K:=by
 obtain ⟨⟨cs,hr,rfl⟩,_,_⟩:=hx;have g1:=ze8 hr;have g0:=Rep.len hr;have g2:(mkv β cs).cells.size=Rep.size β:=by rw [<-qaK,g1,g0]
 obtain ⟨_,_,hi,_,_,_,_⟩:=zdd he;unfold zbU at hz;rw [hi] at hz;obtain ⟨_,hz⟩:=qbx.1 hz;have:=Rep.pos (α:=β);refine ⟨_,w.alloc (.cells (mkv β cs).cells e),?_,k (.slice (some ⟨w.heap.size,0,none⟩) 1 1) _ (zaU w _) (.inr ⟨[w.heap.size],⟨cs,[],⟨by simp [g0],.inr ⟨w.heap.size,1,(mkv β cs).cells,rfl,z0 _,heap_alloc_new w _,lr _,by rw [zak];omega,by rw [g2,qbY],?_⟩⟩,Cells.single (zb7 hr (zaU w _)),rfl,Wr.nil _⟩,ss,?_⟩)⟩
 . have g3:¬Rep.size β=0:=oo;have g4:¬2^24<Rep.size β:=oo;simp only [Instr.buildSlice,Sem.run_bind,run_underlying ht,Result.andThen_ok,za6 he,qbY];simp [g4,g3,zeroValue,typeInfo,hi,hz,zsV _ _ _ g2,newRow]
 . rw [g1,qaC,qbY,qai oo]
 intro _ hb;simp only [qaa,qag,qaz] at hb;subst hb;exact ⟨qaE _,(Array.getElem?_eq_some_iff.1 (heap_alloc_new w _)).1⟩
def Ext.toX {X:Nat->Prop} (h:Ext w w'):ExtX X w w':=⟨h.os,h.tape,h.output,h.size,λb hb _=>h.block b hb⟩
def Chg.toX {X:Nat->Prop} (h:Chg G w w') (hX:∀ c∈G,X c):ExtX X w w':=⟨h.os,h.tape,h.output,h.size,λb hb hn=>h.block b hb λhm=>hn (hX b hm)⟩
def zlL {X:Nat->Prop} {m:Sem vL} {K:vL->Prop} (hX:∀ b,X b->w0.heap.size<=b) (hx:Ext w0 w) (h:RD P m w0 K):RDX P X m w K:=by
 obtain ⟨v,h1,h2⟩:=h;exact ⟨v,λw' hw=>h1 w' ⟨hw.os.trans hx.os,hw.tape.trans hx.tape,hw.output.trans hx.output,qal hx.size hw.size,λb hb=>(hw.block b (qan hb hx.size) λg0=>by have:=hX b g0;omega).trans (hx.block b hb)⟩,h2⟩
def zdy {X:Nat->Prop} {t i off:Nat} {K:vL->Prop} (hf:zdv P t i=some off) (k:K (.pointer (some ⟨b,o+off,none⟩))):RDX P X (Instr.fieldAt t (.pointer (some ⟨b,o,none⟩)) i) w K:=by
 obtain ⟨v,h1,h2⟩:=zaa (P:=P) (w:=w) (K:=λv=>∀ w':wD,(Instr.fieldAt t (.pointer (some ⟨b,o,none⟩)) i).run P w'=.ok v w'/\v=.pointer (some ⟨b,o+off,none⟩)) hf (λw'=>by
   obtain ⟨v,h1,h2⟩:=zaa (P:=P) (w:=w') (b:=b) (o:=o) (K:=λv=>v=.pointer (some ⟨b,o+off,none⟩)) hf rfl;subst h2;exact ⟨h1 w' (xrf w'),rfl⟩)
 refine ⟨v,λw' _=>(h2 w').1,?_⟩;rw [(h2 w).2];exact k
def zeW {X:Nat->Prop} {ft by_:Nat} {u:vL} {K:vL->Prop} (g1:tyI P ft=some (1,by_,false)) (hr:w.rangeAt b o [u]) (hX:¬X b) (k:K u):RDX P X (Instr.loadAt ft (.pointer (some ⟨b,o,none⟩))) w K:=by
 refine ⟨u,λw' g0=>?_,k⟩;have hb:=zea hr ss;have h0:w'.cell? ⟨b,o,none⟩=some u:=by simpa using (zbx hr (g0.block b hb hX)) 0 u rfl
 have hA:=zcd g1 w';simp [Instr.loadAt,Instr.sureAddr,loadVar,hA,h0]
end
end Go.Sh
namespace Go.Sh
open Rep (rep)
section
variable {P:pG} {w w0 w':wD} {α:Type} [Rep α] {lo hi e:Nat} {v:vL} {l:List α}
def RowG.flat [Flat α] {F:List Nat} (h:RowG F e w v l):F=[]\/∃ b,F=[b]:=by
 rcases h with ⟨_,_,_,rfl⟩ | ⟨xs,_,_,hc,rfl,_⟩
 . exact .inl rfl
 have:=Cells.flat (xs:=xs) hc;subst this;rcases hv:v.ownBlock with _ | b
 . exact .inl ss
 exact .inr ⟨b,ss⟩
def zpY [RepZ α]:OwnI lo hi w (mkv α (RepZ.zc α)) (RepZ.zv:α):=⟨[],⟨⟨RepZ.zc α,RepZ.zr w,rfl⟩,qas,Wr.nil w⟩,ss⟩
def Chg.ofI {F:List Nat} (h:Chg F w w') (hF:∀ b∈F,lo<=b/\b<hi):ChgI lo hi w w':=
 ⟨h.os,h.tape,h.output,h.size,λb hb hx=>h.block b hb λhm=>by have:=hF b hm;omega⟩
def ChgI.ext_left {w1:wD} (hx:Ext w w1) (h:ChgI lo hi w1 w'):ChgI lo hi w w':=
 ⟨h.os.trans hx.os,h.tape.trans hx.tape,h.output.trans hx.output,qal hx.size h.size,λb hb ho=>by rw [h.block b (qan hb hx.size) ho,hx.block b hb]⟩
def zdX [Flat α] {t ty:TypeId} {by_:Nat} {u:vL} {x:α} {lo2 hi2:Nat} {K:vL->wD->Prop} (ht:P.underlying t=some (.slice e)) (he:tyI P e=some (Rep.size α,by_,Rep.agg α)) (hz:zbU P e=true)
   (g3:(P.info? e).map (λi=>(i.zero.map (·.cells.size)))=some (some (Rep.size α))) (g4:Rep.size α<=1000) (hv:RowI lo hi e w v l) (hx:OwnI lo2 hi2 w u x) (hm:l.length+1<=maxLen) (hb:(l.length+1)*by_<=140737488355328)
   (k:∀ v' w' lo' hi',ChgI lo hi w w'->RowI lo' hi' e w' v' (l++[x])->(lo'=lo/\hi'=hi\/lo'=w.heap.size/\hi'=w'.heap.size)->K v' w'):OP P (Instr.buildSlice t 1 #[(0,u)]) w λs w1=>OP P (Builtin.append_ #[t,t] ty [v,s].toArray) w1 K:=by
 obtain ⟨_,h1,h2,h3⟩:=zhH.1 hv;obtain ⟨G,g1,_⟩:=hx;have g2:G=[]:=by obtain ⟨_,hr,_⟩:=g1.own;exact Flat.flat hr
 subst g2;refine zdD (K:=λ_=>K) ht he hz g3 g4 h1 h2 g1 ss hm hb (λw1 v' w' _ g5 hc hR hN hs=>?_) λ_ _ _ h=>h;have g0:=ChgI.ext_left g5 (hc.ofI h3);have g9:=hR.lt;rcases hR.flat with rfl | ⟨b,rfl⟩
 . exact k v' w' lo hi g0 (zhH.2 ⟨[],hR,hN,ss⟩) (.inl ⟨rfl,rfl⟩)
 rcases hs b ss with h | h | h
 . exact k v' w' lo hi g0 (zhH.2 ⟨[b],hR,hN,λc hc=>by simp at hc;subst hc;exact h3 _ h⟩) (.inl ⟨rfl,rfl⟩)
 . cases h
 exact k v' w' w.heap.size w'.heap.size g0 (zhH.2 ⟨[b],hR,hN,λc hc=>by simp at hc;subst hc;exact ⟨h,g9 _ ss⟩⟩) (.inr ⟨rfl,rfl⟩)
end
end Go.Sh
namespace Go.Proofs.YtkgiigmcbgifdaaGreatDoor
open Go Go.Sh Go.Proofs
open Rep (rep)
variable {F F1:List Nat} {W w w1 w2:wD} {b n:Nat} {s:ByteArray}
def zEw (t:DStmt):Prop:=(t.kind=1/\zaz t.name=true/\zbg 6 t.term=true/\t.body=[]/\t.els=[])\/((t.kind=4\/t.kind=5\/t.kind=6\/t.kind=7)/\zaz t.name=true/\t.term=term0/\t.body=[]/\t.els=[]) \/
 (t.kind=8/\t.name=ByteArray.mk #[]/\t.term=term0/\t.body=[]/\t.els=[])\/(t.kind=2/\t.name=ByteArray.mk #[]/\zbg 6 t.term=true)\/(t.kind=3/\t.name=ByteArray.mk #[]/\zbg 6 t.term=true/\t.els=[])
def S0 (t:DStmt):Prop:=(t.kind=1/\zaz t.name=true/\zbg 6 t.term=true/\t.body=[]/\t.els=[])\/((t.kind=4\/t.kind=5)/\zaz t.name=true/\t.term=term0/\t.body=[]/\t.els=[]) \/
 ((t.kind=6\/t.kind=7)/\zaz t.name=true/\t.term=term0/\t.body=[]/\t.els=[])\/(t.kind=8/\t.name=nO/\t.term=term0/\t.body=[]/\t.els=[])
def SH:Nat->DStmt->Prop
 | 0,t=>S0 t
 | n+1,t=>S0 t\/((t.kind=2\/t.kind=3/\t.els=[])/\t.name=nO/\zbg 6 t.term=true/\(∀ x∈t.body,SH n x)/\∀ x∈t.els,SH n x)
def SH.zero {t:DStmt} (h:SH 0 t):S0 t:=by rw [SH] at h;exact h
def SH.succ {t:DStmt} (h:SH (n+1) t):S0 t\/((t.kind=2\/t.kind=3/\t.els=[])/\t.name=nO/\zbg 6 t.term=true/\(∀ x∈t.body,SH n x)/\∀ x∈t.els,SH n x):=by
 rw [SH] at h;exact h
theorem SH.base:∀ {n:Nat} {t:DStmt},S0 t->SH n t
 | 0,t,h=>by rw [SH];exact h
 | n+1,t,h=>by rw [SH];exact .inl h
def SH.more {t:DStmt} (h1:t.kind=2\/t.kind=3/\t.els=[]) (h2:t.name=nO) (h3:zbg 6 t.term=true) (h4:∀ x∈t.body,SH n x) (h5:∀ x∈t.els,SH n x):SH (n+1) t:=by
 rw [SH];exact .inr ⟨h1,h2,h3,h4,h5⟩
theorem SH.one {t:DStmt} (h:SH n t):zEw t:=by
 have h0:S0 t->zEw t:=λh=>by
   rcases h with ⟨h1,h2,h3,h4,h5⟩ | ⟨h1,h2,h3,h4,h5⟩ | ⟨h1,h2,h3,h4,h5⟩ | ⟨h1,h2,h3,h4,h5⟩
   . exact .inl ⟨h1,h2,h3,h4,h5⟩
   . exact .inr (.inl ⟨oo,h2,h3,h4,h5⟩)
   . exact .inr (.inl ⟨oo,h2,h3,h4,h5⟩)
   exact .inr (.inr (.inl ⟨h1,h2,h3,h4,h5⟩))
 cases n with
 | zero=>exact h0 h.zero
 | succ n=>
   rcases h.succ with h | ⟨h1,h2,h3,h4,h5⟩
   . exact h0 h
   rcases h1 with h1 | ⟨h1,h6⟩
   . exact .inr (.inr (.inr (.inl ⟨h1,h2,h3⟩)))
   exact .inr (.inr (.inr (.inr ⟨h1,h2,h3,h6⟩)))
theorem SH.kids {x:DStmt} (h:SH n x):(∀ y∈x.body,SH (n-1) y)/\(∀ y∈x.els,SH (n-1) y)/\(0<n\/(x.body=[]/\x.els=[]))/\(¬(x.kind=2\/x.kind=3)->x.body=[]/\x.els=[])/\((x.kind=2\/x.kind=3)->0<n):=by
 have h0:S0 x->(x.body=[]/\x.els=[])/\¬(x.kind=2\/x.kind=3):=λh=>by rcases h with q | q | q | q<;>exact ⟨⟨q.2.2.2.1,q.2.2.2.2⟩,by have:=q.1;omega⟩
 cases n with
 | zero=>
   obtain ⟨⟨h1,h2⟩,h3⟩:=h0 h.zero;exact ⟨by rw [h1];simp,by rw [h2];simp,.inr ⟨h1,h2⟩,λ_=>⟨h1,h2⟩,λh=>absurd h h3⟩
 | succ n=>
   rcases h.succ with q | ⟨q,_,_,h4,h5⟩
   . obtain ⟨⟨h1,h2⟩,h3⟩:=h0 q;exact ⟨by rw [h1];simp,by rw [h2];simp,.inr ⟨h1,h2⟩,λ_=>⟨h1,h2⟩,λh=>absurd h h3⟩
   exact ⟨h4,h5,.inl oo,λhn=>absurd (q.imp id λh=>h.1) hn,λ_=>oo⟩
def zE8 (c:Scp):Prop:=(∀ x∈c.gl,zaz x=true)/\(∀ x∈c.lk,zaz x=true)/\∀ x∈c.pr,zaz x=true
theorem StR.sh {c:Scp} (hp:zE8 c):∀ {n:Nat} {t:DStmt},StR c n t->SH n t:=by
 have h0:∀ {t:DStmt},St0 c t->S0 t:=λh=>by
   rcases h with ⟨h1,h2,h3,h4,h5⟩ | ⟨h1,h2,h3,h4,h5⟩ | ⟨h1,h2,h3,h4,h5⟩ | ⟨h1,h2,h3,h4,h5⟩
   . exact .inl ⟨h1,hp.1 _ h2,h3.1,h4,h5⟩
   . exact .inr (.inl ⟨h1,hp.2.2 _ h2,h3,h4,h5⟩)
   . exact .inr (.inr (.inl ⟨h1,hp.2.1 _ h2,h3,h4,h5⟩))
   exact .inr (.inr (.inr ⟨h1,h2,h3,h4,h5⟩))
 intro n
 induction n with
 | zero=>intro t h;exact SH.base (h0 h.zero)
 | succ n ih=>
   intro t h;rcases h.succ with h | ⟨h1,h2,h3,h4,h5⟩
   . exact SH.base (h0 h)
   exact SH.more h1 h2 h3.1 (λx hx=>ih (h4 x hx)) λx hx=>ih (h5 x hx)
def zB2 (h:zaz s=true):s.size<=12:=by
 unfold zaz zh0 at h;simp only [qap,qau] at h;exact h.1.1.1
theorem zs4:∀ (n:Nat) (t:DTerm),zbg n t=true->wT t+2<=14*2^n
  | n,.mk k a s ks,h=>by
    have:1<=2^n:=qb7;rw [zEL];by_cases h2:k=2
    . rw [zfB (t:=.mk k a s ks) h2] at h;simp only [qap,qau] at h;have:s.size<=12:=zB2 h.1.2;have h5:(ks.length:Int)=0:=h.2;have h4:ks=[]:=qaj oo;rw [h4];simp [sm];omega
    have:s.size=0:=by
      by_cases h1:k=1
      . rw [zes (t:=.mk k a s ks) h1] at h;simp only [qap,qau] at h;have h5:s=ByteArray.mk #[]:=h.1.2;rw [h5];rfl
      rw [zbD (t:=.mk k a s ks) h1 h2] at h;simp only [qap,qau] at h;have h5:s=ByteArray.mk #[]:=h.1.1.2;rw [h5];rfl
    rcases zim h h2 with hk | ⟨m,rfl,hk,g0⟩
    . have hk:ks=[]:=hk;rw [hk];simp [sm];omega
    have hk:ks.length<=2:=hk
    have g1:∀ l:List DTerm,(∀ x∈l,zbg m x=true)->sm wT l+2*l.length<=l.length*(14*2^m):=by
      intro l
      induction l with
      | nil=>intro _;simp [sm]
      | cons x l ih=>
        intro hl;have h1:=ih λy hy=>hl y (by simp [hy]);have h2:=zs4 m x (hl x ss);simp only [sm,qbX,qcV,qam,qbu] at h1 ⊢;omega
    have h1:=g1 ks g0;rw [qc2];have:1<=2^m:=qb7;have hc:ks.length=0\/ks.length=1\/ks.length=2:=oo;rcases hc with hc | hc | hc<;>(rw [hc] at h1 ⊢;omega)
termination_by n=>n
decreasing_by omega
def zwC {t:DTerm} (h:zbg 6 t=true):wT t<=1000:=by have:=zs4 6 t h;omega
structure KnS (c:Scp) (x:DStmt):Prop where
 k1:x.kind=1->x.name∈c.gl
 k6:x.kind=6\/x.kind=7->x.name∈c.lk
 k4:x.kind=4\/x.kind=5->x.name∈c.pr
def RdK (c:Scp) (x:DStmt):Prop:=∀ s∈zbf x.term,s∈c.gl
def zpZ:zbf term0=[]:=by decide
theorem zwD {c:Scp} {x:DStmt} (h:SH n x):StR c n x↔KnS c x/\RdK c x/\(∀ y∈x.body,StR c (n-1) y)/\∀ y∈x.els,StR c (n-1) y:=by
 have h0:S0 x->(St0 c x↔KnS c x/\RdK c x)/\x.body=[]/\x.els=[]:=λq=>by
   rcases q with q | q | q | q
   . refine ⟨⟨λh=>?_,λh=>.inl ⟨q.1,h.1.k1 q.1,⟨q.2.2.1,h.2,zwC q.2.2.1⟩,q.2.2.2⟩⟩,q.2.2.2⟩;rcases h with h | h | h | h
     . exact ⟨⟨λ_=>h.2.1,λ_=>oo,λ_=>oo⟩,h.2.2.1.2.1⟩
     . have:=h.1;omega
     . have:=h.1;omega
     have:=h.1;omega
   . refine ⟨⟨λh=>?_,λh=>.inr (.inl ⟨q.1,h.1.k4 q.1,q.2.2⟩)⟩,q.2.2.2⟩;rcases h with h | h | h | h
     . have:=h.1;omega
     . exact ⟨⟨λ_=>oo,λ_=>oo,λ_=>h.2.1⟩,by unfold RdK;rw [q.2.2.1,zpZ];simp⟩
     . have:=h.1;omega
     have:=h.1;omega
   . refine ⟨⟨λh=>?_,λh=>.inr (.inr (.inl ⟨q.1,h.1.k6 q.1,q.2.2⟩))⟩,q.2.2.2⟩;rcases h with h | h | h | h
     . have:=h.1;omega
     . have:=h.1;omega
     . exact ⟨⟨λ_=>oo,λ_=>h.2.1,λ_=>oo⟩,by unfold RdK;rw [q.2.2.1,zpZ];simp⟩
     have:=h.1;omega
   exact ⟨⟨λh=>⟨⟨λ_=>oo,λ_=>oo,λ_=>oo⟩,by unfold RdK;rw [q.2.2.1,zpZ];simp⟩,λh=>.inr (.inr (.inr q))⟩,q.2.2.2⟩
 cases n with
 | zero=>
   obtain ⟨h1,h2,h3⟩:=h0 h.zero;rw [h2,h3];exact ⟨λh=>⟨(h1.1 h.zero).1,(h1.1 h.zero).2,ss,ss⟩,λh=>StR.base (h1.2 ⟨h.1,h.2.1⟩)⟩
 | succ n=>
   rcases h.succ with q | ⟨q,h2,h3,_,_⟩
   . obtain ⟨h1,h2,h3⟩:=h0 q;rw [h2,h3];refine ⟨λh=>?_,λh=>StR.base (h1.2 ⟨h.1,h.2.1⟩)⟩;rcases h.succ with h | ⟨h,_⟩
     . exact ⟨(h1.1 h).1,(h1.1 h).2,ss,ss⟩
     exfalso;rcases q with q | q | q | q<;>(have:=q.1;omega)
   refine ⟨λh=>?_,λh=>StR.more q h2 ⟨h3,h.2.1,zwC h3⟩ h.2.2.1 h.2.2.2⟩;rcases h.succ with h | ⟨_,_,h8,h9,g0⟩
   . exfalso;rcases h with h | h | h | h<;>(have:=h.1;omega)
   exact ⟨⟨λ_=>oo,λ_=>oo,λ_=>oo⟩,h8.2.1,h9,g0⟩
structure ShP (p:DProg):Prop where
 g:p.globals.length<=6/\∀ x∈p.globals,zaz x=true
 l:p.locks.length<=6/\∀ x∈p.locks,zaz x=true
 n:p.procs.length<=8/\∀ x∈p.procs.map DProc.name,zaz x=true
 b:∀ x∈p.procs,(∀ y∈x.body,SH 6 y)/\szL x.body<=60
abbrev scP (p:DProg):Scp:=⟨p.globals,p.locks,p.procs.map DProc.name⟩
def ProgR.sc {p:DProg} (hp:ProgR p):zE8 (scP p):=⟨hp.g.2.1,hp.l.2.1,hp.n.2.1⟩
def ProgR.sh {p:DProg} (hp:ProgR p):ShP p:=⟨⟨hp.g.1,hp.g.2.1⟩,⟨hp.l.1,hp.l.2.1⟩,⟨hp.n.1,hp.n.2.1⟩,λx hx=>⟨λy hy=>((hp.b x hx).1 y hy).sh hp.sc,(hp.b x hx).2⟩⟩
def ShP.gok {p:DProg} (hp:ShP p):(decide ((p.globals.length:Int)<=6)&&p.globals.all zaz)=true:=by
 rw [qaH.2 hp.g.2,decide_eq_true (by have:=hp.g.1;omega)];rfl
def ShP.lok {p:DProg} (hp:ShP p):(decide ((p.locks.length:Int)<=6)&&p.locks.all zaz)=true:=by
 rw [qaH.2 hp.l.2,decide_eq_true (by have:=hp.l.1;omega)];rfl
def KnP (p:DProg):Prop:=∀ x∈p.procs,∀ y∈x.body,StR (scP p) 6 y
open Classical in
noncomputable def zcT (p:DProg):Int:=if ¬p.globals.Nodup\/¬p.locks.Nodup\/¬(p.procs.map DProc.name).Nodup then 2 else if ¬KnP p then 3 else if zg5∉p.procs.map DProc.name then 4 else 0
def zwE {p:DProg} (hp:ShP p) (h:zcT p=0):ProgR p:=by
 unfold zcT at h;split at h
 . omega
 rename_i h1;split at h
 . omega
 rename_i h2;split at h
 . omega
 rename_i h3;simp only [not_or,qby] at h1 h2 h3;exact ⟨⟨hp.g.1,hp.g.2,h1.1⟩,⟨hp.l.1,hp.l.2,h1.2.1⟩,⟨hp.n.1,hp.n.2,h1.2.2,h3⟩,λx hx=>⟨h2 x hx,(hp.b x hx).2⟩⟩
def zs5 {p:DProg} (hp:ProgR p):zcT p=0:=by
 unfold zcT;rw [qad (by simp only [not_or,qby];exact ⟨hp.g.2.2,hp.l.2.2,hp.n.2.2.1⟩),qad (by simp only [qby];exact λx hx=>(hp.b x hx).1),qad (by simp only [qby];exact hp.n.2.2.2)]
def zrF {x:DStmt} (h:AtB W w b 0 x):AtB W w b (0+6) x.body:=by
 obtain ⟨F,cs,hr,hc⟩:=h;have h:AtB W w b 0 x.tup:=⟨F,cs,zeq.1 hr,hc⟩;exact h.snd.snd.snd.fst
def zrG {x:DStmt} (h:AtB W w b 0 x):AtB W w b (0+7) x.els:=by
 obtain ⟨F,cs,hr,hc⟩:=h;have h:AtB W w b 0 x.tup:=⟨F,cs,zeq.1 hr,hc⟩;exact h.snd.snd.snd.snd
def zDK {p:DProg} (h:AtB W w b 0 p):AtB W w b (0+2) p.procs:=by
 obtain ⟨F,cs,hr,hc⟩:=h;have h:AtB W w b 0 (p.globals,p.locks,p.procs):=⟨F,cs,hr,hc⟩;exact h.snd.snd
def zEN {p:DProc} (h:AtB W w b 0 p):AtB W w b (0+1) p.body:=by
 obtain ⟨F,cs,hr,hc⟩:=h;have h:AtB W w b 0 (p.name,p.body):=⟨F,cs,hr,hc⟩;exact h.snd
def zuk {a:Prop} [Decidable a] {Q kt kf:Prop} (hq:a->Q) (key:Q->kt) (rest:(Q->kt)->¬a->kf):BR (.bool (decide a)) kt kf:=br (λh=>key (hq h)) (rest key)
structure UnkS (F:List Nat) (w:wD) (o:List ByteArray) (ok:Prop) (b:Nat) (r:vL) (F':List Nat) (o':List ByteArray) (w':wD):Prop where
 chg:Chg F w w'
 row:RowG F' 9 w' r o'
 nd:F'.Nodup
 sub:∀ c∈F',c∈F\/w.heap.size<=c
 iff_:o'=[]↔o=[]/\ok
 len:o'.length<=o.length+b
def zB3 (h:Chg F w w1) (k:Chg F1 w1 w2) (hF:∀ c∈F1,c∈F\/w.heap.size<=c):Chg F w w2:=
 ⟨k.os.trans h.os,k.tape.trans h.tape,k.output.trans h.output,qal h.size k.size,λb hb hn=>(k.block b (qan hb h.size) λhm=>by
   rcases hF b hm with h | h
   . exact hn h
   omega).trans (h.block b hb hn)⟩
section
variable {F F1 F2:List Nat} {w w1 w2:wD} {o o1 o2:List ByteArray} {ok ok':Prop} {b b':Nat} {r r':vL}
def UnkS.refl (h:RowG F 9 w r o) (hn:F.Nodup):UnkS F w o True 0 r F o w:=⟨Chg.refl _ _,h,hn,λc hc=>.inl hc,ss,qaE _⟩
def UnkS.trans (h:UnkS F w o ok b r F1 o1 w1) (k:UnkS F1 w1 o1 ok' b' r' F2 o2 w2):UnkS F w o (ok/\ok') (b+b') r' F2 o2 w2:=
 ⟨zB3 h.chg k.chg h.sub,k.row,k.nd,λc hc=>(k.sub c hc).elim (h.sub c) λhh=>.inr (qal h.chg.size hh),by rw [k.iff_,h.iff_,and_assoc],by have:=h.len;have:=k.len;omega⟩
def UnkS.ext (h:UnkS F w o ok b r F1 o1 w1) (hx:Ext w1 w2):UnkS F w o ok b r F1 o1 w2:=
 ⟨h.chg.trans (hx.chg F),h.row.keep λc hc=>hx.heap (h.row.lt c hc),h.nd,h.sub,h.iff_,h.len⟩
def UnkS.more (h:UnkS F w o ok b r F1 o1 w1) (hb:b<=b') (hk:ok↔ok'):UnkS F w o ok' b' r F1 o1 w1:=⟨h.chg,h.row,h.nd,h.sub,by rw [h.iff_,hk],by have:=h.len;omega⟩
def UnkS.keep (h:UnkS F w o ok b r F1 o1 w1) {c:Nat} (hc:c<w.heap.size) (hn:c∉F):w1.heap[c]?=w.heap[c]?:=h.chg.block c hc hn
def UnkS.not (h:UnkS F w o ok b r F1 o1 w1) {c:Nat} (hc:c<w.heap.size) (hn:c∉F):c∉F1:=λhm=>(h.sub c hm).elim hn λhh=>oo
def UnkS.old {W:wD} (h:UnkS F w o ok b r F1 o1 w1) (e:Ext W w) (hF:∀ c∈F,W.heap.size<=c):Ext W w1:=e.chg_trans h.chg hF
def UnkS.low {n:Nat} (h:UnkS F w o ok b r F1 o1 w1) (hF:∀ c∈F,n<=c) (hw:n<=w.heap.size):∀ c∈F1,n<=c:=λc hc=>(h.sub c hc).elim (hF c) λhh=>qal hw hh
end
def zp0 (l:List UInt8) (b:UInt8):zlp (l++[b])=zlp l*10+((b.toNat:Int)-48):=by unfold zlp;rw [List.foldl_append];rfl
theorem zjI:∀ (n:Nat) (l:List UInt8),l.length=n->l.all zju=true->0<=zlp l/\zlp l+1<=(10:Int)^n
 | 0,l,h,_=>by rw [qaj h];decide
 | n+1,l,h,ha=>by
   have e:l=l.dropLast++[l.getLast (by intro h0;rw [h0] at h;simp at h)]:=(List.dropLast_concat_getLast _).symm;generalize l.getLast _=b at e;have hl:l.dropLast.length=n:=by rw [List.length_dropLast,h];rfl
   generalize l.dropLast=m at e hl;subst e;rw [qc5,qap] at ha;have ih:=zjI n m hl ha.1;have hb:zju b=true:=by have:=ha.2;simpa using this
   unfold zju at hb;have hb:=of_decide_eq_true hb;rw [zp0,Int.pow_succ];omega
def zrH {n:Int} (h:zky s=some n):0<=n/\n<=1000000000:=by
 unfold zky at h;split at h
 . rename_i hq;have:=zjI _ (bts s) rfl hq.1;simp only [qaq] at h;omega
 cases h
section
variable {L:List DSign} {e:Int}
def zwF (hL:∀ x∈L,SgOk x) {i:Nat} (h:sgK L i=2):zky (sgT L i)=some (zlp (bts (sgT L i))):=by
 rcases qaw i L.length with h1 | h1
 . rw [<-zol h1] at h;rw [<-zfS h1];exact ((hL _ (qac h1)).num h).1
 rw [zoo h1] at h;cases h
def zy3 (hL:∀ x∈L,SgOk x) (i:Nat):(sgT L i).size<=6000:=by
 rcases qaw i L.length with h1 | h1
 . rw [<-zfS h1];exact (hL _ (qac h1)).size
 rw [zgE h1];decide
def zs6 (t:ByteArray):opN t=0\/(3<=opN t/\opN t<=9/\opN t≠8):=by
 unfold opN;repeat' split
 all_goals omega
def zs7 (t:ByteArray):wkK t<=8/\(wkK t=1->zaz t=true):=by
 unfold wkK;repeat' split
 all_goals first | exact ⟨oo,λ_=>oo⟩ | exact ⟨oo,λ_=>by assumption⟩
def tm8 {n:Nat} {t:DTerm} (h:zbg n t=true):zbg (n+1) (.mk 8 0 tmE [t])=true:=by
 rw [zbD (by simp [DTerm.kind]) (by simp [DTerm.kind])];simp [DTerm.kind,DTerm.num,DTerm.name,DTerm.kids,tmE,h]
def tm2 {n k:Nat} {a b:DTerm} (hk:3<=k/\k<=9/\k≠8) (ha:zbg n a=true) (hb:zbg n b=true):zbg (n+1) (.mk (k:Int) 0 tmE [a,b])=true:=by
 rw [zbD (by simp only [DTerm.kind];omega) (by simp only [DTerm.kind];omega)];have h8:¬(k:Int)=8:=oo;have h3:(3:Int)<=k/\(k:Int)<=9:=oo;simp [DTerm.kind,DTerm.num,DTerm.name,DTerm.kids,tmE,ha,hb,h8,h3]
def zwG (hL:∀ x∈L,SgOk x) {n:Nat} {C:Nat->Rd DTerm} (hi:∀ i t j,C i=.ok (t,j)->zbg n t=true) {i:Nat} {t:DTerm} {j:Nat} (h:zry L e C i=.ok (t,j)):zbg n t=true:=by
 unfold zry at h;split at h
 . rename_i hn;simp only [Except.ok.injEq,qaB] at h;rw [<-h.1,zfB rfl];simp [DTerm.num,DTerm.name,DTerm.kids,hn]
 split at h
 . rename_i hk;simp only [Except.ok.injEq,qaB] at h;have:=zrH (zwF hL hk);rw [<-h.1,zes rfl];simp [DTerm.num,DTerm.name,DTerm.kids,tmE,this]
 split at h
 . exact hi _ _ _ h
 cases h
theorem ziZ (hL:∀ x∈L,SgOk x):∀ (n i:Nat) (t:DTerm) (j:Nat),zej L e n i=.ok (t,j)->zbg n t=true
 | 0,i,t,j,h=>zwG hL (λ_ _ _ h=>by cases h) h
 | n+1,i,t,j,h=>by
   refine zwG hL (λi t j h=>?_) h;unfold pIn at h;split at h
   . obtain ⟨x,i1,h1,h⟩:=zct h;obtain ⟨_,i2,_,h⟩:=zct h;simp only [Except.ok.injEq,qaB] at h;rw [<-h.1];exact tm8 (ziZ hL n _ _ _ h1)
   obtain ⟨a,i1,h1,h⟩:=zct h;split at h
   . cases h
   rename_i hk;obtain ⟨b,i2,h2,h⟩:=zct h;obtain ⟨_,i3,_,h⟩:=zct h;simp only [Except.ok.injEq,qaB] at h;rw [<-h.1];exact tm2 ((zs6 _).resolve_left hk) (ziZ hL n _ _ _ h1) (ziZ hL n _ _ _ h2)
def zCY (n:Nat) (b:Blk9):Prop:=∀ q i l q' j,b q i=.ok ((l,q'),j)->(∀ x∈l,SH n x)/\szL l+q'=q
def zp1 (k:Int) (s:ByteArray) (t:DTerm) (b c:List DStmt):szS (.mk k s t b c)=1+szL b+szL c:=by rw [szS]
def zwH:szL []=0:=by rw [szL]
def zoH {i j:Nat} {s:ByteArray} (h:zhe L e i=.ok (s,j)):zaz s=true/\s=sgT L i/\j=i+1:=by
 unfold zhe at h;split at h
 . rename_i hn;simp only [Except.ok.injEq,qaB] at h;rw [<-h.1];exact ⟨hn,rfl,h.2.symm⟩
 cases h
def zy4 (hL:∀ x∈L,SgOk x) {n:Nat} {b:Blk9} {k q i:Nat} (hk:k<=8/\(k=1->zaz (sgT L i)=true)/\k≠0) (hb:(k=2\/k=3)->0<n/\zCY (n-1) b) {s:DStmt} {q' j:Nat} (h:zd6 L e b k q i=.ok ((s,q'),j)):SH n s/\szS s+q'=q+1:=by
 unfold zd6 at h;split at h
 . rename_i k1;obtain ⟨_,i1,_,h⟩:=zct h;obtain ⟨t,i2,h2,h⟩:=zct h;obtain ⟨_,_,_,h⟩:=zct h;simp only [Except.ok.injEq,qaB] at h;obtain ⟨⟨rfl,rfl⟩,rfl⟩:=h;exact ⟨SH.base (.inl ⟨rfl,hk.2.1 k1,ziZ hL _ _ _ _ h2,rfl,rfl⟩),by rw [zp1,zwH];omega⟩
 rename_i n1;split at h
 . obtain ⟨_,i1,_,h⟩:=zct h;simp only [Except.ok.injEq,qaB] at h;obtain ⟨⟨rfl,rfl⟩,rfl⟩:=h;exact ⟨SH.base (.inr (.inr (.inr ⟨rfl,rfl,rfl,rfl,rfl⟩))),by rw [zp1,zwH];omega⟩
 rename_i n8;split at h
 . rename_i k23;obtain ⟨hn,hb⟩:=hb k23;obtain ⟨m,rfl⟩:∃ m,n=m+1:=⟨n-1,oo⟩;obtain ⟨t,i1,h1,h⟩:=zct h;have ht:=ziZ hL _ _ _ _ h1;obtain ⟨⟨_,_⟩,i2,h2,h⟩:=zct h;have h3:=hb _ _ _ _ _ h2;split at h
   . simp only [Except.ok.injEq,qaB] at h;obtain ⟨⟨rfl,rfl⟩,rfl⟩:=h;have g0:(k:Int)=2\/(k:Int)=3/\([]:List DStmt)=[]:=k23.elim (λh=>.inl oo) λh=>.inr ⟨oo,rfl⟩;exact ⟨SH.more g0 rfl ht h3.1 (λx hx=>by cases hx),by rw [zp1,zwH];have:=h3.2;simp only at *;omega⟩
   rename_i hels;split at h
   . cases h
   obtain ⟨⟨_,_⟩,_,h4,h⟩:=zct h;have h5:=hb _ _ _ _ _ h4;simp only [Except.ok.injEq,qaB] at h;obtain ⟨⟨rfl,rfl⟩,rfl⟩:=h
   have g0:(k:Int)=2:=by
     rcases k23 with h | h
     . omega
     exact absurd (.inl h) hels
   exact ⟨SH.more (.inl g0) rfl ht h3.1 h5.1,by rw [zp1];have:=h3.2;have:=h5.2;simp only at *;omega⟩
 rename_i n23;obtain ⟨_,i1,h1,h⟩:=zct h;obtain ⟨_,i2,_,h⟩:=zct h;simp only [Except.ok.injEq,qaB] at h;obtain ⟨⟨rfl,rfl⟩,rfl⟩:=h;have hn:=(zoH h1).1;refine ⟨SH.base ?_,by rw [zp1,zwH];omega⟩;have hq:(k:Int)=4\/(k:Int)=5\/(k:Int)=6\/(k:Int)=7:=oo;rcases hq with hq | hq | hq | hq
 . exact .inr (.inl ⟨.inl hq,hn,rfl,rfl,rfl⟩)
 . exact .inr (.inl ⟨.inr hq,hn,rfl,rfl,rfl⟩)
 . exact .inr (.inr (.inl ⟨.inl hq,hn,rfl,rfl,rfl⟩))
 exact .inr (.inr (.inl ⟨.inr hq,hn,rfl,rfl,rfl⟩))
theorem zoI (hL:∀ x∈L,SgOk x) {n:Nat} {deep:Bool} {b:Blk9} (hb:deep=false->0<n/\zCY (n-1) b):∀ m,zCY n (zii L e deep b m)
 | 0=>λq i l q' j h=>by cases h
 | m+1=>λq i l q' j h=>by
   unfold zii at h;split at h
   . simp only [Except.ok.injEq,qaB] at h;obtain ⟨⟨rfl,rfl⟩,rfl⟩:=h;exact ⟨(λx hx=>by cases hx),by rw [zwH];omega⟩
   rename_i h0;split at h
   . cases h
   rename_i hd;split at h
   . cases h
   rename_i hq;obtain ⟨⟨s,q2⟩,i2,h2,h⟩:=zct h;obtain ⟨⟨l3,q3⟩,i3,h3,h⟩:=zct h;have hw:=zs7 (sgT L i);have h4:=zy4 hL (n:=n) ⟨hw.1,hw.2,h0⟩ (λhk=>hb (by cases deep with | false=>rfl | true=>exact absurd ⟨hk,rfl⟩ hd)) h2;have h5:=zoI hL hb m _ _ _ _ _ h3;simp only [Except.ok.injEq,qaB] at h;obtain ⟨⟨rfl,rfl⟩,rfl⟩:=h;refine ⟨λx hx=>?_,by rw [szL];have:=h4.2;have:=h5.2;simp only at *;omega⟩;rcases qaa.1 hx with rfl | hx
   . exact h4.1
   exact h5.1 x hx
def zwI {n:Nat} {b:Blk9} (h:zCY n b):zCY n (zlq L e b):=λq i l q' j hb=>by
 unfold zlq at hb;obtain ⟨_,i1,_,hb⟩:=zct hb;obtain ⟨⟨l2,q2⟩,i2,h2,hb⟩:=zct hb;obtain ⟨_,i3,_,hb⟩:=zct hb;simp only [Except.ok.injEq,qaB] at hb;have:=h _ _ _ _ _ h2;obtain ⟨⟨rfl,rfl⟩,rfl⟩:=hb;exact this
theorem zp2 (hL:∀ x∈L,SgOk x):∀ n,zCY n (zbV L e n)
 | 0=>λq=>zoI hL (n:=0) (deep:=true) (λh=>by cases h) (q+1) q
 | n+1=>λq=>zoI hL (n:=n+1) (deep:=false) (λ_=>⟨oo,zwI (zp2 hL n)⟩) (q+1) q
theorem zwJ:∀ (d i:Nat) (l:List ByteArray) (j:Nat),zlr L e d i=.ok (l,j)->l.length<=d/\∀ x∈l,zaz x=true
 | 0,i,l,j,h=>by
   unfold zlr at h;split at h<;>cases h
 | d+1,i,l,j,h=>by
   unfold zlr at h;obtain ⟨s,i1,h1,h⟩:=zct h;have hs:=(zoH h1).1;split at h
   . obtain ⟨l2,i2,h2,h⟩:=zct h;simp only [Except.ok.injEq,qaB] at h;obtain ⟨rfl,rfl⟩:=h;have ih:=zwJ d _ _ _ h2;refine ⟨by rw [qam];omega,λx hx=>?_⟩;rcases qaa.1 hx with rfl | hx
     . exact hs
     exact ih.2 x hx
   obtain ⟨_,i2,_,h⟩:=zct h;simp only [Except.ok.injEq,qaB] at h;obtain ⟨rfl,rfl⟩:=h;exact ⟨ss,λx hx=>by rw [qay.1 hx];exact hs⟩
def zp3 {w:ByteArray} {i:Nat} {l:List ByteArray} {j:Nat} (h:zd8 L e w i=.ok (l,j)):l.length<=6/\∀ x∈l,zaz x=true:=by
 unfold zd8 at h;obtain ⟨_,_,_,h⟩:=zct h;split at h
 . simp only [Except.ok.injEq,qaB] at h;rw [<-h.1];exact ⟨ss,λx hx=>by cases hx⟩
 exact zwJ _ _ _ _ h
theorem zp4 (hL:∀ x∈L,SgOk x):∀ (d i:Nat) (l:List DProc) (j:Nat),zb4 L e d i=.ok (l,j)->l.length<=d/\∀ x∈l,zaz x.name=true/\(∀ y∈x.body,SH 6 y)/\szL x.body<=60
 | 0,i,l,j,h=>by
   unfold zb4 at h;split at h
   . simp only [Except.ok.injEq,qaB] at h;rw [<-h.1];exact ⟨ss,λx hx=>by cases hx⟩
   split at h<;>cases h
 | d+1,i,l,j,h=>by
   unfold zb4 at h;split at h
   . simp only [Except.ok.injEq,qaB] at h;rw [<-h.1];exact ⟨ss,λx hx=>by cases hx⟩
   obtain ⟨_,i1,_,h⟩:=zct h;obtain ⟨s,i2,h2,h⟩:=zct h;obtain ⟨⟨b,q⟩,i3,h3,h⟩:=zct h;obtain ⟨l4,i4,h4,h⟩:=zct h;simp only [Except.ok.injEq,qaB] at h;obtain ⟨rfl,rfl⟩:=h;have ih:=zp4 hL d _ _ _ h4;have hb:=zwI (zp2 hL 6) _ _ _ _ _ h3;refine ⟨by rw [qam];omega,λx hx=>?_⟩;rcases qaa.1 hx with rfl | hx
   . exact ⟨(zoH h2).1,hb.1,by have:=hb.2;simp only;omega⟩
   exact ih.2 x hx
def zy5 (hL:∀ x∈L,SgOk x) {p:DProg} {j:Nat} (h:zij L e=.ok (p,j)):ShP p:=by
 unfold zij at h;obtain ⟨_,_,h1,h⟩:=zct h;obtain ⟨_,_,h2,h⟩:=zct h;obtain ⟨_,_,h3,h⟩:=zct h;simp only [Except.ok.injEq,qaB] at h;obtain ⟨rfl,rfl⟩:=h;have hp:=zp4 hL _ _ _ _ h3;refine ⟨zp3 h1,zp3 h2,⟨hp.1,λx hx=>?_⟩,λx hx=>(hp.2 x hx).2⟩;obtain ⟨y,hy,rfl⟩:=qa3.1 hx;exact (hp.2 y hy).1
end
section
variable {w:wD} {lo hi l0 h0 l1 h1:Nat} {K:vL->Prop}
def zf7 {α:Type} [Rep α] {v:vL} {l:List α} (h:OwnI lo hi w v l):∃ a cap,v=.slice a l.length cap:=by
 obtain ⟨_,⟨⟨_,⟨a,cap,_,_,rfl,_⟩,hv⟩,_⟩,_⟩:=h;exact ⟨a,cap,by simpa [mkv,Rep.agg] using hv⟩
def za8 {α:Type} [Rep α]:OwnI (α:=List α) lo hi w (.slice none 0 0) []:=zlt none
def zcS:I64 0:=by unfold I64;omega
def zdm:nO.size<=maxLen:=by decide
def zcM:OwnI lo hi w (.agg #[.int .i64 0,.int .i64 0,.string nO,.slice none 0 0]) term0:=zc0 zcS zcS zdm za8
def mkS {k:Int} {s:ByteArray} {t:DTerm} {c0 c1 c2 c3 vb ve:vL} {bs es:List DStmt} {l0 h0 l1 h1 l2 h2:Nat} (hk:I64 k) (hs:s.size<=maxLen) (ht:OwnI l0 h0 w (.agg #[c0,c1,c2,c3]) t) (hb:OwnI l1 h1 w vb bs) (he:OwnI l2 h2 w ve es)
   (d01:h0<=l1\/h1<=l0) (d02:h0<=l2\/h2<=l0) (d12:h1<=l2\/h2<=l1) (b0:lo<=l0/\h0<=hi) (b1:lo<=l1/\h1<=hi) (b2:lo<=l2/\h2<=hi) :
   OwnI lo hi w (.agg #[.int .i64 k,.string s,c0,c1,c2,c3,vb,ve]) (DStmt.mk k s t bs es):=zwh hk hs ht hb he d01 d02 d12 b0 b1 b2
end
end Go.Proofs.YtkgiigmcbgifdaaGreatDoor
namespace Go.Sh
open Rep (rep)
section
variable {P:pG} {w:wD} {α:Type} [Rep α] {e:Nat}
theorem zjJ {w:wD}:∀ {l:List ByteArray},(∀ x∈l,x.size<=maxLen)->Cells [] w (l.map Value.string) l
 | [],_=>⟨rfl,rfl⟩
 | x :: l,h=>⟨[],[],[.string x],l.map Value.string,rfl,rfl,⟨rfl,rfl,h x ss⟩,zjJ λy hy=>h y (by simp [hy])⟩
theorem zA5 {t:TypeId} {by_ n:Nat} {z:vL} {vs:List vL} {C:Array (Nat×vL)} {l:List α} {K:vL->wD->Prop} (ht:P.underlying t=some (.slice e)) (he:tyI P e=some (1,by_,false)) (hz:zcq P e=some [z])
   (hn:0<n/\n<=1000) (hf:Instr.fill (λi=>some (i*1,1)) ((Array.range (n*1)).map λi=>(#[z])[i%1]!) C.toList=some vs.toArray) (hl:l.length=n) (hc:∀ w,Cells [] w vs l)
   (k:∀ v w',Ext w w'->OwnI w.heap.size w'.heap.size w' v l->K v w'):OP P (Instr.buildSlice t n C) w K:=by
 unfold zcq at hz;cases hi:P.info? e with
 | none=>simp [hi] at hz
 | some i=>
   simp only [hi] at hz;obtain ⟨v,hv,g2⟩:=qaS.1 hz;have g0:v.cells=#[z]:=qcc (by simpa using g2);have hB:Blk w.heap.size e (w.alloc (.cells vs.toArray e)) vs:=heap_alloc_new w _;have g1:w.heap.size<(w.alloc (.cells vs.toArray e)).heap.size:=hB.lt;refine ⟨.slice (some ⟨w.heap.size,0,none⟩) n n,w.alloc (.cells vs.toArray e),?_,k _ _ (zaU w _) ⟨[w.heap.size],⟨⟨_,⟨some ⟨w.heap.size,0,none⟩,n,[],vs,rfl,oo,by rw [zak];omega,hc _,.inr ⟨_,_,rfl,rfl,hB.range,g1⟩⟩,by rw [hl];rfl⟩,ss,λb hb=>?_⟩,λb hb=>?_⟩⟩
   . have g3:¬n*1=0:=oo;have g4:¬2^24<n*1:=oo;have g5:(zeroValue e).run P w=.ok v w:=by simp [zeroValue,typeInfo,hi,hv]
     simp only [Instr.buildSlice,Sem.run_bind,run_underlying ht,Result.andThen_ok,za6 he];simp only [g4,g3,if_false,Sem.run_bind,Sem.run_pure,Result.andThen_ok,g5,g0];rw [show (λx=>(#[z]:Array vL)[x%(#[z]:Array vL).size]!)=λi=>(#[z]:Array vL)[i%1]! from rfl,hf];rfl
   . simp only [qaa,qag,qaz] at hb;subst hb;exact ⟨_,_,hB⟩
   simp only [qaa,qag,qaz] at hb;subst hb;exact ⟨qaE _,g1⟩
def zy6 (u v:vL) (cells:Array vL) (s:Nat) (hu:u.cells.size=s) (hv:v.cells.size=s) (hc:cells.size=2*s) :
   Instr.fill (λi=>some (i*s,s)) cells [(0,u),(1,v)]=some (u.cells++v.cells):=by
 have g0:∀ (x:vL) (off:Nat) (cs:Array vL),x.cells.zipIdx.foldl (λ(cs:Array vL) (p:vL×Nat)=>match p with | (c,j)=>cs.setIfInBounds (off+j) c) cs
     = (x.cells.toList.zipIdx 0).foldl (λ(cs:Array vL) (p:vL×Nat)=>cs.setIfInBounds (off+p.2) p.1) cs:=by
   intro x off cs;rw [<-Array.foldl_toList,Array.toList_zipIdx]
 unfold Instr.fill;simp only [Nat.zero_mul];rw [qad so];rw [g0];obtain ⟨_,h2⟩:=zkF 0 u.cells.toList 0 cells;generalize (u.cells.toList.zipIdx 0).foldl (λ(cs:Array vL) (p:vL×Nat)=>cs.setIfInBounds (0+p.2) p.1) cells=c1 at *;unfold Instr.fill;simp only [qbY];rw [qad so];unfold Instr.fill;rw [g0];obtain ⟨_,h4⟩:=zkF s v.cells.toList 0 c1;generalize (v.cells.toList.zipIdx 0).foldl (λ(cs:Array vL) (p:vL×Nat)=>cs.setIfInBounds (s+p.2) p.1) c1=c2 at *;congr 1;apply Array.ext_getElem?;intro i;rw [h4,h2,Array.getElem?_append];simp only [qaK,qck,qba,Array.getElem?_toList,Nat.sub_zero];by_cases hi:i<s
 . rw [qad oo,qah oo,qah oo]
 by_cases hi2:i<2*s
 . rw [qah oo,qad oo,hu]
 rw [qad oo,qad oo,qad oo,Array.getElem?_eq_none oo,Array.getElem?_eq_none oo]
def zul {t:TypeId} {by_:Nat} {u v:vL} {x y:α} {lo l0 h0 l1 h1:Nat} {K:vL->wD->Prop} (ht:P.underlying t=some (.slice e)) (he:tyI P e=some (Rep.size α,by_,Rep.agg α)) (hz:zbU P e=true) (hsz:Rep.size α<=1000)
   (hx:OwnI l0 h0 w u x) (hy:OwnI l1 h1 w v y) (hd:h0<=l1\/h1<=l0) (hl:lo<=l0/\lo<=l1/\lo<=w.heap.size)
   (k:∀ v' w',Ext w w'->OwnI lo w'.heap.size w' v' [x,y]->K v' w'):OP P (Instr.buildSlice t 2 #[(0,u),(1,v)]) w K:=by
 obtain ⟨F,⟨⟨cs,hr,rfl⟩,hn,hw⟩,hF⟩:=hx;obtain ⟨G,⟨⟨ds,g2,rfl⟩,gf,gg⟩,hG⟩:=hy;have g3:=Rep.len hr;have g0:=Rep.len g2;have g5:=ze8 hr;have g1:=ze8 g2;have gh:(mkv α cs).cells.size=Rep.size α:=by rw [<-qaK,g5,g3]
 have g4:(mkv α ds).cells.size=Rep.size α:=by rw [<-qaK,g1,g0]
 obtain ⟨_,_,hi,_,_,_,_⟩:=zdd he;unfold zbU at hz;rw [hi] at hz;obtain ⟨z,hz⟩:=qbx.1 hz;have:=Rep.pos (α:=α);have C:=zaU w (.cells ((mkv α cs).cells++(mkv α ds).cells) e);have hB:(w.alloc (.cells ((mkv α cs).cells++(mkv α ds).cells) e)).heap[w.heap.size]?=some (.cells ((mkv α cs).cells++(mkv α ds).cells) e (0,0)):=heap_alloc_new w _
 have g9:Blk w.heap.size e (w.alloc (.cells ((mkv α cs).cells++(mkv α ds).cells) e)) (cs++ds):=by
   unfold Blk;rw [hB];congr 2;apply qcc;simp [g5,g1]
 have gb:=g9.lt;have gc:=Rep.lt hr;have gd:=Rep.lt g2;refine ⟨.slice (some ⟨w.heap.size,0,none⟩) 2 2,_,?_,k _ _ C ⟨w.heap.size :: (F++G),⟨⟨_,⟨some ⟨w.heap.size,0,none⟩,2,F++G,cs++ds,rfl,lr _,by rw [zak];omega,⟨F,G,cs,ds,rfl,rfl,zb7 hr C,Cells.single (zb7 g2 C)⟩,.inr ⟨_,_,rfl,rfl,g9.range,gb⟩⟩,rfl⟩,?_,?_⟩,?_⟩⟩
 . have gi:¬2*Rep.size α=0:=oo;have gj:¬2^24<2*Rep.size α:=oo;have gl:(zeroValue e).run P w=.ok z w:=by simp [zeroValue,typeInfo,hi,hz]
   simp only [Instr.buildSlice,Sem.run_bind,run_underlying ht,Result.andThen_ok,za6 he];simp only [gj,gi,if_false,Sem.run_bind,Sem.run_pure,Result.andThen_ok,gl];rw [zy6 _ _ _ _ gh g4 ss];rfl
 . rw [qaR,qav];refine ⟨λhm=>?_,hn,gf,λp hp _ hq e=>?_⟩
   . rcases qae.1 hm with hm | hm
     . exact Nat.lt_irrefl _ (gc _ hm)
     exact Nat.lt_irrefl _ (gd _ hm)
   subst e;have:=hF p hp;have:=hG p hq;omega
 . intro b hb;rcases qaa.1 hb with rfl | hb
   . exact ⟨_,_,hB⟩
   rcases qae.1 hb with hb | hb
   . exact (hw.ext C) b hb
   exact (gg.ext C) b hb
 intro b hb;rcases qaa.1 hb with rfl | hb
 . exact ⟨hl.2.2,gb⟩
 rcases qae.1 hb with hb | hb
 . have:=hF b hb;have:=gc b hb;omega
 have:=hG b hb;have:=gd b hb;omega
end
end Go.Sh
namespace Go.Proofs.YtkgiigmcbgifdaaGreatDoor
open Go Go.Sh Go.Proofs
open Rep (rep)
def zlM:zcq tp 9=some [.string ByteArray.empty]:=by kernel_rfl
section
variable {W w w':wD} {g a b:Nat} {bs:List UInt8} {s:Cur}
def ChgI.out {c:wD} {lo hi x y:Nat} (h:ChgI x y w w') (k:ChgI lo hi w' c) (hl:w.heap.size<=lo):ChgI x y w c:=
 ⟨k.os.trans h.os,k.tape.trans h.tape,k.output.trans h.output,qal h.size k.size,λi hi ho=>(k.block i (qan hi h.size) oo).trans (h.block i hi ho)⟩
end
end Go.Proofs.YtkgiigmcbgifdaaGreatDoor
namespace Go.Sh
open Rep (rep)
variable {F:List Nat} {W w w':wD} {g:Nat}
def ChgI.toC (h:ChgI g (g+1) w w'):Chg [g] w w':=⟨h.os,h.tape,h.output,h.size,λi hi hn=>h.block i hi (by simp only [qay] at hn;omega)⟩
def Ext.chgL (h:Ext W w) (k:Chg F w w') (hl:∀ c∈F,W.heap.size<=c):Ext W w':=
 ⟨k.os.trans h.os,k.tape.trans h.tape,k.output.trans h.output,qal h.size k.size,λi hi=>(k.block i (qan hi h.size) λe=>by have:=hl i e;omega).trans (h.block i hi)⟩
section
variable {α:Type} [Rep α] {lo hi:Nat} {w w':wD} {v:vL} {x:α}
end
end Go.Sh
namespace Go.Proofs.YtkgiigmcbgifdaaGreatDoor
open Go Go.Sh Go.Proofs
open Rep (rep)
variable {K:vL->Prop} {P:pG} {W0 w:wD} {k:Nat} {s:ByteArray} {t:TypeId}
def zwK {α:Type} {D r:List α} {x y:α} (h:D.length=k):(D++x :: r).set k y=D++y :: r:=by
 subst h;rw [qbz _ _ (lr _)];simp
def zwL {α:Type} {D r:List α} {x:α} (h:D.length=k) (hk:k<(D++x :: r).length):(D++x :: r)[k]=x:=by
 subst h;simp
abbrev RSt:=Except DFault (Nat×Nat)
def rdC (v:vL) (e:Int) (i:Nat) (f:DFault) (q:Nat):List vL:=[v,.int .i64 (i:Int),.int .i64 e,.int .i64 f.code,.int .i64 f.at_,.int .i64 (q:Int)]
def stR (L:List DSign):RSt->Nat->DFault->Nat->Prop
 | .ok (a,b),i,f,q=>i=a/\f=⟨0,0⟩/\q=b/\a<=L.length
 | .error h,i,f,q=>f=h/\h.code≠0
structure RdG (W:wD) (g:Nat) (L:List DSign) (v:vL) (e:Int) (st:RSt) (w:wD):Prop where
 is_:Is W v L
 ext:Ext W w
 lo:W.heap.size<=g
 many:L.length<=6000
 sg:∀ x∈L,SgOk x
 e0:I64 e
 blk:∃ i f q,Blk g 94 w (rdC v e i f q)/\i<=7000/\q<=60/\I64 f.code/\I64 f.at_/\stR L st i f q
section
variable {W w w':wD} {g:Nat} {L:List DSign} {v:vL} {e:Int} {st:RSt}
def RdG.step (h:RdG W g L v e st w) (hx:Ext w w'):RdG W g L v e st w':=by
 obtain ⟨i,f,q,hB,hr⟩:=h.blk;exact ⟨h.is_,h.ext.trans hx,h.lo,h.many,h.sg,h.e0,i,f,q,hB.ext hx,hr⟩
def RdG.chg {a b:Nat} (h:RdG W g L v e st w) (hc:ChgI a b w w') (hg:g<a\/b<=g) (ha:W.heap.size<=a):RdG W g L v e st w':=by
 obtain ⟨i,f,q,hB,hr⟩:=h.blk;exact ⟨h.is_,h.ext.chgI hc ha,h.lo,h.many,h.sg,h.e0,i,f,q,hB.keep (hc.block g hB.lt hg),hr⟩
def RdG.lt (h:RdG W g L v e st w):g<w.heap.size:=by
 obtain ⟨_,_,_,hB,_⟩:=h.blk;exact hB.lt
theorem zfC {i q:Nat} {f:DFault} (h:stR L st i f q) (h0:f.code=0):st=.ok (i,q)/\f=⟨0,0⟩/\i<=L.length:=by
 cases st with
 | ok p=>obtain ⟨_,_⟩:=p;obtain ⟨rfl,h2,rfl,h4⟩:=h;exact ⟨rfl,h2,h4⟩
 | error k=>obtain ⟨rfl,h2⟩:=h;exact absurd h0 h2
theorem zhi {i q:Nat} {f:DFault} (h:stR L st i f q) (h0:f.code≠0):st=.error f:=by
 cases st with
 | ok p=>obtain ⟨_,_⟩:=p;obtain ⟨rfl,h2,rfl,_⟩:=h;rw [h2] at h0;exact absurd rfl h0
 | error k=>obtain ⟨rfl,h2⟩:=h;rfl
end
section
variable (L:List DSign) (e:Int)
def isS (st:RSt) (t:ByteArray):Bool:=match st with | .ok (i,_)=>decide (atT L i t) | .error _=>false
def nmS (st:RSt):Bool:=match st with | .ok (i,_)=>zaz (sgT L i) | .error _=>false
def bgS (st:RSt):Bool:=match st with | .ok (i,_)=>decide (wkK (sgT L i)≠0) | .error _=>false
def zDL (c:Int) (st:RSt):RSt:=match st with | .ok (i,_)=>.error (ftA L e c i) | .error f=>.error f
def zDM (st:RSt):RSt:=match st with | .ok (i,q)=>.ok (i+1,q) | .error f=>.error f
def zbP (t:ByteArray) (st:RSt):RSt:=if isS L st t=true then zDM st else zDL L e 3 st
def zgH (st:RSt):RSt:=if nmS L st=true then zDM st else zDL L e 3 st
def zft (st:RSt):ByteArray:=match st with | .ok (i,_)=>if zaz (sgT L i)=true then sgT L i else ByteArray.mk #[] | .error _=>ByteArray.mk #[]
end
section
variable {W w:wD} {g:Nat} {L:List DSign} {v:vL} {e:Int} {st:RSt}
def zDN (h:RdG W g L v e st w) {c:Int} {i:Nat}:I64 (ftA L e c i).at_:=by
 rcases qaw i L.length with hi | hi
 . rw [zom hi];have:=h.sg _ (qac hi);have h1:=this.at0;have h2:=this.at1;unfold I64;simp only;omega
 rw [zon hi];exact h.e0
def zDO {i q:Nat} {t:ByteArray} (h:st=.ok (i,q)):isS L st t=decide (atT L i t):=by rw [h];rfl
def zB4 {f:DFault} {t:ByteArray} (h:st=.error f):isS L st t=false:=by rw [h];rfl
theorem zoJ {t:ByteArray} (h:isS L st t=true):∃ i q,st=.ok (i,q)/\atT L i t:=by
 cases st with
 | ok p=>obtain ⟨i,q⟩:=p;exact ⟨i,q,rfl,of_decide_eq_true h⟩
 | error f=>cases h
def zbQ {t:ByteArray} {i q:Nat} (h:atT L i t):zbP L e t (.ok (i,q))=.ok (i+1,q):=by unfold zbP;rw [qah (show isS L (.ok (i,q)) t=true from decide_eq_true h)];rfl
def zcN {t:ByteArray} {i q:Nat} (h:¬atT L i t):zbP L e t (.ok (i,q))=.error (ftA L e 3 i):=by
 have h1:isS L (.ok (i,q)) t=false:=decide_eq_false h;unfold zbP;rw [h1];rfl
def zci {t:ByteArray} {i:Nat} (h:atT L i t):zeJ L e t i=.ok ((),i+1):=by unfold zeJ;rw [qah h]
def zcW {t:ByteArray} {i:Nat} (h:¬atT L i t):zeJ L e t i=.error (ftA L e 3 i):=by unfold zeJ;rw [qad h]
def zcu {t:ByteArray} (h:RdG W g L v e st w) (ht:t≠ByteArray.mk #[]) :
   CALL tp 47 [.pointer (some ⟨g,0,none⟩),.string t] w λr w'=>Ext w w'/\r=.bool (isS L st t):=by
 refine co (g:=kf [] [] [(1,[0,1,2,3,4,5,6,7,8,9,10,11,12,13,14,15,16,17,18,19,20,21,22,23,24,25,26,27,28,29,30,31,32,33],0)]) Tryz.func47 ?_;have C:=zai w;have hW:=h.ext.trans C;obtain ⟨i,_,_,hB,hi,_,_,_,hs⟩:=h.blk;have hB:=hB.ext C;refine NIL.mk rfl<|zaa zg1<|zaa ze9<|zaj ty3 hB rfl<|zag<|br (λh0=>?_) (λhn=>⟨C,by rw [zB4 (zhi hs hn)]⟩);obtain ⟨g0,_,_⟩:=zfC hs h0;rw [zDO g0];refine NIL.mk rfl<|zaa zfy<|zaj ty3 hB rfl<|NIL.mk rfl<|zaa zg0<|zaj zpG hB rfl<|zae u92 h.is_<|zah<|br (λ_=>?_) (λg1=>⟨C,?_⟩)
 . have hi:i<L.length:=oo;refine NIL.mk rfl<|zaa zg0<|zaj zpG hB rfl<|NIL.mk rfl<|zaa zfy<|zaj ty3 hB rfl<|zac u92 zef h.is_ hi λ_ _ hA=>zaa zfb<|zaq ty9 (zf2 hA) hW λ_=>zat<|⟨C,?_⟩;rw [zfS hi];rfl
 rw [decide_eq_false (λhh=>g1 (by have:=zg2 hh ht;omega))]
def zdY {c:Int} (h:RdG W g L v e st w) (gi:c≠0) (gc:I64 c) :
   CALL tp 48 [.pointer (some ⟨g,0,none⟩),.int .i64 c] w λ_ w'=>ChgI g (g+1) w w'/\RdG W g L v e (zDL L e c st) w':=by
 refine co (g:=kf [] [] [(2,[0,1,2,3,4,5,6,7,8,9],0),(3,[0,1,2,3,4,5,6,7,8,9,10,11,12,13,14,15],0)]) Tryz.func48 ?_;obtain ⟨i,_,q,hB,hi,hq,_,_,hs⟩:=h.blk;refine NIL.mk rfl<|zaa zg1<|zaa ze9<|zaj ty3 hB rfl<|zaJ<|br (λhn=>⟨ChgI.refl _,by have:=zhi hs hn;rw [this] at h ⊢;exact h⟩) (λh0=>?_);obtain ⟨gf,_,_⟩:=zfC hs (qaf.1 h0);have gg:=zDN (c:=c) (i:=i) h;have g3:zDL L e c st=.error (ftA L e c i):=by rw [gf];rfl
 rw [g3];refine NIL.mk rfl<|zaa zDs<|zaj ty3 hB rfl<|zas (cells:=#[.int .i64 c,.int .i64 e]) kK<|NIL.mk rfl<|zaa zg1 ?_;have hm:rep (α:=DFault) [] w [.int .i64 c,.int .i64 e] ⟨c,e⟩:=⟨[],[],[.int .i64 c],[.int .i64 e],rfl,rfl,⟨rfl,rfl,gc⟩,rfl,rfl,h.e0⟩;refine zod (α:=DFault) zmR hB hm rfl (by simp [rdC,Rep.size]) λw1 g1 g4=>?_;have g1:ChgI g (g+1) w w1:=g1.toI ss;have g4:Blk g 94 w1 (rdC v e i ⟨c,e⟩ q):=g4;have g5:=zai w1;have g2:=g4.ext g5;have gh:=(h.ext.chgI g1 h.lo).trans g5;have gd:ChgI g (g+1) w (World.drew1 w1):=g1.trans g5.toI;generalize World.drew1 w1=w2 at *
 have g0:∀ {w3:wD} {f':DFault},ChgI g (g+1) w w3->f'=ftA L e c i->Blk g 94 w3 (rdC v e i f' q)->ChgI g (g+1) w w3/\RdG W g L v e (.error (ftA L e c i)) w3:=λ{w3 f'} h1 h2 h3=>
   ⟨h1,h.is_,h.ext.chgI h1 h.lo,h.lo,h.many,h.sg,h.e0,i,f',q,h3,hi,hq,by rw [h2];exact gc,by rw [h2];exact gg,h2,gi⟩
 refine NIL.mk rfl<|zaa zfy<|zaj ty3 g2 rfl<|NIL.mk rfl<|zaa zg0<|zaj zpG g2 rfl<|zae u92 h.is_<|zah<|br (λ_=>?_) (λ_=>g0 gd (by rw [zon oo]) g2);have hi:i<L.length:=oo;have g9:=zai w2;have gb:=g2.ext g9;have gj:=gh.trans g9;have gl:ChgI g (g+1) w (World.drew1 w2):=gd.trans g9.toI;generalize World.drew1 w2=w3 at *;refine NIL.mk rfl<|zaa zg0<|zaj zpG gb rfl<|NIL.mk rfl<|zaa zfy<|zaj ty3 gb rfl<|zac u92 zef h.is_ hi λ_ _ hA=>zaa zv1<|zad ty3 (znh hA) gj λgn=>NIL.mk rfl<|zaa zg1<|zaa zsL<|zaW (α:=Int) (lo:=0) (hi:=0) ty3 rfl rfl gb (by simp [rdC]) (ownI_int gn) λ_ gp gq=>g0 (f':=⟨c,L[i].at_⟩) (gl.trans gp) (by rw [zom hi]) gq
def zip {i q:Nat} {K:wD->Prop} (h:RdG W g L v e st w) (g1:st=.ok (i,q)) (hi:i<L.length)
   (k:∀ w',ChgI g (g+1) w w'->RdG W g L v e (.ok (i+1,q)) w'->K w') :
   NIL (.pointer (some ⟨g,0,none⟩)) (RD tp (Instr.fieldAt 94 (.pointer (some ⟨g,0,none⟩)) 1) w λa=>RD tp (Instr.loadAt 3 a) w λb=>RD tp (bin .add 3 (.tmp 0) (.const undef) b (.int .i64 1)) w λc=>
     NIL (.pointer (some ⟨g,0,none⟩)) (RD tp (Instr.fieldAt 94 (.pointer (some ⟨g,0,none⟩)) 1) w λd=>OPU tp (Instr.storeAt 3 d c) w K)):=by
 obtain ⟨i',_,q',hB,_,hq,hc,ha,hs⟩:=h.blk;rw [g1] at hs;obtain ⟨rfl,rfl,rfl,_⟩:=hs;have:=h.many;refine NIL.mk rfl<|zaa zfy<|zaj ty3 hB rfl<|zaw<|NIL.mk rfl<|zaa zfy<|zaW (α:=Int) (lo:=0) (hi:=0) ty3 rfl rfl hB (by simp [rdC]) (ownI_int io) λw1 g0 g2=>k w1 g0 ⟨h.is_,h.ext.chgI g0 h.lo,h.lo,h.many,h.sg,h.e0,i'+1,⟨0,0⟩,q',g2,oo,hq,hc,ha,rfl,rfl,rfl,hi⟩
def zbA {t:ByteArray} (h:RdG W g L v e st w) (ht:t≠ByteArray.mk #[]) :
   CALL tp 49 [.pointer (some ⟨g,0,none⟩),.string t] w λ_ w'=>ChgI g (g+1) w w'/\RdG W g L v e (zbP L e t st) w':=by
 refine co (g:=kf [] [] []) Tryz.func49 ?_;refine (zcu h ht).mono ?_;rintro _ _ ⟨g0,rfl⟩;refine zau<|zaN (λhb=>?_) (λhb=>?_)
 . have hb:isS L st t=false:=by simpa using hb
   refine (zdY (h.step g0) dD io).mono ?_;rintro _ w2 ⟨g1,h2⟩;unfold zbP;rw [qad (by rw [hb];decide)];exact ⟨g0.toI.trans g1,h2⟩
 have hb:isS L st t=true:=by simpa using hb
 obtain ⟨_,_,g2,g3⟩:=zoJ hb;refine zip (h.step g0) g2 (zg2 g3 ht) λw2 g1 h2=>?_;unfold zbP;rw [qah hb,g2];exact ⟨g0.toI.trans g1,h2⟩
def zfh (h:RdG W g L v e st w) :
   CALL tp 116 [.pointer (some ⟨g,0,none⟩)] w λr w'=>Ext w w'/\r=.bool (nmS L st):=by
 refine co (g:=kf [] [] [(1,[0,1,2,3,4,5,6,7,8,9,10,11,12,13,14,15,16,17,18,19,20,21,22,23,24,25,26,27,28,29,30,31,32,33,34,35,36,37,38,39,40,41,42,43,44,45,46],0)]) Tryz.func116 ?_;have C:=zai w;have hW:=h.ext.trans C;obtain ⟨i,_,_,hB,hi,_,_,_,hs⟩:=h.blk;have hB:=hB.ext C;refine NIL.mk rfl<|zaa zg1<|zaa ze9<|zaj ty3 hB rfl<|zag<|br (λh0=>?_) (λhn=>⟨C,by rw [zhi hs hn];rfl⟩);obtain ⟨g0,_,_⟩:=zfC hs h0;have g1:nmS L st=zaz (sgT L i):=by rw [g0];rfl
 rw [g1];refine NIL.mk rfl<|zaa zfy<|zaj ty3 hB rfl<|NIL.mk rfl<|zaa zg0<|zaj zpG hB rfl<|zae u92 h.is_<|zah<|br (λ_=>?_) (λ_=>⟨C,by rw [zgE oo];rfl⟩);have hi:i<L.length:=oo;have g2:=h.sg _ (qac hi);refine NIL.mk rfl<|zaa zg0<|zaj zpG hB rfl<|NIL.mk rfl<|zaa zfy<|zaj ty3 hB rfl<|zac u92 zef h.is_ hi λb o hA=>zaa zlg<|zad ty3 (zng hA) hW λ_=>zag<|br (λhk=>?_) (λhk=>⟨C,?_⟩)
 . refine NIL.mk rfl ?_;refine zaa zg0<|zaj zpG hB rfl<|NIL.mk rfl<|zaa zfy<|zaj ty3 hB rfl<|zac u92 zef h.is_ hi λb o hA=>zaa zfb<|zaq ty9 (zf2 hA) hW λ_=>?_;rw [zfS hi];refine specIsName_ok.mono ?_;rintro _ _ ⟨g3,rfl⟩;exact ⟨C.t g3,rfl⟩
 have:zaz (sgT L i)=false:=by
   cases hb:zaz (sgT L i) with
   | false=>rfl
   | true=>rw [<-zfS hi] at hb;exact absurd (g2.name hb) hk
 rw [this]
theorem zs8 (h:nmS L st=true):∃ i q,st=.ok (i,q)/\zaz (sgT L i)=true/\i<L.length:=by
 cases st with
 | ok p=>
   obtain ⟨i,q⟩:=p;exact ⟨i,q,rfl,h,zoq h⟩
 | error f=>cases h
theorem zf8 (h:RdG W g L v e st w):(zft L st).size<=maxLen:=by
 rw [zak];cases st with
 | ok p=>
   obtain ⟨i,_⟩:=p;show (if zaz (sgT L i)=true then sgT L i else ByteArray.mk #[]).size<=_;split
   . have:=zy3 h.sg i;omega
   decide
 | error f=>exact (by decide:(ByteArray.mk #[]).size<=9223372036854775807)
def zf9 (h:RdG W g L v e st w) :
   CALL tp 50 [.pointer (some ⟨g,0,none⟩)] w λr w'=>ChgI g (g+1) w w'/\RdG W g L v e (zgH L e st) w'/\r=.string (zft L st):=by
 refine co (g:=kf [] [] [(5,[0,1,2,3,4,5,6,7,8,9,10,11,12],0)]) Tryz.func50 ?_;refine (zfh h).mono ?_;rintro _ _ ⟨g0,rfl⟩;refine zau<|zaN (λhb=>?_) (λhb=>?_)
 . have hb:nmS L st=false:=by simpa using hb
   refine (zdY (h.step g0) dD io).mono ?_;rintro _ w2 ⟨g1,h2⟩;unfold zgH;rw [qad (by rw [hb];decide)];refine ⟨g0.toI.trans g1,h2,?_⟩;cases st with
   | ok p=>
     obtain ⟨i,q⟩:=p;have hb:zaz (sgT L i)=false:=hb;show _=Value.string (if zaz (sgT L i)=true then sgT L i else ByteArray.mk #[]);rw [qad (by rw [hb];decide)]
   | error f=>rfl
 have hb:nmS L st=true:=by simpa using hb
 obtain ⟨i,q,g2,hn,hi⟩:=zs8 hb;refine zip (h.step g0) g2 hi λw2 g1 h2=>?_;have g3:=zai w2;have h3:=h2.step g3;have g4:ChgI g (g+1) w (World.drew1 w2):=(g0.toI.trans g1).trans g3.toI;generalize World.drew1 w2=w3 at *;obtain ⟨_,f,_,hB,_,_,_,_,hs⟩:=h3.blk;obtain ⟨rfl,rfl,rfl,_⟩:=hs;refine NIL.mk rfl<|zaa zg0<|zaj zpG hB rfl<|NIL.mk rfl<|zaa zfy<|zaj ty3 hB rfl<|zbp io ?_;rw [show ((i+1:Nat):Int)-1=(i:Int) by omega];refine zac u92 zef h.is_ hi λ_ _ hA=>zaa zfb<|zaq ty9 (zf2 hA) h3.ext λ_=>?_;unfold zgH;rw [qah hb,g2];refine ⟨g4,h3,?_⟩;show _=Value.string (if zaz (sgT L i)=true then sgT L i else ByteArray.mk #[]);rw [qah hn,zfS hi]
def zDP (t:ByteArray):decide (wkK t≠0)=(zaz t || decide (t=ByteArray.mk #[99,97,108,108]) || decide (t=ByteArray.mk #[115,112,97,119,110]) || decide (t=ByteArray.mk #[108,111,99,107]) || decide (t=ByteArray.mk #[117,110,108,111,99,107]) || decide (t=ByteArray.mk #[115,107,105,112]) || decide (t=ByteArray.mk #[119,104,105,108,101]) || decide (t=ByteArray.mk #[105,102])):=by
 unfold wkK;by_cases h1:t=ByteArray.mk #[105,102]
 . simp [h1]
 by_cases h2:t=ByteArray.mk #[119,104,105,108,101]
 . simp [h2]
 by_cases h3:t=ByteArray.mk #[99,97,108,108]
 . simp [h3]
 by_cases h4:t=ByteArray.mk #[115,112,97,119,110]
 . simp [h4]
 by_cases h5:t=ByteArray.mk #[108,111,99,107]
 . simp [h5]
 by_cases h6:t=ByteArray.mk #[117,110,108,111,99,107]
 . simp [h6]
 by_cases h7:t=ByteArray.mk #[115,107,105,112]
 . simp [h7]
 simp only [h1,h2,h3,h4,h5,h6,h7,if_false,qak,Bool.or_false];cases zaz t<;>simp
theorem zDQ:bgS L st=(nmS L st || isS L st (ByteArray.mk #[99,97,108,108]) || isS L st (ByteArray.mk #[115,112,97,119,110]) || isS L st (ByteArray.mk #[108,111,99,107]) || isS L st (ByteArray.mk #[117,110,108,111,99,107]) || isS L st (ByteArray.mk #[115,107,105,112]) || isS L st (ByteArray.mk #[119,104,105,108,101]) || isS L st (ByteArray.mk #[105,102])):=by
 cases st with
 | ok p=>obtain ⟨i,_⟩:=p;exact zDP (sgT L i)
 | error f=>rfl
def zkl (h:RdG W g L v e st w) :
   CALL tp 117 [.pointer (some ⟨g,0,none⟩)] w λr w'=>Ext w w'/\r=.bool (bgS L st):=by
 refine co (g:=kf [] [] []) Tryz.func117 ?_;rw [zDQ];refine (zfh h).mono ?_;rintro _ _ ⟨g0,rfl⟩;refine zaN (λhb=>⟨g0,by rw [hb];rfl⟩) (λhb=>?_);rw [hb];refine (zcu (h.step g0) dD).mono ?_;rintro _ _ ⟨g1,rfl⟩;have h2:=g0.t g1;refine zaN (λhb=>⟨h2,by rw [hb];rfl⟩) (λhb=>?_);rw [hb];refine (zcu (h.step h2) dD).mono ?_;rintro _ _ ⟨g2,rfl⟩;have h3:=h2.trans g2;refine zaN (λhb=>⟨h3,by rw [hb];rfl⟩) (λhb=>?_);rw [hb];refine (zcu (h.step h3) dD).mono ?_;rintro _ _ ⟨g3,rfl⟩;have h4:=h3.trans g3;refine zaN (λhb=>⟨h4,by rw [hb];rfl⟩) (λhb=>?_);rw [hb];refine (zcu (h.step h4) dD).mono ?_;rintro _ _ ⟨g4,rfl⟩;have h5:=h4.trans g4;refine zaN (λhb=>⟨h5,by rw [hb];rfl⟩) (λhb=>?_);rw [hb];refine (zcu (h.step h5) dD).mono ?_;rintro _ _ ⟨g5,rfl⟩;have h6:=h5.trans g5;refine zaN (λhb=>⟨h6,by rw [hb];rfl⟩) (λhb=>?_);rw [hb];refine (zcu (h.step h6) dD).mono ?_;rintro _ _ ⟨g9,rfl⟩;have h7:=h6.trans g9;refine zaN (λhb=>⟨h7,by rw [hb];rfl⟩) (λhb=>?_);rw [hb];refine (zcu (h.step h7) dD).mono ?_;rintro _ _ ⟨gb,rfl⟩;exact ⟨h7.trans gb,rfl⟩
end
def zB5 {x y:Operand} {a b:Nat} (h:b<=a) (ha:a<256) (k:K (.int .u8 ((a-b:Nat):Int))):RD P (bin .sub t x y (.int .u8 (a:Int)) (.int .u8 (b:Int))) w K:=by
 refine za9 (λ_ _=>?_) k
 have e:IntKind.u8.wrap ((a:Int)-(b:Int))=((a-b:Nat):Int):=by
   simp [IntKind.wrap,IntKind.signed,IntKind.bits];omega
 simp [bin,eqGuard,binOp,Op.intArith,e]
def zp5 (h:10<s.size):zky s=none:=by unfold zky;rw [qad oo]
def zi0 (hk:k<s.size) (h:¬((48:Int)<=(((bts s)[k]'(by rw [zaB];exact hk)).toNat:Int)/\(((bts s)[k]'(by rw [zaB];exact hk)).toNat:Int)<=57)):zky s=none:=by
 have:(bts s).all zju=false:=by
   rw [qcR];exact ⟨_,qac (by rw [zaB];exact hk),by simp only [zju,h,qak];decide⟩
 unfold zky;rw [qad (by rw [this];simp)]
def zDR:znl 0=ByteArray.mk #[48]:=by
 unfold znl Lib.itoa;rw [qad oo,show (0:Int).toNat=0 from rfl,zhf oo];rfl
def zum (h:s.size=0):zky s=none:=by
 have hb:bts s=[]:=qaj (by rw [zaB];exact h);unfold zky;rw [qad (λhh=>?_)];have h4:=hh.2.2.2;rw [hb,show zlp []=0 from rfl,zDR] at h4;rw [<-h4] at h;cases h
def zs9 (ha:(bts s).all zju=true) (hs:s.size<=10):zky s=if zlp (bts s)<=1000000000/\znl (zlp (bts s))=s then some (zlp (bts s)) else none:=by
 unfold zky;simp only [ha,hs,true_and]
def zta (hk:k<s.size) (ha:((bts s).take k).all zju=true) (h:(48:Int)<=(((bts s)[k]'(by rw [zaB];exact hk)).toNat:Int)/\(((bts s)[k]'(by rw [zaB];exact hk)).toNat:Int)<=57) :
   ((bts s).take (k+1)).all zju=true/\zlp ((bts s).take (k+1))=zlp ((bts s).take k)*10+((((bts s)[k]'(by rw [zaB];exact hk)).toNat:Int)-48):=by
 rw [tk (by rw [zaB];exact hk)];refine ⟨?_,zp0 _ _⟩;rw [qc5,ha];simp [zju,h]
def zwM (hk:k<=s.size) (hs:s.size<=10) (ha:((bts s).take k).all zju=true):0<=zlp ((bts s).take k)/\zlp ((bts s).take k)<10000000000:=by
 have h:=zjI k ((bts s).take k) (by rw [qao,zaB];omega) ha;have e:(10:Int)^k=((10^k:Nat):Int):=by rw [Int.natCast_pow];rfl
 have:10^k<=10000000000:=qaG (n:=10) dD (show k<=10 by omega);rw [e] at h;generalize 10^k=q at *;omega
def zDS (b:UInt8):b.toNat<256:=b.toNat_lt
def zfD (hT:PowT W0) (e0:Ext W0 w) :
   CALL tp 253 [.string s] w λr w'=>Ext w w'/\r=.tuple #[.int .i64 ((zky s).getD 0),.bool (zky s).isSome]:=by
 refine co (g:=kf [] [(5,274877890620,[4,5])] []) Tryz.func253 ?_;have C:∀ {w':wD},Ext w w'->zky s=none->Ext w w'/\Value.tuple #[.int .i64 0,.bool false]=.tuple #[.int .i64 ((zky s).getD 0),.bool (zky s).isSome]:=λh1 h2=>⟨h1,by rw [h2];rfl⟩;refine zb8 u9<|zag<|br (λh0=>C (xrf _) (zum oo)) (λh0=>?_);refine zb8 u9<|zbZ<|br (λh1=>C (xrf _) (zp5 oo)) (λh1=>?_);have g0:s.size<=10:=oo;refine zar s.size (λk us w'=>us=[.int .i64 (zlp ((bts s).take k)),.int .i64 (k:Int)]/\w'=w/\k<=s.size/\((bts s).take k).all zju=true) 0 (z0 _) ⟨rfl,rfl,z0 _,ss⟩ ?_;rintro k m _ _ _ ⟨hu,rfl,g5,g1⟩;obtain ⟨g9,gb⟩:=zcv hu;rw [g9,gb];have hb:=zwM g5 g0 g1;refine zb8 u9<|zah<|br (λ_=>?_) (λ_=>?_)
 . have hk:k<s.size:=oo;have g2:=zDS ((bts s)[k]'(by rw [zaB];exact hk));refine zba u9 hk<|zah<|br (λhq=>C (xrf _) (zi0 hk oo)) (λhq=>?_);refine zba u9 hk<|zbZ<|br (λD=>C (xrf _) (zi0 hk oo)) (λD=>?_);have g3:=zta hk g1 oo;refine zAc io<|zba u9 hk<|zB5 (b:=48) oo g2<|zws kK u3 oo<|zdK io<|zaw<|⟨m-1,oo,k+1,oo,?_,rfl,oo,g3.1⟩;rw [g3.2];simp only [qa8,Value.int.injEq,true_and,and_true];omega
 have hk:s.size<=k:=oo;rw [qai (by rw [zaB];exact hk)] at g1 hb ⊢;have hR:=zs9 g1 g0;refine zbZ<|br (λhq=>C (xrf _) (by rw [hR,qad oo])) (λhq=>?_);refine (zc6 hT e0 io).mono ?_;rintro _ _ ⟨g4,rfl⟩;refine ze7<|br (λD=>C g4 (by rw [hR,qad λh=>D h.2])) (λD=>⟨g4,?_⟩);rw [hR,qah ⟨oo,qaf.1 D⟩];rfl
def specReadDecimal_ok :
   CALL tp 193 [.string s] w λr w'=>Ext w w'/\r=.tuple #[.int .i64 ((zky s).getD 0),.bool (zky s).isSome]:=by
 refine co (g:=kf [] [(5,8589934140,[4,5])] []) Tryz.func193 ?_;have C:∀ {w':wD},Ext w w'->zky s=none->Ext w w'/\Value.tuple #[.int .i64 0,.bool false]=.tuple #[.int .i64 ((zky s).getD 0),.bool (zky s).isSome]:=λh1 h2=>⟨h1,by rw [h2];rfl⟩;refine zb8 u9<|zbZ<|br (λh1=>C (xrf _) (zp5 oo)) (λh1=>?_);have g0:s.size<=10:=oo;refine zar s.size (λk us w'=>us=[.int .i64 (zlp ((bts s).take k)),.int .i64 (k:Int)]/\w'=w/\k<=s.size/\((bts s).take k).all zju=true) 0 (z0 _) ⟨rfl,rfl,z0 _,ss⟩ ?_;rintro k m _ _ _ ⟨hu,rfl,g5,g1⟩;obtain ⟨g9,gb⟩:=zcv hu;rw [g9,gb];have hb:=zwM g5 g0 g1;refine zb8 u9<|zah<|br (λ_=>?_) (λ_=>?_)
 . have hk:k<s.size:=oo;have g2:=zDS ((bts s)[k]'(by rw [zaB];exact hk));refine zba u9 hk<|zah<|br (λhq=>C (xrf _) (zi0 hk oo)) (λhq=>?_);refine zba u9 hk<|zbZ<|br (λD=>C (xrf _) (zi0 hk oo)) (λD=>?_);have g3:=zta hk g1 oo;refine zAc io<|zba u9 hk<|zws kK u3 g2<|zdK io<|zbp io<|zaw<|⟨m-1,oo,k+1,oo,?_,rfl,oo,g3.1⟩;rw [g3.2];simp only [qa8,Value.int.injEq,true_and,and_true];omega
 have hk:s.size<=k:=oo;rw [qai (by rw [zaB];exact hk)] at g1 hb ⊢;have hR:=zs9 g1 g0;refine zbZ<|br (λhq=>C (xrf _) (by rw [hR,qad oo])) (λhq=>?_);refine (zc7 io).mono ?_;rintro _ _ ⟨g4,rfl⟩;refine ze7<|br (λD=>C g4 (by rw [hR,qad λh=>D h.2])) (λD=>⟨g4,?_⟩);rw [hR,qah ⟨oo,qaf.1 D⟩];rfl
end Go.Proofs.YtkgiigmcbgifdaaGreatDoor
namespace Go.Sh
open Rep (rep)
structure UpG (g lo:Nat) (w w':wD):Prop where
 os:w'.os=w.os
 tape:w'.tape=w.tape
 output:w'.output=w.output
 size:w.heap.size<=w'.heap.size
 block:∀ b,b<w.heap.size->b<lo->b≠g->w'.heap[b]?=w.heap[b]?
section
variable {g lo:Nat} {w w' w2:wD} {α:Type} [Rep α]
def UpG.trans (h:UpG g lo w w') (k:UpG g lo w' w2):UpG g lo w w2:=
 ⟨k.os.trans h.os,k.tape.trans h.tape,k.output.trans h.output,qal h.size k.size,λb h1 h2 h3=>(k.block b (qan h1 h.size) h2 h3).trans (h.block b h1 h2 h3)⟩
def UpG.mono {lo2:Nat} (h:UpG g lo w w') (hl:lo2<=lo):UpG g lo2 w w':=⟨h.os,h.tape,h.output,h.size,λb h1 h2 h3=>h.block b h1 oo h3⟩
def Ext.upG (h:Ext w w'):UpG g lo w w':=⟨h.os,h.tape,h.output,h.size,λb h1 _ _=>h.block b h1⟩
def ChgI.upG1 (h:ChgI g (g+1) w w'):UpG g lo w w':=⟨h.os,h.tape,h.output,h.size,λb h1 _ h3=>h.block b h1 oo⟩
def ChgI.upG {a b:Nat} (h:ChgI a b w w') (ha:lo<=a):UpG g lo w w':=⟨h.os,h.tape,h.output,h.size,λc h1 h2 _=>h.block c h1 oo⟩
def UpG.toI (h:UpG g lo w w') (hl:w.heap.size<=lo):ChgI g (g+1) w w':=⟨h.os,h.tape,h.output,h.size,λb h1 h2=>h.block b h1 oo oo⟩
def Blk.upG {b e:Nat} {cs:List vL} (h:Blk b e w cs) (hu:UpG g lo w w') (h1:b<lo) (h2:b≠g):Blk b e w' cs:=h.keep (hu.block b h.lt h1 h2)
def zga {hi:Nat} {n:ByteArray} {vb:vL} {l:List DStmt} (hn:n.size<=maxLen) (h:OwnI lo hi w vb l):OwnI lo hi w (.agg #[.string n,vb]) (⟨n,l⟩:DProc):=by
 obtain ⟨F,⟨⟨_,hr,hv⟩,g0,hw⟩,hF⟩:=h;obtain ⟨_,rfl⟩:=zeA hr;simp only [mkv,Rep.agg,cond_false,qbO] at hv;subst hv;exact ⟨F,⟨⟨[.string n,vb],zaQ (F:=[]) (c1:=[.string n]) (show rep [] w [.string n] n from ⟨rfl,rfl,hn⟩) hr,rfl⟩,g0,hw⟩,hF⟩
def zgb {a b c:vL} {p:DProg} {lo hi l0 h0 l1 h1 l2 h2:Nat} (m0:OwnI l0 h0 w a p.globals) (m1:OwnI l1 h1 w b p.locks) (m2:OwnI l2 h2 w c p.procs) (d01:h0<=l1\/h1<=l0) (d02:h0<=l2\/h2<=l0) (d12:h1<=l2\/h2<=l1)
   (b0:lo<=l0/\h0<=hi) (b1:lo<=l1/\h1<=hi) (b2:lo<=l2/\h2<=hi):OwnI lo hi w (.agg #[a,b,c]) p:=by
 obtain ⟨F0,M0,B0⟩:=m0;obtain ⟨F1,M1,B1⟩:=m1;obtain ⟨F2,M2,B2⟩:=m2;refine ⟨F0++(F1++F2),⟨⟨[a,b,c],zaQ (zcs rfl M0.own) (zaQ (zcs rfl M1.own) (zcs rfl M2.own)),rfl⟩,?_,M0.wr.append (M1.wr.append M2.wr)⟩,λx hx=>?_⟩
 . rw [qav,qav];refine ⟨M0.nodup,⟨M1.nodup,M2.nodup,λp hp q hq e=>?_⟩,λp hp q hq e=>?_⟩
   . subst e;have:=B1 p hp;have:=B2 p hq;omega
   subst e;have:=B0 p hp;rcases qae.1 hq with hq | hq
   . have:=B1 p hq;omega
   have:=B2 p hq;omega
 rcases qae.1 hx with hx | hx
 . have:=B0 x hx;omega
 rcases qae.1 hx with hx | hx
 . have:=B1 x hx;omega
 have:=B2 x hx;omega
end
end Go.Sh
namespace Go.Proofs.YtkgiigmcbgifdaaGreatDoor
open Go Go.Sh Go.Proofs
open Rep (rep)
variable {W0 w:wD} {v0:vL}
section
variable {w:wD} {K:VW}
end
mutual
theorem zB6:∀ (x:DStmt) (n:Int),0<=n->-1<=zvi x n/\zvi x n<=n
  | .mk k s t b e,n,hn=>by
    rw [zvi];have h1:=zlN b (n-1) oo;have h2:=zlN e (zkz b (n-1)) h1.1;omega
theorem zlN:∀ (l:List DStmt) (n:Int),-1<=n->-1<=zkz l n/\zkz l n<=n
  | [],n,hn=>by rw [zkz];omega
  | x :: l,n,hn=>by
    rw [zkz];split
    . rename_i h;have h1:=zB6 x n h;have h2:=zlN l (zvi x n) h1.1;omega
    omega
end
def zy7 (x:DStmt) (n:Int):zvi x n=zkz x.els (zkz x.body (n-1)):=by cases x;rw [zvi];rfl
def zB7 (l:List DStmt):Prop:=∀ {w W:wD} {v:vL} {n:Int},Is W v l->Ext W w->-1<=n->n<=1000->CALL tp 69 [v,.int .i64 n] w λr w'=>Ext w w'/\(r=.int .i64 (zkz l n))
def zgI {l:(List DStmt)} {n:Int}  (h0:Is W0 v0 l) (e0:Ext W0 w) (ih:∀ x∈l,zB7 x.body/\zB7 x.els) (g4:-1<=n) (g5:n<=1000) :
   CALL tp 69 [v0,.int .i64 n] w λr w'=>Ext w w'/\(r=.int .i64 (zkz l n)):=by
 refine co (g:=kf [] [(2,1073741794,[1,5])] [(4,[0,1,2,3,4,5,6,7,8,9,10,11,12,13,14],4096)]) Tryz.func69 ?_;refine zar (l.length) (λk us w'=>∃ (n1:Int),us=[.int .i64 n1,.int .i64 (k:Int)]/\Ext w w'/\(zkz l n=zkz (l.drop k) n1/\-1<=n1/\n1<=1000/\k<=l.length)) (0) oo ⟨n,rfl,xrf w,ss,g4,g5,oo⟩ ?_;rintro k m2 _ g9 _ ⟨n1,hu,y1,g0,_,_,_⟩;obtain ⟨g1,g2⟩:=zcv hu;try rw [g1]
 try rw [g2]
 try clear g1 g2
 have:=zan h0;refine zae u60 h0<|zah<|br (λc1=>?_) (λc1=>?_)
 . refine zcH ?_;refine br (λc2=>?_) (λc2=>?_)
   . have y2:=zai g9;have hk:k<l.length:=oo;have g3:=zlN (l[k]).body (n1-1) oo;refine zac u60 zda h0 oo λ_ _ gb=>zaa zca<|zab zed (zbI gb) (e0.t (y1.t y2)) λ_ gc=>zac u60 zda h0 oo λ_ _ gd=>zaa zcf<|zab zed (zb3 gd) (e0.t (y1.t y2)) λ_ gf=>zbp io ?_;refine ((ih _ (qac hk)).1 gf (e0.t (y1.t y2)) oo oo).mono ?_;rintro _ _ ⟨y3,rfl⟩;refine ⟨y3,?_⟩;refine ((ih _ (qac hk)).2 gc (e0.t (y1.t (y2.t y3))) g3.1 oo).mono ?_;rintro _ _ ⟨y4,rfl⟩;refine zaw<|⟨m2-1,oo,k+1,oo,_,rfl,(y1.t (y2.t (y3.t y4))),?_⟩;have:=zlN (l[k]).els _ g3.1;refine ⟨?_,oo,oo,oo⟩;rw [g0,qax hk,zkz,qah oo,zy7]
   refine ⟨y1,?_⟩;rw [g0];cases h:l.drop k with
   | nil=>rw [zkz]
   | cons x r=>rw [zkz,qad oo]
 refine ⟨y1,?_⟩;rw [g0,qb5 oo,zkz]
def zrI (l:List DStmt):zB7 l:=by
 have h:∀ x:DStmt,zB7 x.body/\zB7 x.els:=λx=>by
   refine DStmt.ind (p:=λx=>zB7 x.body/\zB7 x.els) (λ_ hb he=>⟨?_,?_⟩) x
   . intro w W v n h e h0 h1;exact zgI h e hb h0 h1
   intro w W v n h e h0 h1;exact zgI h e he h0 h1
 intro w W v n hv e h0 h1;exact zgI hv e (λx _=>h x) h0 h1
end Go.Proofs.YtkgiigmcbgifdaaGreatDoor
