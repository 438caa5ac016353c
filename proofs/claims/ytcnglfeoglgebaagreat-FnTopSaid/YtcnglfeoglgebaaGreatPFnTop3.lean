/-
  Parts of the proof, put together by program.
-/
import Derived.Test.YtcnglfeoglgebaaGreatPFnTop2
set_option maxRecDepth 20000
set_option linter.defProp false
set_option linter.unusedVariables false
set_option linter.unusedSimpArgs false
set_option linter.unusedSectionVars false
namespace Go.Proofs.YtcnglfeoglgebaaGreat
open Go Go.Sh Go.Proofs
open Rep (rep)
variable {W0 W1 w:World} {a op:Int} {c:DCode} {i j k n:Nat} {v0 v1:Value}
def zFF:DIns:=⟨0,0,term0,0⟩
def en (c:DCode) (i:Nat):Int:=c.entry.getD i 0
def zam (c:DCode) (j:Nat):DIns:=c.ins.getD j zFF
def zbx (h:i<c.entry.length):c.entry[i]=en c i:=by unfold en;rw [List.getD_eq_getElem?_getD,List.getElem?_eq_getElem h];rfl
def zaz (h:i<c.ins.length):c.ins[i]=zam c i:=by unfold zam;rw [List.getD_eq_getElem?_getD,List.getElem?_eq_getElem h];rfl
def prc (c:DCode) (a:Int):Nat->Int
 | 0=>-1
 | n+1=>if en c n<=a then n else prc c a n
def zas (c:DCode) (a:Int):Int:=prc c a c.entry.length
theorem zk9 {c:DCode} {a:Int} {m:Nat}:∀ {n:Nat},m<=n->(∀ j,m<=j->j<n->a<en c j)->prc c a n=prc c a m
 | 0,h,_=>by rw [Nat.le_zero.1 h]
 | n+1,h,hj=>by
   by_cases e:m=n+1
   . rw [e]
   rw [prc,if_neg (by have:=hj n oo oo;omega)];exact zk9 oo λj h1 h2=>hj j h1 oo
theorem zBI {c:DCode} {a:Int}:∀ (n:Nat),-1<=prc c a n/\prc c a n<n
 | 0=>by simp [prc]
 | n+1=>by
   have:=zBI (c:=c) (a:=a) n;rw [prc];split<;>omega
def ziZ:-1<=zas c a/\zas c a<c.entry.length:=zBI _
def zfT (c:DCode) (p:Int):Int:=if p+1<c.entry.length then en c (p+1).toNat-1 else (c.ins.length:Int)-1
def zep (c:DCode) (i:Nat):Int:=if i+1<c.entry.length then en c (i+1) else c.ins.length
def zdU (c:DCode) (i:Nat):zfT c i=zep c i-1:=by
 unfold zfT zep;have e:((i:Int)+1).toNat=i+1:=oo
 by_cases h:i+1<c.entry.length
 . rw [if_pos oo,if_pos h,e]
 rw [if_neg oo,if_neg h]
def ze7  (h0:Is W0 v0 c) (e0:Ext W0 w)  :
   CALL tp 140 [v0,.int .i64 a] w λr w'=>Ext w w'/\(r=.int .i64 (zas c a)):=by
 refine co (g:=kf [] [(2,4193328,[5])] []) Tryz.func140 ?_;refine zat zbq rfl h0 e0 λg0 y1 g2 hV2=>zab zbi<|zaa za4 (zar g2) (xrf g0) λv7 h7=>?_;have g4:=zaj h7;refine zae u33 h7<|zbc (by unfold I64;omega)<|zao (c.entry.length) (λk us w'=>us=[.int .i64 ((c.entry.length:Int)-1-(k:Int))]/\Ext g0 w'/\(∀ j,c.entry.length-k<=j->j<c.entry.length->a<en c j)) (0) oo ⟨sS,xrf g0,λj h1 h2=>oo⟩ ?_;rintro k m2 uu2 w2_ hk2 ⟨hu,y2,C⟩;try replace hu:=zbt hu
 try rw [hu]
 try clear hu
 have hln:=zaj h7;refine zcb<|br (λc1=>?_) (λc1=>?_)
 . refine zab zbi ?_
   refine zaa za4 (zar g2) y2 λv15 g5=>zaL u33 ty3 g5 oo oo λb17 o17 g3=>?_;have g1:((c.entry.length:Int)-1-(k:Int)).toNat=c.entry.length-k-1:=oo
   simp only [g1] at g3;refine zac ty3 g3 y2 λg9=>zdT<|br (λc2=>?_) (λc2=>?_)
   . refine ⟨(y1.t y2),?_⟩
     rw [zbx] at c2;unfold zas;rw [zk9 (m:=c.entry.length-k) oo C,show c.entry.length-k=(c.entry.length-k-1)+1 by omega,prc,if_pos c2];congr 1;omega
   refine zbc (by unfold I64;omega)<|⟨m2-1,oo,k+1,oo,by simp;omega,y2,?_⟩;intro j h1 h2;by_cases hj:j=c.entry.length-k-1
   . subst hj
     rw [zbx] at c2;omega
   exact C j oo h2
 refine ⟨(y1.t y2),?_⟩;unfold zas;rw [zk9 (m:=c.entry.length-k) oo C,show c.entry.length-k=0 by omega];rfl
def zfl {p:Int}  (h0:Is W0 v0 c) (e0:Ext W0 w) (hp0:-1<=p) (hp1:p<1000000000000) (hE:∀ i,i<c.entry.length->0<=en c i) :
   CALL tp 196 [v0,.int .i64 p] w λr w'=>Ext w w'/\(r=.int .i64 (zfT c p)):=by
 refine co (g:=kf [] [] []) Tryz.func196 ?_;refine zat zbq rfl h0 e0 λg0 y1 g1 hV2=>zc1 (by unfold I64;omega)<|zab zbi<|zaa za4 (zar g1) (xrf g0) λv8 h8=>?_;have g4:=zaj h8;refine zae u33 h8<|zag<|br (λc1=>?_) (λc1=>?_)
 . refine zab zbi ?_
   refine zaa za4 (zar g1) (xrf g0) λv12 g5=>zc1 (by unfold I64;omega)<|zaL u33 ty3 g5 oo oo λb15 o15 g9=>zac ty3 g9 (xrf g0) λgb=>?_;have gc:=hE (p+1).toNat oo;rw [<-zbx oo] at gc;refine zbc (by unfold I64 at *;omega)<|⟨y1,?_⟩;unfold zfT;rw [if_pos c1,zbx]
 refine zab zaM<|zaa zcQ (zak g1) (xrf g0) λv19 g2=>?_;have g3:=zaj g2;refine zae u34 g2<|zbc (by unfold I64;have:=zaj g2;omega)<|⟨y1,?_⟩;unfold zfT;rw [if_neg c1]
def zh6:ByteArray:=ByteArray.mk #[109,97,105,110]
def NamesR (c:DCode):Prop:=(decide ((c.globals.length:Int)<=6)&&c.globals.all zbF)=true/\(decide ((c.locks.length:Int)<=6)&&c.locks.all zbF)=true/\(decide ((c.procs.length:Int)<=8)&&c.procs.all zbF)=true /\
 c.globals.Nodup/\c.locks.Nodup/\c.procs.Nodup/\zh6∈c.procs
instance (c:DCode):Decidable (NamesR c):=by unfold NamesR;infer_instance
def EntS (c:DCode):Prop:=c.entry.length=c.procs.length/\c.ins.length<=1500/\(∀ i,i<c.entry.length->(i=0->en c 0=0)/\(0<i->en c (i-1)<en c i)/\en c i<c.ins.length) /\
 ∀ j,j<c.ins.length->((zam c j).op=9↔zfT c (zas c j)=j)
instance (c:DCode):Decidable (EntS c):=by unfold EntS;infer_instance
def zeW {P:Nat->Prop} (h:∀ i,i<k->P i) (hk:P k):∀ i,i<k+1->P i:=λi hi=>by
 by_cases e:i=k
 . rw [e];exact hk
 exact h i oo
theorem zjL {c:DCode} {n:Nat} {m:Int} (h:∀ i,i<n->(i=0->en c 0=0)/\(0<i->en c (i-1)<en c i)/\en c i<m):∀ i,i<n->0<=en c i
 | 0,hi=>by rw [(h 0 hi).1 rfl];omega
 | i+1,hi=>by
   have h1:=zjL h i oo;have h2:=(h (i+1) hi).2.1 oo;simp only [qbG] at h2;omega
def zsa  (h0:Is W0 v0 c) (e0:Ext W0 w)  :
   CALL tp 124 [v0] w λr w'=>Ext w w'/\(r=.bool (decide (NamesR c/\EntS c))):=by
 refine co (g:=kf [] [(4,5070602400912773490798736965644,[3]),(9,21267642861956253053543306977672691732,[4])] [(6,[0,1,2,3,4,5,6,7,8,9,10,11,12,13,14,15,16,17,18,19,20,21,22,23,24,25,26,27,28,29,30,31,32,33,34,35,36,37],0),(11,[0,1,2,3,4,5,6,7,8,9,12,10,11,13,14],3072)]) Tryz.func124 ?_;refine zat zbq rfl h0 e0 λgE y1 D gF=>zab zdI<|zaa zcv (zbm D) (xrf gE) λv6 h6=>?_;refine (zfk h6 (xrf gE)).mono ?_;rintro _ w2_ ⟨y2,rfl⟩;refine zaV<|zbz (λc1=>?_) (λc1=>?_)
 . refine ⟨(y1.t y2),?_⟩
   have:¬(NamesR c/\EntS c):=λh=>by rw [h.1.1] at c1;cases c1
   simp only [this,decide_false]
 refine zab zd8<|zaa zcv (zbw D) y2 λv11 gR=>?_;refine (zfk gR y2).mono ?_;rintro _ w3_ ⟨y3,rfl⟩;refine zaV<|zbz (λc2=>?_) (λc2=>?_)
 . refine ⟨(y1.t (y2.t y3)),?_⟩
   have:¬(NamesR c/\EntS c):=λh=>by rw [h.1.2.1] at c2;cases c2
   simp only [this,decide_false]
 refine zab zbG<|zaa zcv (zaC D) (y2.t y3) λv17 gS=>?_;refine (zfk gS (y2.t y3)).mono ?_;rintro _ w4_ ⟨y4,rfl⟩;refine zaV<|zbz (λc3=>?_) (λc3=>?_)
 . refine ⟨(y1.t (y2.t (y3.t y4))),?_⟩
   have:¬(NamesR c/\EntS c):=λh=>by rw [h.1.2.2.1] at c3;cases c3
   simp only [this,decide_false]
 refine zab zdI<|zaa zcv (zbm D) (y2.t (y3.t y4)) λv23 gU=>?_;refine (zei gU (y2.t (y3.t y4))).mono ?_;rintro _ w5_ ⟨y5,rfl⟩;refine br (λc4=>?_) (λc4=>?_)
 . refine ⟨(y1.t (y2.t (y3.t (y4.t y5)))),?_⟩
   have:¬(NamesR c/\EntS c):=λh=>c4 h.1.2.2.2.1;simp only [this,decide_false]
 refine zab zd8<|zaa zcv (zbw D) (y2.t (y3.t (y4.t y5))) λv28 gV=>?_;refine (zei gV (y2.t (y3.t (y4.t y5)))).mono ?_;rintro _ w6_ ⟨y6,rfl⟩;refine br (λc5=>?_) (λc5=>?_)
 . refine ⟨(y1.t (y2.t (y3.t (y4.t (y5.t y6))))),?_⟩
   have:¬(NamesR c/\EntS c):=λh=>c5 h.1.2.2.2.2.1;simp only [this,decide_false]
 refine zab zbG<|zaa zcv (zaC D) (y2.t (y3.t (y4.t (y5.t y6)))) λv33 gW=>?_;refine (zei gW (y2.t (y3.t (y4.t (y5.t y6))))).mono ?_;rintro _ w7_ ⟨y7,rfl⟩;refine br (λc6=>?_) (λc6=>?_)
 . refine ⟨(y1.t (y2.t (y3.t (y4.t (y5.t (y6.t y7)))))),?_⟩
   have:¬(NamesR c/\EntS c):=λh=>c6 h.1.2.2.2.2.2.1;simp only [this,decide_false]
 refine zab zbi<|zaa za4 (zar D) (y2.t (y3.t (y4.t (y5.t (y6.t y7))))) λv38 gG=>?_;have gH:=zaj gG;refine zae u33 gG<|zab zbG<|zaa zcv (zaC D) (y2.t (y3.t (y4.t (y5.t (y6.t y7))))) λv41 gI=>?_;have gJ:=zaj gI;refine zae u24 gI<|zaP<|br (λc7=>?_) (λc7=>?_)
 . refine ⟨(y1.t (y2.t (y3.t (y4.t (y5.t (y6.t y7)))))),?_⟩
   have:¬(NamesR c/\EntS c):=λh=>c7 (by rw [h.2.1]);simp only [this,decide_false]
 refine zab zaM<|zaa zcQ (zak D) (y2.t (y3.t (y4.t (y5.t (y6.t y7))))) λv47 gK=>?_;have gM:=zaj gK;refine zae u34 gK<|zcK<|br (λc8=>?_) (λc8=>?_)
 . refine ⟨(y1.t (y2.t (y3.t (y4.t (y5.t (y6.t y7)))))),?_⟩
   have:¬(NamesR c/\EntS c):=λh=>by have:=h.2.2.1;omega
   simp only [this,decide_false]
 refine zab zbG<|zaa zcv (zaC D) (y2.t (y3.t (y4.t (y5.t (y6.t y7))))) λv53 gX=>?_;refine (zcC gX (y2.t (y3.t (y4.t (y5.t (y6.t y7)))))).mono ?_;rintro _ gN ⟨y8,rfl⟩;refine zag<|br (λc9=>?_) (λc9=>?_)
 . refine ⟨(y1.t (y2.t (y3.t (y4.t (y5.t (y6.t (y7.t y8))))))),?_⟩
   have:¬(NamesR c/\EntS c):=λh=>by have:=zfR.2 h.1.2.2.2.2.2.2;unfold zh6 at this;omega
   simp only [this,decide_false]
 refine zao (c.entry.length) (λk us w'=>us=[.int .i64 (k:Int)]/\Ext gN w'/\(∀ i,i<k->(i=0->en c 0=0)/\(0<i->en c (i-1)<en c i)/\en c i<c.ins.length)) (0) oo ⟨sS,xrf gN,λi h=>oo⟩ ?_;rintro k m4 uu4 gc hk4 ⟨hu,y9,U⟩;try replace hu:=zbt hu
 try rw [hu]
 try clear hu
 refine zab zbi<|zaa za4 (zar D) (y2.t (y3.t (y4.t (y5.t (y6.t (y7.t (y8.t y9))))))) λv59 gO=>?_;have gP:=zaj gO;refine zae u33 gO<|zag<|br (λgY=>?_) (λgY=>?_)
 . have C:=zah gc
   refine zai<|br (λg1=>?_) (λg1=>?_)
   . refine zab zbi ?_
     refine zaa za4 (zar D) (y2.t (y3.t (y4.t (y5.t (y6.t (y7.t (y8.t (y9.t C)))))))) λv68 gZ=>zaL u33 ty3 gZ oo oo λb69 o69 h2=>zac ty3 h2 (y2.t (y3.t (y4.t (y5.t (y6.t (y7.t (y8.t (y9.t C)))))))) λh4=>zaP<|br (λg2=>?_) (λg2=>?_)
     . refine ⟨(y1.t (y2.t (y3.t (y4.t (y5.t (y6.t (y7.t (y8.t (y9.t C))))))))),?_⟩
       rw [zbx] at g2;have:¬(NamesR c/\EntS c):=λh=>g2 ((h.2.2.2.1 0 oo).1 rfl);simp only [this,decide_false]
     refine zcK<|gbr (λh5=>?_) (λh5=>?_)
     . refine zab zbi ?_
       refine zaa za4 (zar D) (y2.t (y3.t (y4.t (y5.t (y6.t (y7.t (y8.t (y9.t C)))))))) λh9 gd=>zad u33 ty3 gd oo λha hb gf=>zac ty3 gf (y2.t (y3.t (y4.t (y5.t (y6.t (y7.t (y8.t (y9.t C)))))))) λgg=>zab zbi<|zaa za4 (zar D) (y2.t (y3.t (y4.t (y5.t (y6.t (y7.t (y8.t (y9.t C)))))))) λhc gh=>zbc (by unfold I64;omega)<|zaL u33 ty3 gh oo oo λhd he gi=>zac ty3 gi (y2.t (y3.t (y4.t (y5.t (y6.t (y7.t (y8.t (y9.t C)))))))) λgj=>?_;have X:((k:Int)-1).toNat=k-1:=oo
       refine zdT<|br (λhf=>?_) (λhf=>?_)
       . refine ⟨(y1.t (y2.t (y3.t (y4.t (y5.t (y6.t (y7.t (y8.t (y9.t C))))))))),?_⟩
         exact absurd g1 oo
       refine zab zbi<|zaa za4 (zar D) (y2.t (y3.t (y4.t (y5.t (y6.t (y7.t (y8.t (y9.t C)))))))) λgl Y=>zad u33 ty3 Y oo λgp gq Z=>zac ty3 Z (y2.t (y3.t (y4.t (y5.t (y6.t (y7.t (y8.t (y9.t C)))))))) λg0=>zab zaM<|zaa zcQ (zak D) (y2.t (y3.t (y4.t (y5.t (y6.t (y7.t (y8.t (y9.t C)))))))) λgr I=>?_;have M:=zaj I;refine zae u34 I<|zcb<|br (λhg=>?_) (λhg=>?_)
       . refine ⟨(y1.t (y2.t (y3.t (y4.t (y5.t (y6.t (y7.t (y8.t (y9.t C))))))))),?_⟩
         exact absurd g1 oo
       refine zau<|⟨m4-1,oo,k+1,oo,sS,(y9.t C),?_⟩;exact absurd g1 oo
     refine zab zbi<|zaa za4 (zar D) (y2.t (y3.t (y4.t (y5.t (y6.t (y7.t (y8.t (y9.t C)))))))) λgl Y=>zad u33 ty3 Y oo λgp gq Z=>zac ty3 Z (y2.t (y3.t (y4.t (y5.t (y6.t (y7.t (y8.t (y9.t C)))))))) λg0=>zab zaM<|zaa zcQ (zak D) (y2.t (y3.t (y4.t (y5.t (y6.t (y7.t (y8.t (y9.t C)))))))) λgr I=>?_;have M:=zaj I;refine zae u34 I<|zcb<|br (λgs=>?_) (λgs=>?_)
     . refine ⟨(y1.t (y2.t (y3.t (y4.t (y5.t (y6.t (y7.t (y8.t (y9.t C))))))))),?_⟩
       rw [zbx] at gs;have:¬(NamesR c/\EntS c):=λh=>by have:=(h.2.2.2.1 k oo).2.2;omega
       simp only [this,decide_false]
     refine zau<|⟨m4-1,oo,k+1,oo,sS,(y9.t C),?_⟩;rw [zbx] at gs g2;have hh:k=0:=oo
     subst hh;exact zeW U ⟨λ_=>qad.1 g2,λh=>oo,oo⟩
   refine zcK<|gbr (λhk=>?_) (λhk=>?_)
   . refine zab zbi ?_
     refine zaa za4 (zar D) (y2.t (y3.t (y4.t (y5.t (y6.t (y7.t (y8.t (y9.t C)))))))) λh9 gd=>zad u33 ty3 gd oo λha hb gf=>zac ty3 gf (y2.t (y3.t (y4.t (y5.t (y6.t (y7.t (y8.t (y9.t C)))))))) λgg=>zab zbi<|zaa za4 (zar D) (y2.t (y3.t (y4.t (y5.t (y6.t (y7.t (y8.t (y9.t C)))))))) λhc gh=>zbc (by unfold I64;omega)<|zaL u33 ty3 gh oo oo λhd he gi=>zac ty3 gi (y2.t (y3.t (y4.t (y5.t (y6.t (y7.t (y8.t (y9.t C)))))))) λgj=>?_;have X:((k:Int)-1).toNat=k-1:=oo
     refine zdT<|br (λg3=>?_) (λg3=>?_)
     . refine ⟨(y1.t (y2.t (y3.t (y4.t (y5.t (y6.t (y7.t (y8.t (y9.t C))))))))),?_⟩
       rw [zbx,zbx] at g3;simp only [X] at g3;have:¬(NamesR c/\EntS c):=λh=>by have:=(h.2.2.2.1 k oo).2.1 oo;omega
       simp only [this,decide_false]
     refine zab zbi<|zaa za4 (zar D) (y2.t (y3.t (y4.t (y5.t (y6.t (y7.t (y8.t (y9.t C)))))))) λgl Y=>zad u33 ty3 Y oo λgp gq Z=>zac ty3 Z (y2.t (y3.t (y4.t (y5.t (y6.t (y7.t (y8.t (y9.t C)))))))) λg0=>zab zaM<|zaa zcQ (zak D) (y2.t (y3.t (y4.t (y5.t (y6.t (y7.t (y8.t (y9.t C)))))))) λgr I=>?_;have M:=zaj I;refine zae u34 I<|zcb<|br (λgt=>?_) (λgt=>?_)
     . refine ⟨(y1.t (y2.t (y3.t (y4.t (y5.t (y6.t (y7.t (y8.t (y9.t C))))))))),?_⟩
       rw [zbx] at gt;have:¬(NamesR c/\EntS c):=λh=>by have:=(h.2.2.2.1 k oo).2.2;omega
       simp only [this,decide_false]
     refine zau<|⟨m4-1,oo,k+1,oo,sS,(y9.t C),?_⟩;rw [zbx] at gt;rw [zbx,zbx] at g3;simp only [X] at g3;exact zeW U ⟨λh=>oo,λ_=>oo,oo⟩
   refine zab zbi<|zaa za4 (zar D) (y2.t (y3.t (y4.t (y5.t (y6.t (y7.t (y8.t (y9.t C)))))))) λgl Y=>zad u33 ty3 Y oo λgp gq Z=>zac ty3 Z (y2.t (y3.t (y4.t (y5.t (y6.t (y7.t (y8.t (y9.t C)))))))) λg0=>zab zaM<|zaa zcQ (zak D) (y2.t (y3.t (y4.t (y5.t (y6.t (y7.t (y8.t (y9.t C)))))))) λgr I=>?_;have M:=zaj I;refine zae u34 I<|zcb<|br (λhl=>?_) (λhl=>?_)
   . refine ⟨(y1.t (y2.t (y3.t (y4.t (y5.t (y6.t (y7.t (y8.t (y9.t C))))))))),?_⟩
     exact absurd g1 oo
   refine zau<|⟨m4-1,oo,k+1,oo,sS,(y9.t C),?_⟩;exact absurd g1 oo
 refine zao (c.ins.length) (λk us w'=>us=[.int .i64 (k:Int)]/\Ext gc w'/\(∀ j,j<k->((zam c j).op=9↔zfT c (zas c j)=j))) (0) oo ⟨sS,xrf gc,λi h=>oo⟩ ?_;rintro k m9 uu9 gx hk9 ⟨hu,O,g4⟩;try replace hu:=zbt hu
 try rw [hu]
 try clear hu
 refine zab zaM<|zaa zcQ (zak D) (y2.t (y3.t (y4.t (y5.t (y6.t (y7.t (y8.t (y9.t O)))))))) λhn g5=>?_;have gy:=zaj g5;refine zae u34 g5<|zag<|br (λhq=>?_) (λhq=>?_)
 . have V:=zah gx
   refine zab zaM<|zaa zcQ (zak D) (y2.t (y3.t (y4.t (y5.t (y6.t (y7.t (y8.t (y9.t (O.t V))))))))) λhr gz=>zad u34 zcL gz oo λhs ht gC=>zab zbp<|zac ty3 (zaw gC) (y2.t (y3.t (y4.t (y5.t (y6.t (y7.t (y8.t (y9.t (O.t V))))))))) λgQ=>zai<|zaF gF (y2.t (y3.t (y4.t (y5.t (y6.t (y7.t (y8.t (y9.t (O.t V)))))))))<|zaF gF (y2.t (y3.t (y4.t (y5.t (y6.t (y7.t (y8.t (y9.t (O.t V))))))))) ?_
   have h8:c.entry.length<=8:=by
     simp only [qb2,qap,decide_eq_true_eq] at c3;have:=c3.1;omega
   refine (ze7 h0 (e0.t (y1.t (y2.t (y3.t (y4.t (y5.t (y6.t (y7.t (y8.t (y9.t (O.t V)))))))))))).mono ?_;rintro _ hv ⟨gb,rfl⟩;refine ⟨gb,?_⟩;refine (zfl h0 (e0.t (y1.t (y2.t (y3.t (y4.t (y5.t (y6.t (y7.t (y8.t (y9.t (O.t (V.t gb)))))))))))) (by have:=ziZ (c:=c) (a:=k);omega) (by have:=ziZ (c:=c) (a:=k);omega) (zjL λi hi=>U i oo)).mono ?_;rintro _ hw ⟨gD,rfl⟩;refine ⟨gD,?_⟩;refine zai<|zCG u4<|br (λg9=>?_) (λg9=>?_)
   . refine ⟨(y1.t (y2.t (y3.t (y4.t (y5.t (y6.t (y7.t (y8.t (y9.t (O.t (V.t (gb.t gD)))))))))))),?_⟩
     rw [zaz] at g9;have:¬(NamesR c/\EntS c):=λh=>g9 (decide_eq_decide.2 (h.2.2.2.2 k oo));simp only [this,decide_false]
   refine zau<|⟨m9-1,oo,k+1,oo,sS,(O.t (V.t (gb.t gD))),?_⟩;rw [zaz] at g9;exact zeW g4 (decide_eq_decide.1 (qad.1 g9))
 refine ⟨(y1.t (y2.t (y3.t (y4.t (y5.t (y6.t (y7.t (y8.t (y9.t O))))))))),?_⟩
 have:NamesR c/\EntS c:=by
   refine ⟨⟨by simpa using c1,by simpa using c2,by simpa using c3,qad.1 c4,qad.1 c5,qad.1 c6,zfR.1 (by unfold zh6;omega)⟩,oo,oo,λi hi=>U i oo,λj hj=>g4 j oo⟩
 simp only [this,and_self,decide_true]
def zcl (c:DCode) (op:Int):Int:=if op=1 then c.globals.length else if op=4\/op=5 then c.procs.length else if op=6\/op=7 then c.locks.length else 1
def zie (c:DCode) (a:DIns) (b e:Int):Prop:=(1<=a.op/\a.op<=9)/\(0<=a.arg/\a.arg<zcl c a.op) /\
 (if a.op=1\/a.op=2 then zbk 6 a.term=true/\(∀ s∈zbT a.term,s∈c.globals) else a.term=term0)/\(if a.op=2\/a.op=3 then b<=a.to/\a.to<e else a.to=0)
instance (c:DCode) (a:DIns) (b e:Int):Decidable (zie c a b e):=by unfold zie;infer_instance
def zxm  (h0:Is W0 v0 c) (e0:Ext W0 w) (hj:j<c.ins.length) (hE:∀ i,i<c.entry.length->0<=en c i) (h8:c.entry.length<=8) (hp:0<=zas c j) :
   CALL tp 125 [v0,.int .i64 (j:Int)] w λr w'=>Ext w w'/\(r=.bool (decide (zie c (zam c j) (en c (zas c j).toNat) (zfT c (zas c j)+1)))):=by
 refine co (g:=kf [(12,137438920768,[6]),(25,4835703278177041722114448,[]),(27,9898684611004583682494169104,[])] [(19,151106504079791792062736,[8])] [(21,[0,1,2,3,4,5,6,7],0),(28,[0,1,2,3,4,5,6,7,8,9,10,11],512)]) Tryz.func125 ?_;have hpl:=ziZ (c:=c) (a:=j);refine zat zbq rfl h0 e0 λgh y1 M gG=>zab zaM<|zaa zcQ (zak M) (xrf gh) λv11 gQ=>zad u34 zcL gQ oo λb13 o13 gR=>zaa zcL gR (xrf gh) λv14 gi=>?_;rw [zaz] at gi;obtain ⟨a,ha⟩:∃ a,a=zam c j:=⟨_,rfl⟩;rw [<-ha] at gi ⊢;refine zck zqd rfl zcL rfl gi (xrf gh) λO y2 I hV5=>JOIN.mk (λus w'=>us=[.int .i64 (zcl c a.op-1)]/\Ext O w'/\(True)) ?_ ?_
 . refine zab zbp ?_
   refine zac ty3 (zaw I) (xrf O) λgS=>zai<|br (λc1=>?_) (λc1=>?_)
   . refine zab zdI ?_
     refine zaa zcv (zbm M) y2 λv20 gj=>?_;have gH:=zaj gj;refine zae u24 gj<|zbc (by unfold I64;have:=zaj gj;omega)<|⟨by unfold zcl;rw [if_pos c1],xrf O,?_⟩;trivial
   refine zai<|br (λc2=>?_) (λc2=>?_)
   . refine zab zd8 ?_
     refine zaa zcv (zbw M) y2 λgU V=>?_;have g3:=zaj V;refine zae u24 V<|zbc (by unfold I64;have:=zaj V;omega)<|⟨by unfold zcl;rw [if_neg oo,if_neg oo,if_pos oo],xrf O,?_⟩;trivial
   refine zai<|br (λc3=>?_) (λc3=>?_)
   . refine zab zd8 ?_
     refine zaa zcv (zbw M) y2 λgU V=>?_;have g3:=zaj V;refine zae u24 V<|zbc (by unfold I64;have:=zaj V;omega)<|⟨by unfold zcl;rw [if_neg oo,if_neg oo,if_pos oo],xrf O,?_⟩;trivial
   refine zai<|br (λc4=>?_) (λc4=>?_)
   . refine zab zbG ?_
     refine zaa zcv (zaC M) y2 λgV X=>?_;have g4:=zaj X;refine zae u24 X<|zbc (by unfold I64;have:=zaj X;omega)<|⟨by unfold zcl;rw [if_neg oo,if_pos oo],xrf O,?_⟩;trivial
   refine zai<|br (λc5=>?_) (λc5=>?_)
   . refine zab zbG ?_
     refine zaa zcv (zaC M) y2 λgV X=>?_;have g4:=zaj X;refine zae u24 X<|zbc (by unfold I64;have:=zaj X;omega)<|⟨by unfold zcl;rw [if_neg oo,if_pos oo],xrf O,?_⟩;trivial
   refine ⟨by unfold zcl;rw [if_neg oo,if_neg oo,if_neg oo];rfl,xrf O,?_⟩;trivial
 rintro gW w3_ ⟨hu,y3,C⟩;try replace hu:=zbt hu
 try rw [hu]
 try clear hu
 refine zab zbp<|zac ty3 (zaw I) y3 λgX=>?_;refine (l01In_ok ).mono ?_;rintro _ w4_ ⟨y4,rfl⟩;refine zav<|br (λc6=>?_) (λc6=>?_)
 . refine ⟨(y1.t (y2.t (y3.t y4))),?_⟩
   have:¬zie c a (en c (zas c j).toNat) (zfT c (zas c j)+1):=λh=>c6 h.1;simp only [this,decide_false]
 refine zab za8<|zac ty3 (zaq I) (y3.t y4) λgY=>?_;refine (l01In_ok ).mono ?_;rintro _ gI ⟨y5,rfl⟩;refine zav<|br (λc7=>?_) (λc7=>?_)
 . refine ⟨(y1.t (y2.t (y3.t (y4.t y5)))),?_⟩
   have:¬zie c a (en c (zas c j).toNat) (zfT c (zas c j)+1):=λh=>c7 (by have:=h.2.1;omega);simp only [this,decide_false]
 refine JOIN.mk (λus w'=>us=[]/\Ext gI w'/\(if a.op=1\/a.op=2 then zbk 6 a.term=true/\(∀ s∈zbT a.term,s∈c.globals) else a.term=term0)) ?_ ?_
 . refine zab zbp ?_
   refine zac ty3 (zaw I) (y3.t (y4.t y5)) λgZ=>zai<|br (λc8=>?_) (λc8=>?_)
   . refine zab zeP ?_
     refine zaa zdj (zcd I) (y3.t (y4.t y5)) λh2 gl=>?_;refine (zcU gl (y3.t (y4.t y5))).mono ?_;rintro _ w7_ ⟨y7,rfl⟩;refine zaV<|zbz (λc9=>?_) (λc9=>?_)
     . refine ⟨(y1.t (y2.t (y3.t (y4.t (y5.t y7))))),?_⟩
       have:¬zie c a (en c (zas c j).toNat) (zfT c (zas c j)+1):=λh=>by have:=h.2.2.1;rw [if_pos (.inl c8)] at this;rw [this.1] at c9;cases c9
       simp only [this,decide_false]
     refine zab zeP<|zaa zdj (zcd I) (y3.t (y4.t (y5.t y7))) λh4 gp=>?_;refine (zeo gp (y3.t (y4.t (y5.t y7)))).mono ?_;rintro h5 gJ ⟨y8,Y⟩;refine zao ((zbT a.term).length) (λk us w'=>us=[.int .i64 (k:Int)]/\Ext gJ w'/\(∀ s∈(zbT a.term).take k,s∈c.globals)) (0) oo ⟨sS,xrf gJ,sS⟩ ?_;rintro k gq gr h6 gs ⟨hu,y9,C⟩;try replace hu:=zbt hu
     try rw [hu]
     try clear hu
     have g5:=zaj Y;refine zae u24 Y<|zag<|br (λh9=>?_) (λh9=>?_)
     . have g9:=zah h6
       refine zab zdI<|zaa zcv (zbm M) (y2.t (y3.t (y4.t (y5.t (y7.t (y8.t (y9.t g9))))))) λhb gt=>zad u24 ty9 Y oo λhc hd gx=>zaB ty9 gx (y9.t g9) λgy=>?_;refine (zcC gt (y2.t (y3.t (y4.t (y5.t (y7.t (y8.t (y9.t g9)))))))).mono ?_;rintro _ he ⟨gK,rfl⟩;refine zag<|br (λhf=>?_) (λhf=>?_)
       . refine ⟨(y1.t (y2.t (y3.t (y4.t (y5.t (y7.t (y8.t (y9.t (g9.t gK))))))))),?_⟩
         have:¬zie c a (en c (zas c j).toNat) (zfT c (zas c j)+1):=λh=>by
           have:=h.2.2.1;rw [if_pos (.inl c8)] at this;have:=zfR.2 (this.2 _ (qab (n:=k) oo));omega
         simp only [this,decide_false]
       refine zau<|⟨gq-1,oo,k+1,oo,sS,(y9.t (g9.t gK)),?_⟩;intro s hs;rw [tk oo] at hs;rcases qae.1 hs with hs | hs
       . exact C s hs
       simp only [qaa,qac,or_false] at hs;subst hs;exact zfR.1 oo
     refine ⟨sS,(y7.t (y8.t y9)),?_⟩;rw [if_pos (.inl c8)];rw [qaf oo] at C;exact ⟨by simpa using c9,C⟩
   refine zab zbp<|zac ty3 (zaw I) (y3.t (y4.t y5)) λhg=>zai<|br (λgd=>?_) (λgd=>?_)
   . refine zab zeP ?_
     refine zaa zdj (zcd I) (y3.t (y4.t y5)) λh2 gl=>?_;refine (zcU gl (y3.t (y4.t y5))).mono ?_;rintro _ hh ⟨Z,rfl⟩;refine zaV<|zbz (λgf=>?_) (λgf=>?_)
     . refine ⟨(y1.t (y2.t (y3.t (y4.t (y5.t Z))))),?_⟩
       have:¬zie c a (en c (zas c j).toNat) (zfT c (zas c j)+1):=λh=>by have:=h.2.2.1;rw [if_pos (.inr gd)] at this;rw [this.1] at gf;cases gf
       simp only [this,decide_false]
     refine zab zeP<|zaa zdj (zcd I) (y3.t (y4.t (y5.t Z))) λh4 gp=>?_;refine (zeo gp (y3.t (y4.t (y5.t Z)))).mono ?_;rintro h5 gb ⟨gg,Y⟩;refine zao ((zbT a.term).length) (λk us w'=>us=[.int .i64 (k:Int)]/\Ext gb w'/\(∀ s∈(zbT a.term).take k,s∈c.globals)) (0) oo ⟨sS,xrf gb,sS⟩ ?_;rintro k gq gr gz gs ⟨hu,g0,C⟩;try replace hu:=zbt hu
     try rw [hu]
     try clear hu
     have g5:=zaj Y;refine zae u24 Y<|zag<|br (λhk=>?_) (λhk=>?_)
     . have gc:=zah gz
       refine zab zdI<|zaa zcv (zbm M) (y2.t (y3.t (y4.t (y5.t (Z.t (gg.t (g0.t gc))))))) λhb gt=>zad u24 ty9 Y oo λhc hd gx=>zaB ty9 gx (g0.t gc) λgy=>?_;refine (zcC gt (y2.t (y3.t (y4.t (y5.t (Z.t (gg.t (g0.t gc)))))))).mono ?_;rintro _ hl ⟨gM,rfl⟩;refine zag<|br (λhn=>?_) (λhn=>?_)
       . refine ⟨(y1.t (y2.t (y3.t (y4.t (y5.t (Z.t (gg.t (g0.t (gc.t gM))))))))),?_⟩
         have:¬zie c a (en c (zas c j).toNat) (zfT c (zas c j)+1):=λh=>by
           have:=h.2.2.1;rw [if_pos (.inr gd)] at this;have:=zfR.2 (this.2 _ (qab (n:=k) oo));omega
         simp only [this,decide_false]
       refine zau<|⟨gq-1,oo,k+1,oo,sS,(g0.t (gc.t gM)),?_⟩;intro s hs;rw [tk oo] at hs;rcases qae.1 hs with hs | hs
       . exact C s hs
       simp only [qaa,qac,or_false] at hs;subst hs;exact zfR.1 oo
     refine ⟨sS,(Z.t (gg.t g0)),?_⟩;rw [if_pos (.inr gd)];rw [qaf oo] at C;exact ⟨by simpa using gf,C⟩
   refine zab zeP<|zaa zdj (zcd I) (y3.t (y4.t y5)) λv78 hq=>zxk (α:=DTerm) zFD zDA kK rfl λv79 hr=>?_;refine (zkC hq (y3.t (y4.t y5)) hr (xrf gI) rfl).mono ?_;rintro _ ht ⟨D,rfl⟩;refine zav<|br (λgC=>?_) (λgC=>?_)
   . refine ⟨(y1.t (y2.t (y3.t (y4.t (y5.t D))))),?_⟩
     have:¬zie c a (en c (zas c j).toNat) (zfT c (zas c j)+1):=λh=>by have:=h.2.2.1;rw [if_neg oo] at this;exact gC this
     simp only [this,decide_false]
   refine ⟨sS,D,?_⟩;rw [if_neg oo];exact qad.1 gC
 rintro hv gD ⟨hu,D,hT⟩;try replace hu:=zbt hu
 clear hu;refine JOIN.mk (λus w'=>us=[]/\Ext gD w'/\(a.op=2\/a.op=3)) ?_ ?_
 . refine zab zbp ?_
   refine zac ty3 (zaw I) (y3.t (y4.t (y5.t D))) λhw=>zaP<|br (λhx=>?_) (λhx=>?_)
   . refine zab zbp ?_
     refine zac ty3 (zaw I) (y3.t (y4.t (y5.t D))) λhy=>zaP<|br (λhz=>?_) (λhz=>?_)
     . refine zab zea ?_
       refine zac ty3 (zb3 I) (y3.t (y4.t (y5.t D))) λhB=>zai<|⟨(y1.t (y2.t (y3.t (y4.t (y5.t D))))),?_⟩;congr 1;rw [decide_eq_decide];constructor
       . exact λh=>⟨qad.1 c6,oo,hT,by rw [if_neg oo];exact h⟩
       intro h;have:=h.2.2.2;rw [if_neg oo] at this;exact this
     refine ⟨sS,xrf gD,?_⟩;omega
   refine ⟨sS,xrf gD,?_⟩;omega
 rintro hC hD ⟨hu,U,gN⟩;try replace hu:=zbt hu
 clear hu;refine zaF gG (y2.t (y3.t (y4.t (y5.t (D.t U))))) ?_;refine (ze7 h0 (e0.t (y1.t (y2.t (y3.t (y4.t (y5.t (D.t U)))))))).mono ?_;rintro _ gE ⟨g1,rfl⟩;have g2:=zah gE;refine zab zea<|zac ty3 (zb3 I) (y3.t (y4.t (y5.t (D.t (U.t (g1.t g2)))))) λhF=>zab zbi<|zaa za4 (zar M) (y2.t (y3.t (y4.t (y5.t (D.t (U.t (g1.t g2))))))) λv99 hG=>zaL u33 ty3 hG oo oo λhH hI gF=>zac ty3 gF (y2.t (y3.t (y4.t (y5.t (D.t (U.t (g1.t g2))))))) λgO=>zaF gG (y2.t (y3.t (y4.t (y5.t (D.t (U.t (g1.t g2))))))) ?_;refine (zfl h0 (e0.t (y1.t (y2.t (y3.t (y4.t (y5.t (D.t (U.t (g1.t g2))))))))) oo oo aA).mono ?_;rintro _ hJ ⟨gP,rfl⟩;refine ⟨gP,?_⟩;refine (l01In_ok ).mono ?_;rintro _ hK ⟨hL,rfl⟩;refine ⟨(y1.t (y2.t (y3.t (y4.t (y5.t (D.t (U.t (g1.t (g2.t (gP.t hL)))))))))),?_⟩;congr 1;rw [decide_eq_decide,zbx];constructor
 . exact λh=>⟨qad.1 c6,oo,hT,by rw [if_pos gN];omega⟩
 intro h;have:=h.2.2.2;rw [if_pos gN] at this;omega
def CodeR (c:DCode):Prop:=NamesR c/\EntS c/\∀ j,j<c.ins.length->zie c (zam c j) (en c (zas c j).toNat) (zfT c (zas c j)+1)
instance (c:DCode):Decidable (CodeR c):=by unfold CodeR;infer_instance
def EntS.nonneg (h:EntS c):∀ i,i<c.entry.length->0<=en c i:=zjL h.2.2.1
def NamesR.procs8 (h:NamesR c):c.procs.length<=8/\0<c.procs.length:=by
 have h1:=h.2.2.1;simp only [qap,decide_eq_true_eq] at h1;have h2:=qbY h.2.2.2.2.2.2;omega
theorem zjM {c:DCode} {a:Int} (h0:en c 0<=a):∀ {n:Nat},0<n->0<=prc c a n
 | 1,_=>by rw [prc,if_pos h0];omega
 | n+2,_=>by
   rw [prc];split
   . omega
   exact zjM h0 oo
def zoS (hn:NamesR c) (h:EntS c) {a:Int} (ha:0<=a):0<=zas c a:=by
 have h1:=hn.procs8;have h2:=h.1;exact zjM (by have:=(h.2.2.1 0 oo).1 rfl;omega) oo
def zgJ  (h0:Is W0 v0 c) (e0:Ext W0 w)  :
   CALL tp 57 [v0] w λr w'=>Ext w w'/\(r=.bool (decide (CodeR c))):=by
 refine co (g:=kf [] [(4,262028,[3])] []) Tryz.func57 ?_;refine zat zbq rfl h0 e0 λg4 y1 g5 g1=>zaF g1 (xrf g4) ?_;refine (zsa h0 (e0.t y1)).mono ?_;rintro _ g2 ⟨y2,rfl⟩
 skip
 refine zav<|br (λc1=>?_) (λc1=>?_)
 . refine ⟨(y1.t y2),?_⟩
   have:¬CodeR c:=λh=>c1 ⟨h.1,h.2.1⟩;simp only [this,decide_false]
 refine zao (c.ins.length) (λk us w'=>us=[.int .i64 (k:Int)]/\Ext g2 w'/\(∀ j,j<k->zie c (zam c j) (en c (zas c j).toNat) (zfT c (zas c j)+1))) (0) oo ⟨sS,xrf g2,λi h=>oo⟩ ?_;rintro k m4 uu4 w3_ hk4 ⟨hu,y3,g0⟩;try replace hu:=zbt hu
 try rw [hu]
 try clear hu
 replace c1:=qad.1 c1
 refine zab zaM<|zaa zcQ (zak g5) (y2.t y3) λv9 h9=>?_;have g3:=zaj h9;refine zae u34 h9<|zag<|br (λc2=>?_) (λc2=>?_)
 . refine zaF g1 (y2.t y3) ?_
   refine (zxm h0 (e0.t (y1.t (y2.t y3))) oo c1.2.nonneg (by have:=c1.1.procs8;have:=c1.2.1;omega) (zoS c1.1 c1.2 oo)).mono ?_;rintro _ w4_ ⟨y4,rfl⟩;refine zav<|br (λc3=>?_) (λc3=>?_)
   . refine ⟨(y1.t (y2.t (y3.t y4))),?_⟩
     have:¬CodeR c:=λh=>c3 (h.2.2 k oo);simp only [this,decide_false]
   refine zau<|⟨m4-1,oo,k+1,oo,sS,(y3.t y4),?_⟩;exact zeW g0 (qad.1 c3)
 refine ⟨(y1.t (y2.t y3)),?_⟩;have:CodeR c:=⟨c1.1,c1.2,λj hj=>g0 j oo⟩;simp only [this,decide_true]
def zoT  (h0:Is W0 v0 c) (e0:Ext W0 w)  :
   CALL tp 117 [v0] w λr w'=>Ext w w'/\(r=.bool (decide (NamesR c))):=by
 refine co (g:=kf [] [] []) Tryz.func117 ?_;refine zat zbq rfl h0 e0 λg0 y1 C hV1=>zab zdI<|zaa zcv (zbm C) (xrf g0) λv4 h4=>?_;refine (zil h4 (xrf g0)).mono ?_;rintro _ w2_ ⟨y2,rfl⟩;refine zaV<|zbz (λc1=>?_) (λc1=>?_)
 . refine ⟨(y1.t y2),?_⟩
   have:¬NamesR c:=λh=>by rw [h.1] at c1;cases c1
   simp only [this,decide_false]
 refine zab zd8<|zaa zcv (zbw C) y2 λv9 h9=>?_;refine (zil h9 y2).mono ?_;rintro _ w3_ ⟨y3,rfl⟩;refine zaV<|zbz (λc2=>?_) (λc2=>?_)
 . refine ⟨(y1.t (y2.t y3)),?_⟩
   have:¬NamesR c:=λh=>by rw [h.2.1] at c2;cases c2
   simp only [this,decide_false]
 refine zab zbG<|zaa zcv (zaC C) (y2.t y3) λv15 g1=>?_;refine (zil g1 (y2.t y3)).mono ?_;rintro _ w4_ ⟨y4,rfl⟩;refine zaV<|zbz (λc3=>?_) (λc3=>?_)
 . refine ⟨(y1.t (y2.t (y3.t y4))),?_⟩
   have:¬NamesR c:=λh=>by rw [h.2.2.1] at c3;cases c3
   simp only [this,decide_false]
 refine zab zdI<|zaa zcv (zbm C) (y2.t (y3.t y4)) λv20 g2=>?_;refine (zim g2 (y2.t (y3.t y4))).mono ?_;rintro _ w5_ ⟨y5,rfl⟩;refine br (λc4=>?_) (λc4=>?_)
 . refine ⟨(y1.t (y2.t (y3.t (y4.t y5)))),?_⟩
   have:¬NamesR c:=λh=>c4 h.2.2.2.1;simp only [this,decide_false]
 refine zab zd8<|zaa zcv (zbw C) (y2.t (y3.t (y4.t y5))) λv24 g3=>?_;refine (zim g3 (y2.t (y3.t (y4.t y5)))).mono ?_;rintro _ w6_ ⟨y6,rfl⟩;refine br (λc5=>?_) (λc5=>?_)
 . refine ⟨(y1.t (y2.t (y3.t (y4.t (y5.t y6))))),?_⟩
   have:¬NamesR c:=λh=>c5 h.2.2.2.2.1;simp only [this,decide_false]
 refine zab zbG<|zaa zcv (zaC C) (y2.t (y3.t (y4.t (y5.t y6)))) λv29 g4=>?_;refine (zim g4 (y2.t (y3.t (y4.t (y5.t y6))))).mono ?_;rintro _ w7_ ⟨y7,rfl⟩;refine br (λc6=>?_) (λc6=>?_)
 . refine ⟨(y1.t (y2.t (y3.t (y4.t (y5.t (y6.t y7)))))),?_⟩
   have:¬NamesR c:=λh=>c6 h.2.2.2.2.2.1;simp only [this,decide_false]
 refine zab zbG<|zaa zcv (zaC C) (y2.t (y3.t (y4.t (y5.t (y6.t y7))))) λv33 g5=>?_;refine (zc8 g5 (y2.t (y3.t (y4.t (y5.t (y6.t y7)))))).mono ?_;rintro _ w8_ ⟨y8,rfl⟩;refine ⟨(y1.t (y2.t (y3.t (y4.t (y5.t (y6.t (y7.t y8))))))),?_⟩;congr 1;rw [decide_eq_decide];exact ⟨λh=>⟨by simpa using c1,by simpa using c2,by simpa using c3,qad.1 c4,qad.1 c5,qad.1 c6,h⟩,λh=>h.2.2.2.2.2.2⟩
def zoU (c:DCode):Nat->Nat
 | 0=>0
 | k+1=>zoU c k+if (zam c k).op=9 then 1 else 0
theorem zxn (c:DCode):∀ k,zoU c k<=k
 | 0=>qas _
 | k+1=>by have:=zxn c k;rw [zoU];split<;>omega
def EntI (c:DCode):Prop:=c.ins.length<=1500/\c.entry.length=c.procs.length/\en c 0=0/\zoU c c.ins.length=c.entry.length /\
 ∀ i,i<c.entry.length->en c i<zep c i/\zep c i<=c.ins.length/\(zam c (zep c i-1).toNat).op=9
instance (c:DCode):Decidable (EntI c):=by unfold EntI;infer_instance
theorem zin {c:DCode} (h0:en c 0=0):∀ {q:Nat},q<c.entry.length->(∀ i,i<q->en c i<zep c i)->0<=en c q
 | 0,_,_=>oo
 | q+1,hq,h=>by
   have h1:=zin h0 (q:=q) oo λi hi=>h i oo;have h2:=h q oo;unfold zep at h2;rw [if_pos hq] at h2;omega
def zlS  (h0:Is W0 v0 c) (e0:Ext W0 w) (hp:0<c.procs.length) :
   CALL tp 118 [v0] w λr w'=>Ext w w'/\(r=.bool (decide (EntI c))):=by
 refine co (g:=kf [(18,9442427122730076733696,[8])] [(5,4393751543848,[3,32]),(13,19807040628564958498479145412,[50])] [(15,[0,1,2,3,4,5,6,7,8,9],0)]) Tryz.func118 ?_;refine zat zbq rfl h0 e0 λD y1 C hV1=>zab zaM<|zaa zcQ (zak C) (xrf D) λv10 g3=>?_;have g4:=zaj g3;refine zae u34 g3<|zcK<|br (λc1=>?_) (λc1=>?_)
 . refine ⟨y1,?_⟩
   have:¬EntI c:=λh=>by have:=h.1;omega
   simp only [this,decide_false]
 refine zab zbi<|zaa za4 (zar C) (xrf D) λv15 g5=>?_;have g9:=zaj g5;refine zae u33 g5<|zab zbG<|zaa zcv (zaC C) (xrf D) λv18 gb=>?_;have gc:=zaj gb;refine zae u24 gb<|zaP<|br (λc2=>?_) (λc2=>?_)
 . refine ⟨y1,?_⟩
   have:¬EntI c:=λh=>by have:=h.2.1;omega
   simp only [this,decide_false]
 refine zab zbi<|zaa za4 (zar C) (xrf D) λv24 gC=>zaL u33 ty3 gC oo oo λb25 o25 gD=>zac ty3 gD (xrf D) λgE=>zaP<|br (λc3=>?_) (λc3=>?_)
 . refine ⟨y1,?_⟩
   rw [zbx] at c3;have:¬EntI c:=λh=>c3 h.2.2.1;simp only [this,decide_false]
 refine zab zaM<|zaa zcQ (zak C) (xrf D) λv30 g1=>?_;have gd:=zaj g1;refine zae u34 g1<|zao (c.ins.length) (λk us w'=>us=[.int .i64 (zoU c k:Int),.int .i64 (k:Int)]/\Ext D w'/\(True)) (0) oo ⟨rfl,xrf D,trivial⟩ ?_;rintro k m5 uu5 gf hk5 ⟨hu,y2,g2⟩;obtain ⟨gg,gh⟩:=zcB hu;clear hu;try rw [gg]
 try rw [gh]
 try clear gg gh
 have hel:=zxn c k;refine zag<|br (λc4=>?_) (λc4=>?_)
 . refine zad u34 zcL g1 oo λb34 o34 gF=>?_
   refine zaa zcL gF y2 λv35 gi=>?_;rw [zaz] at gi;refine zck zqd rfl zcL rfl gi y2 λgG y3 gH hV5=>zab zbp<|zac ty3 (zaw gH) (xrf gG) λgI=>zai<|br (λc5=>?_) (λc5=>?_)
   . refine zau ?_
     refine zau<|⟨m5-1,oo,k+1,oo,by rw [zoU,if_pos c5],(y2.t y3),?_⟩;trivial
   refine zau<|⟨m5-1,oo,k+1,oo,by rw [zoU,if_neg c5];rfl,(y2.t y3),?_⟩;trivial
 refine zab zbi<|zaa za4 (zar C) y2 λv44 gj=>?_;have gl:=zaj gj;refine zae u33 gj<|zaP<|br (λc6=>?_) (λc6=>?_)
 . refine ⟨(y1.t y2),?_⟩
   have:¬EntI c:=λh=>c6 (by rw [show k=c.ins.length by omega,h.2.2.2.1]);simp only [this,decide_false]
 refine zab zbi<|zaa za4 (zar C) y2 λv48 gp=>?_;have gq:=zaj gp;refine zae u33 gp<|zao (c.entry.length) (λq us w'=>us=[.int .i64 (q:Int)]/\Ext gf w'/\(∀ i,i<q->en c i<zep c i/\zep c i<=c.ins.length/\(zam c (zep c i-1).toNat).op=9)) (0) oo ⟨sS,xrf gf,λi h=>oo⟩ ?_;rintro q gJ gK g0 gM ⟨hu,y4,I⟩;try replace hu:=zbt hu
 try rw [hu]
 try clear hu
 refine zag<|br (λc7=>?_) (λc7=>?_)
 . have y5:=zah g0
   refine zab zbi<|zaa za4 (zar C) (y2.t (y4.t y5)) λv54 gN=>zad u33 ty3 gN oo λb56 o56 gO=>zac ty3 gO (y2.t (y4.t y5)) λgP=>zab zaM<|zaa zcQ (zak C) (y2.t (y4.t y5)) λv59 gr=>?_;have gs:=zaj gr;refine zae u34 gr<|JOIN.mk (λus w'=>us=[.int .i64 (zep c q)]/\Ext (World.drew1 g0) w'/\(True)) ?_ ?_
   . refine zau ?_
     refine zab zbi<|zaa za4 (zar C) (y2.t (y4.t y5)) λv64 gt=>?_;have gx:=zaj gt;refine zae u33 gt<|zag<|br (λc8=>?_) (λc8=>?_)
     . refine zab zbi ?_
       refine zaa za4 (zar C) (y2.t (y4.t y5)) λv68 gQ=>zau<|zad u33 ty3 gQ oo λb71 o71 gR=>zac ty3 gR (y2.t (y4.t y5)) λgS=>⟨by unfold zep;rw [if_pos oo,zbx],xrf (World.drew1 g0),?_⟩;trivial
     refine ⟨by unfold zep;rw [if_neg oo],xrf (World.drew1 g0),?_⟩;trivial
   rintro gU w6_ ⟨hu,y6,g2⟩;try replace hu:=zbt hu
   try rw [hu]
   try clear hu
   refine zdT<|br (λc9=>?_) (λc9=>?_)
   . refine ⟨(y1.t (y2.t (y4.t (y5.t y6)))),?_⟩
     rw [zbx] at c9;have:¬EntI c:=λh=>by have:=(h.2.2.2.2 q oo).1;omega
     simp only [this,decide_false]
   refine zab zaM<|zaa zcQ (zak C) (y2.t (y4.t (y5.t y6))) λv79 gy=>?_;have gz:=zaj gy;refine zae u34 gy<|zcK<|br (λgV=>?_) (λgV=>?_)
   . refine ⟨(y1.t (y2.t (y4.t (y5.t y6)))),?_⟩
     have:¬EntI c:=λh=>by have:=(h.2.2.2.2 q oo).2.1;omega
     simp only [this,decide_false]
   refine zab zaM<|zaa zcQ (zak C) (y2.t (y4.t (y5.t y6))) λv85 gW=>?_;rw [zbx] at c3 c9;have hq0:=zin (qad.1 c3) (q:=q) oo λi hi=>(I i hi).1;refine zbc (by unfold I64;omega)<|zaL u34 zcL gW oo oo λb88 o88 gX=>zab zbp<|zac ty3 (zaw gX) (y2.t (y4.t (y5.t y6))) λgY=>zaP<|br (λM=>?_) (λM=>?_)
   . refine ⟨(y1.t (y2.t (y4.t (y5.t y6)))),?_⟩
     rw [zaz] at M;have:¬EntI c:=λh=>M (h.2.2.2.2 q oo).2.2;simp only [this,decide_false]
   refine zau<|⟨gJ-1,oo,q+1,oo,sS,(y4.t (y5.t y6)),?_⟩;rw [zaz] at M;exact zeW I ⟨oo,oo,qad.1 M⟩
 refine ⟨(y1.t (y2.t y4)),?_⟩;rw [zbx] at c3;have:EntI c:=⟨oo,oo,qad.1 c3,by rw [show c.ins.length=k by omega];omega,λi hi=>I i oo⟩;simp only [this,decide_true]
def zu2  (h0:Is W0 v0 c) (e0:Ext W0 w)  :
   CALL tp 188 [v0,.int .i64 op] w λr w'=>Ext w w'/\(r=.int .i64 (zcl c op)):=by
 refine co (g:=kf [] [] []) Tryz.func188 ?_;refine zat zbq rfl h0 e0 λC y1 D hV2=>zai<|br (λc1=>?_) (λc1=>?_)
 . refine zab zdI ?_
   refine zaa zcv (zbm D) (xrf C) λv9 h9=>?_;have g2:=zaj h9;refine zae u24 h9<|⟨y1,?_⟩;unfold zcl;rw [if_pos c1]
 refine zai<|br (λc2=>?_) (λc2=>?_)
 . refine zab zbG ?_
   refine zaa zcv (zaC D) (xrf C) λg3 I=>?_;have g0:=zaj I;refine zae u24 I<|⟨y1,?_⟩;unfold zcl;rw [if_neg oo,if_pos oo]
 refine zai<|br (λc3=>?_) (λc3=>?_)
 . refine zab zbG ?_
   refine zaa zcv (zaC D) (xrf C) λg3 I=>?_;have g0:=zaj I;refine zae u24 I<|⟨y1,?_⟩;unfold zcl;rw [if_neg oo,if_pos oo]
 refine zai<|br (λc4=>?_) (λc4=>?_)
 . refine zab zd8 ?_
   refine zaa zcv (zbw D) (xrf C) λg4 M=>?_;have g1:=zaj M;refine zae u24 M<|⟨y1,?_⟩;unfold zcl;rw [if_neg oo,if_neg oo,if_pos oo]
 refine zai<|br (λc5=>?_) (λc5=>?_)
 . refine zab zd8 ?_
   refine zaa zcv (zbw D) (xrf C) λg4 M=>?_;have g1:=zaj M;refine zae u24 M<|⟨y1,?_⟩;unfold zcl;rw [if_neg oo,if_neg oo,if_pos oo]
 refine ⟨y1,?_⟩;unfold zcl;rw [if_neg oo,if_neg oo,if_neg oo]
def zsb {a:DIns} {b:Int} {e:Int}  (h0:Is W0 v0 c) (e0:Ext W0 w) (h1:Is W1 v1 a) (e1:Ext W1 w)  :
   CALL tp 120 [v0,v1,.int .i64 b,.int .i64 e] w λr w'=>Ext w w'/\(r=.bool (decide (zie c a b e))):=by
 refine co (g:=kf [(14,9223372028264842496,[])] [(7,575897802350003456,[49])] [(1,[0,1,2,3,4,5,6,7,8,9,10,11,12,13,14,15,16,17,18,19,20,21],524288)]) Tryz.func120 ?_;refine zat zbq rfl h0 e0 λw1_ y1 gi gp=>zat zcL rfl h1 (e1.trans y1) λgq y2 C hV5=>?_;have y3:=zah gq;refine zab zbp<|zac ty3 (zaw C) y3 λgr=>zag<|br (λc1=>?_) (λc1=>?_)
 . refine ⟨(y1.t (y2.t y3)),?_⟩
   have:¬zie c a b e:=λh=>by have:=h.1;omega
   simp only [this,decide_false]
 refine zab zbp<|zac ty3 (zaw C) y3 λgs=>zcK<|br (λc2=>?_) (λc2=>?_)
 . refine ⟨(y1.t (y2.t y3)),?_⟩
   have:¬zie c a b e:=λh=>by have:=h.1;omega
   simp only [this,decide_false]
 refine zab za8<|zac ty3 (zaq C) y3 λgt=>zag<|br (λc3=>?_) (λc3=>?_)
 . refine ⟨(y1.t (y2.t y3)),?_⟩
   have:¬zie c a b e:=λh=>by have:=h.2.1;omega
   simp only [this,decide_false]
 refine zab za8<|zac ty3 (zaq C) y3 λgx=>zaF gp (y2.t y3)<|zab zbp<|zac ty3 (zaw C) y3 λgy=>?_;refine (zu2 h0 (e0.t (y1.t (y2.t y3)))).mono ?_;rintro _ gz ⟨y4,rfl⟩;refine ⟨y4,?_⟩;refine zcb<|br (λc4=>?_) (λc4=>?_)
 . refine ⟨(y1.t (y2.t (y3.t y4))),?_⟩
   have:¬zie c a b e:=λh=>by have:=h.2.1;omega
   simp only [this,decide_false]
 refine JOIN.mk (λus w'=>us=[]/\Ext gz w'/\(if a.op=1\/a.op=2 then zbk 6 a.term=true/\(∀ s∈zbT a.term,s∈c.globals) else a.term=term0)) ?_ ?_
 . refine zab zbp ?_
   refine zac ty3 (zaw C) (y3.t y4) λgC=>zai<|br (λc5=>?_) (λc5=>?_)
   . refine zab zeP ?_
     refine zaa zdj (zcd C) (y3.t y4) λgD g4=>?_;refine (zgH g4 (y3.t y4)).mono ?_;rintro _ w6_ ⟨y6,rfl⟩;refine zaV<|zbz (λc6=>?_) (λc6=>?_)
     . refine ⟨(y1.t (y2.t (y3.t (y4.t y6)))),?_⟩
       have:¬zie c a b e:=λh=>by have:=h.2.2.1;rw [if_pos (.inl c5)] at this;rw [this.1] at c6;cases c6
       simp only [this,decide_false]
     refine zab zeP<|zaa zdj (zcd C) (y3.t (y4.t y6)) λgE g5=>?_;refine (zfS g5 (y3.t (y4.t y6))).mono ?_;rintro gF gj ⟨y7,M⟩;have g0:=zaj M;refine zae u24 M<|zao ((zbT a.term).length) (λk us w'=>us=[.int .i64 (k:Int)]/\Ext gj w'/\(∀ s∈(zbT a.term).take k,s∈c.globals)) (0) oo ⟨sS,xrf gj,sS⟩ ?_;rintro k m7 gG w8_ gH ⟨hu,y8,D⟩;try replace hu:=zbt hu
     try rw [hu]
     try clear hu
     refine zag<|br (λc7=>?_) (λc7=>?_)
     . refine zad u24 ty9 M oo λgI gJ g9=>?_
       refine zaB ty9 g9 y8 λgb=>zab zdI<|zaa zcv (zbm gi) (y2.t (y3.t (y4.t (y6.t (y7.t y8))))) λgK gc=>?_;refine (zc8 gc (y2.t (y3.t (y4.t (y6.t (y7.t y8)))))).mono ?_;rintro _ w9_ ⟨y9,rfl⟩;refine zav<|br (λc8=>?_) (λc8=>?_)
       . refine ⟨(y1.t (y2.t (y3.t (y4.t (y6.t (y7.t (y8.t y9))))))),?_⟩
         have:¬zie c a b e:=λh=>by
           have:=h.2.2.1;rw [if_pos (.inl c5)] at this;exact c8 (this.2 _ (qab (n:=k) oo))
         simp only [this,decide_false]
       refine zau<|⟨m7-1,oo,k+1,oo,sS,(y8.t y9),?_⟩;intro s hs;rw [tk oo] at hs;rcases qae.1 hs with hs | hs
       . exact D s hs
       simp only [qaa,qac,or_false] at hs;subst hs;exact qad.1 c8
     refine ⟨sS,(y6.t (y7.t y8)),?_⟩;rw [if_pos (.inl c5)];rw [qaf oo] at D;exact ⟨by simpa using c6,D⟩
   refine zab zbp<|zac ty3 (zaw C) (y3.t y4) λgM=>zai<|br (λc9=>?_) (λc9=>?_)
   . refine zab zeP ?_
     refine zaa zdj (zcd C) (y3.t y4) λgD g4=>?_;refine (zgH g4 (y3.t y4)).mono ?_;rintro _ gN ⟨O,rfl⟩;refine zaV<|zbz (λg2=>?_) (λg2=>?_)
     . refine ⟨(y1.t (y2.t (y3.t (y4.t O)))),?_⟩
       have:¬zie c a b e:=λh=>by have:=h.2.2.1;rw [if_pos (.inr c9)] at this;rw [this.1] at g2;cases g2
       simp only [this,decide_false]
     refine zab zeP<|zaa zdj (zcd C) (y3.t (y4.t O)) λgE g5=>?_;refine (zfS g5 (y3.t (y4.t O))).mono ?_;rintro gF g1 ⟨g3,M⟩;have g0:=zaj M;refine zae u24 M<|zao ((zbT a.term).length) (λk us w'=>us=[.int .i64 (k:Int)]/\Ext g1 w'/\(∀ s∈(zbT a.term).take k,s∈c.globals)) (0) oo ⟨sS,xrf g1,sS⟩ ?_;rintro k m7 gG gO gH ⟨hu,U,D⟩;try replace hu:=zbt hu
     try rw [hu]
     try clear hu
     refine zag<|br (λgP=>?_) (λgP=>?_)
     . refine zad u24 ty9 M oo λgI gJ g9=>?_
       refine zaB ty9 g9 U λgb=>zab zdI<|zaa zcv (zbm gi) (y2.t (y3.t (y4.t (O.t (g3.t U))))) λgK gc=>?_;refine (zc8 gc (y2.t (y3.t (y4.t (O.t (g3.t U)))))).mono ?_;rintro _ gQ ⟨gl,rfl⟩;refine zav<|br (λgd=>?_) (λgd=>?_)
       . refine ⟨(y1.t (y2.t (y3.t (y4.t (O.t (g3.t (U.t gl))))))),?_⟩
         have:¬zie c a b e:=λh=>by
           have:=h.2.2.1;rw [if_pos (.inr c9)] at this;exact gd (this.2 _ (qab (n:=k) oo))
         simp only [this,decide_false]
       refine zau<|⟨m7-1,oo,k+1,oo,sS,(U.t gl),?_⟩;intro s hs;rw [tk oo] at hs;rcases qae.1 hs with hs | hs
       . exact D s hs
       simp only [qaa,qac,or_false] at hs;subst hs;exact qad.1 gd
     refine ⟨sS,(O.t (g3.t U)),?_⟩;rw [if_pos (.inr c9)];rw [qaf oo] at D;exact ⟨by simpa using g2,D⟩
   refine zab zeP<|zaa zdj (zcd C) (y3.t y4) λv60 gR=>?_;refine (zoO gR (y3.t y4)).mono ?_;rintro _ gS ⟨I,rfl⟩;refine zav<|br (λgf=>?_) (λgf=>?_)
   . refine ⟨(y1.t (y2.t (y3.t (y4.t I)))),?_⟩
     have:¬zie c a b e:=λh=>by have:=h.2.2.1;rw [if_neg oo] at this;exact gf this
     simp only [this,decide_false]
   refine ⟨sS,I,?_⟩;rw [if_neg oo];exact qad.1 gf
 rintro gU w5_ ⟨hu,I,hT⟩;try replace hu:=zbt hu
 clear hu;refine zab zbp<|zac ty3 (zaw C) (y3.t (y4.t I)) λgV=>zai<|br (λgW=>?_) (λgW=>?_)
 . refine zab zea ?_
   refine zac ty3 (zb3 C) (y3.t (y4.t I)) λgg=>zcb<|br (λgX=>?_) (λgX=>?_)
   . refine zab zea ?_
     refine zac ty3 (zb3 C) (y3.t (y4.t I)) λgh=>zag<|⟨(y1.t (y2.t (y3.t (y4.t I)))),?_⟩
     first
       | (have no:¬zie c a b e:=λh=>by
           have h4:=h.2.2.2;rw [if_pos oo] at h4;omega
          simp only [no,decide_false]
          done)
       | (congr 1
          rw [decide_eq_decide];constructor
          . exact λh=>⟨oo,oo,hT,by first | (rw [if_pos oo];omega) | (rw [if_neg oo];omega)⟩
          intro h;have h4:=h.2.2.2
          first | (rw [if_pos oo] at h4;omega) | (rw [if_neg oo] at h4;omega))
   refine ⟨(y1.t (y2.t (y3.t (y4.t I)))),?_⟩
   first
     | (have no:¬zie c a b e:=λh=>by
         have h4:=h.2.2.2;rw [if_pos oo] at h4;omega
        simp only [no,decide_false]
        done)
     | (congr 1
        rw [decide_eq_decide];constructor
        . exact λh=>⟨oo,oo,hT,by first | (rw [if_pos oo];omega) | (rw [if_neg oo];omega)⟩
        intro h;have h4:=h.2.2.2
        first | (rw [if_pos oo] at h4;omega) | (rw [if_neg oo] at h4;omega))
 refine zab zbp<|zac ty3 (zaw C) (y3.t (y4.t I)) λgY=>zai<|br (λgZ=>?_) (λgZ=>?_)
 . refine zab zea ?_
   refine zac ty3 (zb3 C) (y3.t (y4.t I)) λgg=>zcb<|br (λh2=>?_) (λh2=>?_)
   . refine zab zea ?_
     refine zac ty3 (zb3 C) (y3.t (y4.t I)) λgh=>zag<|⟨(y1.t (y2.t (y3.t (y4.t I)))),?_⟩
     first
       | (have no:¬zie c a b e:=λh=>by
           have h4:=h.2.2.2;rw [if_pos oo] at h4;omega
          simp only [no,decide_false]
          done)
       | (congr 1
          rw [decide_eq_decide];constructor
          . exact λh=>⟨oo,oo,hT,by first | (rw [if_pos oo];omega) | (rw [if_neg oo];omega)⟩
          intro h;have h4:=h.2.2.2
          first | (rw [if_pos oo] at h4;omega) | (rw [if_neg oo] at h4;omega))
   refine ⟨(y1.t (y2.t (y3.t (y4.t I)))),?_⟩
   first
     | (have no:¬zie c a b e:=λh=>by
         have h4:=h.2.2.2;rw [if_pos oo] at h4;omega
        simp only [no,decide_false]
        done)
     | (congr 1
        rw [decide_eq_decide];constructor
        . exact λh=>⟨oo,oo,hT,by first | (rw [if_pos oo];omega) | (rw [if_neg oo];omega)⟩
        intro h;have h4:=h.2.2.2
        first | (rw [if_pos oo] at h4;omega) | (rw [if_neg oo] at h4;omega))
 refine zab zea<|zac ty3 (zb3 C) (y3.t (y4.t I)) λh5=>zai<|⟨(y1.t (y2.t (y3.t (y4.t I)))),?_⟩
 first
   | (have no:¬zie c a b e:=λh=>by
       have h4:=h.2.2.2;rw [if_pos oo] at h4;omega
      simp only [no,decide_false]
      done)
   | (congr 1
      rw [decide_eq_decide];constructor
      . exact λh=>⟨oo,oo,hT,by first | (rw [if_pos oo];omega) | (rw [if_neg oo];omega)⟩
      intro h;have h4:=h.2.2.2
      first | (rw [if_pos oo] at h4;omega) | (rw [if_neg oo] at h4;omega))
def zdJ  (h0:Is W0 v0 c) (e0:Ext W0 w) (hi:i<1000000000000) :
   CALL tp 119 [v0,.int .i64 (i:Int)] w λr w'=>Ext w w'/\(r=.int .i64 (zep c i)):=by
 refine co (g:=kf [] [] []) Tryz.func119 ?_;refine zat zbq rfl h0 e0 λg0 y1 g1 hV2=>zau<|zab zbi<|zaa za4 (zar g1) (xrf g0) λv8 h8=>?_;have g4:=zaj h8;refine zae u33 h8<|zag<|br (λc1=>?_) (λc1=>?_)
 . refine zab zbi ?_
   refine zaa za4 (zar g1) (xrf g0) λv12 g5=>zau<|zad u33 ty3 g5 oo λb15 o15 g9=>zac ty3 g9 (xrf g0) λgb=>⟨y1,?_⟩;unfold zep;rw [if_pos oo,zbx]
 refine zab zaM<|zaa zcQ (zak g1) (xrf g0) λv18 g2=>?_;have g3:=zaj g2;refine zae u34 g2<|⟨y1,?_⟩;unfold zep;rw [if_neg oo]
structure EntF (c:DCode):Prop where
 len:c.entry.length=c.procs.length
 ins:c.ins.length<=1500
 zero:en c 0=0
 lt:∀ i,i<c.entry.length->en c i<zep c i/\zep c i<=c.ins.length
def EntF.nonneg (h:EntF c) {i:Nat} (hi:i<c.entry.length):0<=en c i:=zin h.zero hi λj hj=>(h.lt j oo).1
def EntF.step (h:EntF c) {i:Nat} (hi:i+1<c.entry.length):zep c i=en c (i+1):=by unfold zep;rw [if_pos hi]
def EntF.last (h:EntF c) {i:Nat} (hi:i+1=c.entry.length):zep c i=c.ins.length:=by unfold zep;rw [if_neg oo]
theorem EntF.mono (h:EntF c):∀ {i j:Nat},i<j->j<c.entry.length->zep c i<=en c j
 | i,j+1,hij,hj=>by
   by_cases e:i=j
   . subst e;rw [h.step hj];exact qc5 _
   have h1:=h.mono (i:=i) (j:=j) oo oo;have h2:=(h.lt j oo).1;rw [h.step hj] at h2;omega
def EntF.proc (h:EntF c) {i:Nat} {a:Int} (hi:i<c.entry.length) (h1:en c i<=a) (h2:a<zep c i):zas c a=i:=by
 unfold zas;rw [zk9 (m:=i+1) oo λj hj1 g0=>by have:=h.mono (i:=i) (j:=j) oo g0;omega];rw [prc,if_pos h1]
def EntF.find (h:EntF c) (hp:0<c.procs.length) {a:Int} (h0:0<=a) (h1:a<c.ins.length):∃ i,i<c.entry.length/\en c i<=a/\a<zep c i/\zas c a=i:=by
 have g1:=h.len;have h2:0<=zas c a:=zjM (by rw [h.zero];exact h0) oo;have h3:=(ziZ (c:=c) (a:=a)).2
 have g2:∀ n,n<=c.entry.length->(∀ j,n<=j->j<c.entry.length->a<en c j)->0<n->∃ i,i<n/\en c i<=a/\a<zep c i:=by
   intro n
   induction n with
   | zero=>intro _ _ h;omega
   | succ n ih=>
     intro hn hj _;by_cases hle:en c n<=a
     . refine ⟨n,oo,hle,?_⟩
       by_cases hl:n+1<c.entry.length
       . rw [h.step hl];exact hj (n+1) oo hl
       rw [h.last oo];exact h1
     by_cases h0n:n=0
     . subst h0n;rw [h.zero] at hle;omega
     obtain ⟨i,hi,hx⟩:=ih oo (λj g3 g0=>by
       by_cases e:j=n
       . subst e;omega
       exact hj j oo g0) oo
     exact ⟨i,oo,hx⟩
 obtain ⟨i,hi,hx,hy⟩:=g2 c.entry.length (lr _) (λj g3 g0=>oo) oo;exact ⟨i,hi,hx,hy,h.proc hi hx hy⟩
def EntS.f (h:EntS c) (hp:0<c.procs.length):EntF c:=by
 obtain ⟨h1,h2,h3,h4⟩:=h;refine ⟨h1,h2,(h3 0 oo).1 rfl,λi hi=>?_⟩;unfold zep;split
 . rename_i hl
   have:=h3 (i+1) hl;have h5:=this.2.1 oo;simp only [qbG] at h5;exact ⟨h5,oo⟩
 exact ⟨(h3 i hi).2.2,qc5 _⟩
def EntI.f (h:EntI c):EntF c:=⟨h.2.1,h.1,h.2.2.1,λi hi=>⟨(h.2.2.2.2 i hi).1,(h.2.2.2.2 i hi).2.1⟩⟩
theorem zxo (c:DCode) (a:Nat):∀ (d:Nat),zoU c a<=zoU c (a+d)/\(zoU c (a+d)=zoU c a↔∀ j,a<=j->j<a+d->¬(zam c j).op=9)
 | 0=>⟨qas _,⟨λ_ j h1 h2=>oo,λ_=>rfl⟩⟩
 | d+1=>by
   obtain ⟨h1,h2⟩:=zxo c a d;rw [<-qci,zoU];refine ⟨oo,?_⟩;split
   . rename_i h9
     exact ⟨λh=>oo,λh=>absurd h9 (h (a+d) oo oo)⟩
   rename_i h9
   rw [qcf,h2];constructor
   . intro h j hj1 hj2
     by_cases e:j=a+d
     . subst e;exact h9
     exact h j hj1 oo
   exact λh j hj1 hj2=>h j hj1 oo
def eb (c:DCode) (n:Nat):Nat:=if n=0 then 0 else (zep c (n-1)).toNat
def EntF.eb_en (h:EntF c) {n:Nat} (hn:n<c.entry.length):(eb c n:Int)=en c n:=by
 unfold eb;split
 . rename_i h0;subst h0;rw [h.zero];rfl
 have h1:=h.nonneg hn
 have h2:zep c (n-1)=en c n:=by
   have:=h.step (i:=n-1) oo
   rwa [show n-1+1=n by omega] at this
 rw [h2];omega
def EntF.eb_succ (h:EntF c) {n:Nat} (hn:n<c.entry.length):(eb c (n+1):Int)=zep c n:=by
 unfold eb;rw [if_neg oo,qbG];have:=(h.lt n hn).1;have:=h.nonneg hn;omega
theorem zjN {c:DCode} (h:EntF c) (he:∀ i,i<c.entry.length->(zam c (zep c i-1).toNat).op=9):∀ n,n<=c.entry.length ->
   n<=zoU c (eb c n)/\(zoU c (eb c n)=n↔∀ j:Nat,j<eb c n->(zam c j).op=9->∃ i,i<n/\zep c i=j+1)
 | 0,_=>⟨qbJ _,⟨λ_ j hj=>by simp [eb] at hj,λ_=>rfl⟩⟩
 | n+1,hn=>by
   obtain ⟨h1,h2⟩:=zjN h he n oo;have ha:=h.eb_en (n:=n) oo;have hb:=h.eb_succ (n:=n) oo;have hlt:=(h.lt n oo).1;have h9:=he n oo;have e9:(zep c n-1).toNat=eb c (n+1)-1:=oo
   rw [e9] at h9;obtain ⟨d,hd⟩:∃ d,eb c (n+1)=eb c n+d+1:=⟨eb c (n+1)-eb c n-1,oo⟩;have g1:eb c (n+1)-1=eb c n+d:=oo
   rw [g1] at h9;obtain ⟨h3,h4⟩:=zxo c (eb c n) d;rw [hd,zoU,if_pos h9];refine ⟨oo,?_⟩;have g0:zoU c (eb c n+d)+1=n+1↔(zoU c (eb c n)=n/\zoU c (eb c n+d)=zoU c (eb c n)):=oo
   rw [g0,h2,h4];constructor
   . rintro ⟨p1,p2⟩ j hj r
     by_cases hja:j<eb c n
     . obtain ⟨i,hi,hx⟩:=p1 j hja r
       exact ⟨i,oo,hx⟩
     by_cases hje:j=eb c n+d
     . exact ⟨n,oo,oo⟩
     exact absurd r (p2 j oo oo)
   intro p;constructor
   . intro j hj r
     obtain ⟨i,hi,hx⟩:=p j oo r;by_cases hin:i=n
     . subst hin;omega
     exact ⟨i,oo,hx⟩
   intro j hj1 hj2 r;obtain ⟨i,hi,hx⟩:=p j oo r;by_cases hin:i=n
   . subst hin;omega
   have:=h.mono (i:=i) (j:=n) oo oo;omega
def zxp (hp:0<c.procs.length):EntI c↔EntS c:=by
 constructor
 . intro h
   have hf:=h.f;obtain ⟨_,_,_,hc,g0⟩:=h;have g1:=hf.len;have he:∀ i,i<c.entry.length->(zam c (zep c i-1).toNat).op=9:=λi hi=>(g0 i hi).2.2;obtain ⟨_,h2⟩:=zjN hf he c.entry.length (lr _)
   have hb:eb c c.entry.length=c.ins.length:=by
     have:=hf.eb_succ (n:=c.entry.length-1) oo;rw [hf.last oo,show c.entry.length-1+1=c.entry.length by omega] at this;omega
   rw [hb] at h2;have h3:=h2.1 hc;refine ⟨hf.len,hf.ins,λi hi=>⟨λ_=>hf.zero,λh0=>?_,?_⟩,λj hj=>?_⟩
   . have h4:=(hf.lt (i-1) oo).1
     have h5:=hf.step (i:=i-1) oo;rw [show i-1+1=i by omega] at h5;omega
   . have:=hf.lt i hi;omega
   obtain ⟨i,hi,hx,hy,g2⟩:=hf.find hp (a:=j) oo oo;rw [g2,zdU];constructor
   . intro h9
     obtain ⟨i',g3,hx'⟩:=h3 j hj h9;have:=hf.lt i' g3;have g4:=hf.proc (a:=j) g3 oo oo;have:i'=i:=oo
     subst this;omega
   intro h9;have:=he i hi
   rwa [show (zep c i-1).toNat=j by omega] at this
 intro h;have hf:=h.f hp;have g1:=hf.len;have h4:=h.2.2.2
 have he:∀ i,i<c.entry.length->(zam c (zep c i-1).toNat).op=9:=λi hi=>by
   have h1:=hf.lt i hi;have h0:=hf.nonneg hi;have:=(h4 (zep c i-1).toNat oo).2;refine this ?_;rw [hf.proc (i:=i) hi oo oo,zdU];omega
 obtain ⟨_,h2⟩:=zjN hf he c.entry.length (lr _)
 have hb:eb c c.entry.length=c.ins.length:=by
   have:=hf.eb_succ (n:=c.entry.length-1) oo;rw [hf.last oo,show c.entry.length-1+1=c.entry.length by omega] at this;omega
 rw [hb] at h2;refine ⟨hf.ins,hf.len,hf.zero,h2.2 λj hj h9=>?_,λi hi=>⟨(hf.lt i hi).1,(hf.lt i hi).2,he i hi⟩⟩;obtain ⟨i,hi,hx,hy,g2⟩:=hf.find hp (a:=j) oo oo;have:=(h4 j hj).1 h9;rw [g2,zdU] at this;exact ⟨i,hi,oo⟩
def zqk (hn:NamesR c) (he:EntI c):CodeR c↔∀ i,i<c.entry.length->∀ j:Nat,en c i<=j->(j:Int)<zep c i->zie c (zam c j) (en c i) (zep c i):=by
 have hf:=he.f;have hp:=hn.procs8.2;constructor
 . intro h i hi j h1 h2
   have h3:=hf.lt i hi;have:=h.2.2 j oo;rw [hf.proc hi h1 h2,zdU,qah] at this
   rwa [Int.sub_add_cancel] at this
 intro h;refine ⟨hn,(zxp hp).1 he,λj hj=>?_⟩;obtain ⟨i,hi,hx,hy,g0⟩:=hf.find hp (a:=j) oo oo;rw [g0,zdU,qah,Int.sub_add_cancel];exact h i hi j hx hy
def zgK  (h0:Is W0 v0 c) (e0:Ext W0 w)  :
   CALL tp 52 [v0] w λr w'=>Ext w w'/\(r=.bool (decide (CodeR c))):=by
 refine co (g:=kf [] [(4,35184371564732,[19]),(8,17583596109956,[33])] []) Tryz.func52 ?_;refine zat zbq rfl h0 e0 λgg y1 g9 g2=>zaF g2 (xrf gg) ?_;refine (zoT h0 (e0.t y1)).mono ?_;rintro _ w2_ ⟨y2,rfl⟩;refine zav<|br (λc1=>?_) (λc1=>?_)
 . refine ⟨(y1.t y2),?_⟩
   have:¬CodeR c:=λh=>c1 h.1;simp only [this,decide_false]
 refine zaF g2 y2 ?_;refine (zlS h0 (e0.t (y1.t y2)) (qad.1 c1).procs8.2).mono ?_;rintro _ gb ⟨y3,rfl⟩;refine zav<|br (λc2=>?_) (λc2=>?_)
 . refine ⟨(y1.t (y2.t y3)),?_⟩
   have:¬CodeR c:=λh=>c2 ((zxp h.1.procs8.2).2 h.2.1);simp only [this,decide_false]
 refine zab zbi<|zaa za4 (zar g9) (y2.t y3) λv17 g3=>?_;have gc:=zaj g3;refine zae u33 g3<|zao (c.entry.length) (λq us w'=>us=[.int .i64 (q:Int)]/\Ext gb w'/\(∀ i,i<q->∀ j:Nat,en c i<=j->(j:Int)<zep c i->zie c (zam c j) (en c i) (zep c i))) (0) oo ⟨sS,xrf gb,λi h=>oo⟩ ?_;rintro q m4 uu4 w4_ hk4 ⟨hu,y4,g0⟩;try replace hu:=zbt hu
 try rw [hu]
 try clear hu
 replace c1:=qad.1 c1;replace c2:=qad.1 c2;have gh:=zaj g3
 refine zag<|br (λc3=>?_) (λc3=>?_)
 . refine zad u33 ty3 g3 oo λb22 o22 gi=>?_
   refine zac ty3 gi (y2.t (y3.t y4)) λgj=>?_;rw [zbx];have h8:=c1.procs8;have hlq:=c2.f.lt q oo;have hnq:=c2.f.nonneg (i:=q) oo;have gl:=c2.f.len;refine zaF g2 (y2.t (y3.t y4)) ?_;refine (zdJ h0 (e0.t (y1.t (y2.t (y3.t y4)))) oo).mono ?_;rintro _ gd ⟨y5,rfl⟩;refine zab zaM<|zaa zcQ (zak g9) (y2.t (y3.t (y4.t y5))) λv28 gp=>zoL u34 zcL gp oo oo oo λv31 g4=>?_;have gf:=zaj g4;refine zae u34 g4<|zao ((zep c q).toNat-(en c q).toNat) (λk us w'=>us=[.int .i64 (k:Int)]/\Ext gd w'/\(∀ j:Nat,en c q<=j->(j:Int)<en c q+k->zie c (zam c j) (en c q) (zep c q))) (0) oo ⟨sS,xrf gd,λj h1 h2=>oo⟩ ?_;rintro k m8 uu8 w6_ hk8 ⟨hu,y6,g1⟩;try replace hu:=zbt hu
   try rw [hu]
   try clear hu
   have gq:((c.ins.take (zep c q).toNat).drop (en c q).toNat).length=(zep c q).toNat-(en c q).toNat:=by rw [qa0,qai];omega
   refine zag<|br (λc4=>?_) (λc4=>?_)
   . refine zad u34 zcL g4 oo λb35 o35 gr=>?_
     refine zaa zcL gr (y2.t (y3.t (y4.t (y5.t y6)))) λv36 g5=>?_;rw [qcP,qcr,zaz] at g5;refine zck zqd rfl zcL rfl g5 (y2.t (y3.t (y4.t (y5.t y6)))) λgs y7 hA7 gt=>zaF g2 (y2.t (y3.t (y4.t (y5.t (y6.t y7)))))<|zaF gt (xrf gs) ?_;refine (zsb h0 (e0.t (y1.t (y2.t (y3.t (y4.t (y5.t (y6.t y7))))))) g5 (y2.t (y3.t (y4.t (y5.t (y6.t y7)))))).mono ?_;rintro _ w8_ ⟨y8,rfl⟩;refine zav<|br (λc5=>?_) (λc5=>?_)
     . refine ⟨(y1.t (y2.t (y3.t (y4.t (y5.t (y6.t (y7.t y8))))))),?_⟩
       have:¬CodeR c:=λh=>c5 ((zqk c1 c2).1 h q oo _ oo oo);simp only [this,decide_false]
     refine zau<|⟨m8-1,oo,k+1,oo,sS,(y6.t (y7.t y8)),?_⟩;intro j h1 h2;by_cases hj:j=(en c q).toNat+k
     . subst hj;exact qad.1 c5
     exact g1 j h1 oo
   refine zau<|⟨m4-1,oo,q+1,oo,sS,(y4.t (y5.t y6)),?_⟩;intro i hi j h1 h2;by_cases hiq:i=q
   . subst hiq;exact g1 j h1 oo
   exact g0 i oo j h1 h2
 refine ⟨(y1.t (y2.t (y3.t y4))),?_⟩;have:CodeR c:=(zqk c1 c2).2 λi hi=>g0 i oo;simp only [this,decide_true]
structure Cur where
 i:Nat
 h:Int
def zu3 (h:Int):Int:=zrI (zrI (h*6364136223846793005)+1442695040888963407)
def zzO (h:Int):Int:=zuT (zET (zDU h 33) (zDU h 45)) 255
def zjO (bs:List UInt8) (s:Cur):Int:=match bs[s.i]? with
 | some b=>zuT (zzO (zu3 s.h)+(b.toNat:Int)) 255
 | none=>zzO (zu3 s.h)
def zdV (bs:List UInt8) (s:Cur):Cur:=⟨if s.i<bs.length then s.i+1 else s.i,zu3 s.h⟩
def zfB (bs:List UInt8) (s:Cur):0<=zjO bs s/\zjO bs s<=255:=by
 unfold zjO zzO;split
 . exact zoB _ (n:=255) oo
 exact zoB _ (n:=255) oo
def zFj (a b c d:Int):Int:=a*16777216+b*65536+c*256+d
def zbN (bs:List UInt8) (n:Int) (s:Cur):Int:=
 if n<=0 then 0 else if n<=256 then (zjO bs s).tmod n
 else (zFj (zjO bs s) (zjO bs (zdV bs s)) (zjO bs (zdV bs (zdV bs s))) (zjO bs (zdV bs (zdV bs (zdV bs s))))).tmod n
def zap (bs:List UInt8) (n:Int) (s:Cur):Cur:=
 if n<=0 then s else if n<=256 then zdV bs s else zdV bs (zdV bs (zdV bs (zdV bs s)))
def zcM (bs:List UInt8) {n:Int} (hn:0<n) (s:Cur):0<=zbN bs n s/\zbN bs n s<n:=by
 have h1:=zfB bs s;have h2:=zfB bs (zdV bs s);have h3:=zfB bs (zdV bs (zdV bs s));have h4:=zfB bs (zdV bs (zdV bs (zdV bs s)));unfold zbN;rw [if_neg oo];split
 . exact zwK h1.1 hn
 exact zwK (by unfold zFj;omega) hn
def ztC (bs:List UInt8) {n:Nat} (hn:0<n) (s:Cur):(zbN bs (n:Int) s).toNat<n:=by
 have:=zcM bs (n:=(n:Int)) oo s;omega
def zdl (bs:List UInt8) (l:List ByteArray) (s:Cur):ByteArray:=l.getD (zbN bs (l.length:Int) s).toNat (ByteArray.mk #[])
def zjP (bs:List UInt8) (l:List Int) (s:Cur):Int:=l.getD (zbN bs (l.length:Int) s).toNat 0
def zoV {α:Type} {l:List α} {d:α} (h:i<l.length):l.getD i d∈l:=by
 rw [List.getD_eq_getElem?_getD,List.getElem?_eq_getElem h];exact qab h
def zez (bs:List UInt8) {l:List ByteArray} (h:0<l.length) (s:Cur):zdl bs l s∈l:=zoV (ztC bs h s)
def zlT (bs:List UInt8) {l:List Int} (h:0<l.length) (s:Cur):zjP bs l s∈l:=zoV (ztC bs h s)
def nX:ByteArray:=ByteArray.mk #[120]
def nY:ByteArray:=ByteArray.mk #[121]
def nZ:ByteArray:=ByteArray.mk #[122]
def nU:ByteArray:=ByteArray.mk #[117]
def nA:ByteArray:=ByteArray.mk #[97]
def nB:ByteArray:=ByteArray.mk #[98]
def nM:ByteArray:=ByteArray.mk #[109]
def nP:ByteArray:=ByteArray.mk #[112]
def nQ:ByteArray:=ByteArray.mk #[113]
def nR:ByteArray:=ByteArray.mk #[114]
def nO:ByteArray:=ByteArray.mk #[]
def zCJ:List Int:=[0,1,2,3,7,999,1000,1000000000]
def zwd:List ByteArray:=[nX,nY,nZ,nX,nU]
def opL:List Int:=[3,4,5,6,7,9]
def glb:List ByteArray:=[nX,nY,nZ,nU]
def lks:List ByteArray:=[nA,nB,nM]
def zxq:List ByteArray:=[nX,nY,nZ]
def zql:List ByteArray:=[nP,nQ,nR]
def prc4:List ByteArray:=[zh6,nP,nQ,nR]
def zfm (bs:List UInt8) (d:Nat) (s:Cur):Int:=if d=0/\6<=zbN bs 12 s then zbN bs 12 s-6 else zbN bs 12 s
def zaD (bs:List UInt8):Nat->Cur->DTerm×Cur
 | 0,s=>
   if zfm bs 0 s<3 then (.mk 1 (zjP bs zCJ (zap bs 12 s)) nO [],zap bs 8 (zap bs 12 s))
   else (.mk 2 0 (zdl bs zwd (zap bs 12 s)) [],zap bs 5 (zap bs 12 s))
 | d+1,s=>
   if zfm bs (d+1) s<3 then (.mk 1 (zjP bs zCJ (zap bs 12 s)) nO [],zap bs 8 (zap bs 12 s))
   else if zfm bs (d+1) s<6 then (.mk 2 0 (zdl bs zwd (zap bs 12 s)) [],zap bs 5 (zap bs 12 s))
   else if zfm bs (d+1) s=6 then (.mk 8 0 nO [(zaD bs d (zap bs 12 s)).1],(zaD bs d (zap bs 12 s)).2)
   else (.mk (zjP bs opL (zap bs 12 s)) 0 nO [(zaD bs d (zap bs 6 (zap bs 12 s))).1,(zaD bs d (zaD bs d (zap bs 6 (zap bs 12 s))).2).1],
     (zaD bs d (zaD bs d (zap bs 6 (zap bs 12 s))).2).2)
def zCK (bs:List UInt8) (s:Cur):0<=zfm bs 0 s/\zfm bs 0 s<6:=by
 have:=zcM bs (n:=12) oo s;unfold zfm;split<;>omega
def ztD {x:ByteArray} (h:x∈zwd):x∈glb:=by
 simp only [zwd,qaa,qac,or_false] at h;rcases h with rfl | rfl | rfl | rfl | rfl<;>decide
def zoW {x:ByteArray} (h:x∈glb):zbF x=true:=by
 simp only [glb,qaa,qac,or_false] at h;rcases h with rfl | rfl | rfl | rfl<;>decide
def zoX {x:ByteArray} (h:x∈lks):zbF x=true:=by
 simp only [lks,qaa,qac,or_false] at h;rcases h with rfl | rfl | rfl<;>decide
def zCL {n:Int} (h:n∈zCJ):0<=n/\n<=1000000000:=by
 simp only [zCJ,qaa,qac,or_false] at h;omega
def zBJ {n:Int} (h:n∈opL):3<=n/\n<=9/\n≠8:=by
 simp only [opL,qaa,qac,or_false] at h;omega
def zxr (bs:List UInt8) (n:Nat) (s:Cur):zbk n (.mk 1 (zjP bs zCJ s) nO [])=true:=by
 rw [zeV rfl];have:=zCL (zlT bs (l:=zCJ) qd s);simp [DTerm.num,DTerm.name,DTerm.kids,this,nO]
def zxs (bs:List UInt8) (n:Nat) (s:Cur):zbk n (.mk 2 0 (zdl bs zwd s) [])=true:=by
 rw [zgG rfl];have:=zoW (ztD (zez bs (l:=zwd) qd s));simp [DTerm.num,DTerm.name,DTerm.kids,this]
theorem zio (bs:List UInt8):∀ (d n:Nat) (s:Cur),d<=n->zbk n (zaD bs d s).1=true
 | 0,n,s,_=>by
   rw [zaD];split
   . exact zxr bs n _
   exact zxs bs n _
 | d+1,0,s,h=>absurd h oo
 | d+1,n+1,s,h=>by
   rw [zaD];split
   . exact zxr bs _ _
   split
   . exact zxs bs _ _
   split
   . rw [zbE (by show ¬(8:Int)=1;omega) (by show ¬(8:Int)=2;omega)]
     simp [DTerm.kind,DTerm.num,DTerm.name,DTerm.kids,nO,zio bs d n _ oo]
   have:=zBJ (zlT bs (l:=opL) qd (zap bs 12 s));generalize zjP bs opL (zap bs 12 s)=k at *;rw [zbE (by simp only [DTerm.kind];omega) (by simp only [DTerm.kind];omega)];simp [DTerm.kind,DTerm.num,DTerm.name,DTerm.kids,nO,zio bs d n _ (by omega:d<=n),this.1,this.2.1,this.2.2]
def zzP {l:List ByteArray} {s x:ByteArray} (h:x∈zwc l s):x∈l\/x=s:=by
 unfold zwc at h;split at h
 . exact .inl h
 simpa using h
theorem zna (bs:List UInt8):∀ (d n:Nat) (s:Cur) (l:List ByteArray) (x:ByteArray),d<=n->x∈readsT n (zaD bs d s).1 l->x∈l\/x∈glb:=by
 have h1:∀ n k l x,x∈readsT n (.mk 1 k nO []) l->x∈l:=by
   intro n k l x h;rw [zej,if_neg (by show ¬(1:Int)=2;omega)] at h;cases n with
   | zero=>exact h
   | succ n=>exact h
 have h2:∀ n s l x,x∈readsT n (.mk 2 0 (zdl bs zwd s) []) l->x∈l\/x∈glb:=by
   intro n s l x h;rw [zk8 rfl] at h;rcases zzP h with h | rfl
   . exact .inl h
   exact .inr (ztD (zez bs qd s))
 intro d
 induction d with
 | zero=>
   intro n s l x _ h;rw [zaD] at h;split at h
   . exact .inl (h1 _ _ _ _ h)
   exact h2 _ _ _ _ h
 | succ d ih=>
   intro n s l x hd h;obtain ⟨n,rfl⟩:∃ m,n=m+1:=⟨n-1,oo⟩;rw [zaD] at h;split at h
   . exact .inl (h1 _ _ _ _ h)
   split at h
   . exact h2 _ _ _ _ h
   split at h
   . rw [zej,if_neg (by show ¬(8:Int)=2;omega)] at h
     simp only [DTerm.kids,qbw,List.foldl_nil] at h;exact ih n _ _ _ oo h
   have hk:=zBJ (zlT bs (l:=opL) qd (zap bs 12 s));generalize zjP bs opL (zap bs 12 s)=k at *;rw [zej,if_neg (by show ¬k=2;omega)] at h;simp only [DTerm.kids,qbw,List.foldl_nil] at h;rcases ih n _ _ _ oo h with h | h
   . exact ih n _ _ _ oo h
   exact .inr h
def zu4 (k n:Int) (s:ByteArray) (l:List DTerm):wT (.mk k n s l)=s.size+(l.length+sm wT l):=by
 rw [zCI,zxl];rfl
theorem zu5 (bs:List UInt8):∀ (d:Nat) (s:Cur),wT (zaD bs d s).1+2<=3*2^d:=by
 have h0:nO.size=0:=rfl
 have h2:∀ s,(zdl bs zwd s).size<=1:=λs=>by
   have:=zez bs (l:=zwd) qd s;generalize zdl bs zwd s=x at *;simp only [zwd,qaa,qac,or_false] at this;rcases this with rfl | rfl | rfl | rfl | rfl<;>decide
 intro d
 induction d with
 | zero=>
   intro s;rw [zaD];split
   . rw [zu4];simp [h0,sm]
   rw [zu4];have:=h2 (zap bs 12 s);simp [sm];omega
 | succ d ih=>
   intro s;have hp:1<=2^d:=qck;rw [zaD,qc9];split
   . rw [zu4];simp [h0,sm];omega
   split
   . rw [zu4];have:=h2 (zap bs 12 s);simp [sm];omega
   split
   . rw [zu4];have:=ih (zap bs 12 s);simp [sm,h0];omega
   rw [zu4];have:=ih (zap bs 6 (zap bs 12 s));have:=ih (zaD bs d (zap bs 6 (zap bs 12 s))).2;simp [sm,h0];omega
def TmR (gl:List ByteArray) (t:DTerm):Prop:=zbk 6 t=true/\(∀ s∈zbT t,s∈gl)/\wT t<=24
def zhJ (bs:List UInt8) {d:Nat} (hd:d<=3) (s:Cur):TmR glb (zaD bs d s).1:=by
 have h:=zio bs d 6 s oo;refine ⟨h,λx hx=>?_,?_⟩
 . unfold zbT at hx
   rw [if_pos h] at hx;rcases zna bs d 6 s [] x oo hx with h | h
   . cases h
   exact h
 have h1:=zu5 bs d s;have h2:2^d<=2^3:=qat oo hd;omega
def zf8 (bs:List UInt8) (d:Nat) (s:Cur):Int:=if d=0/\11<=zbN bs 14 s then zbN bs 14 s-6 else zbN bs 14 s
def zhf (bs:List UInt8) (k:Int) (s:Cur):DStmt×Cur:=
 if k<4 then (.mk 1 (zdl bs zxq s) (zaD bs 2 (zap bs 3 s)).1 [] [],(zaD bs 2 (zap bs 3 s)).2)
 else if k<6 then (.mk 6 (zdl bs lks s) term0 [] [],zap bs 3 s)
 else if k<8 then (.mk 7 (zdl bs lks s) term0 [] [],zap bs 3 s)
 else if k=8 then (.mk 4 (zdl bs zql s) term0 [] [],zap bs 3 s)
 else if k=9 then (.mk 5 (zdl bs zql s) term0 [] [],zap bs 3 s)
 else (.mk 8 nO term0 [] [],s)
def zek (f:Cur->DStmt×Cur) (bs:List UInt8):Nat->Nat->Cur->List DStmt×Cur
 | 0,_,s=>([],s)
 | n+1,i,s=>
   if (i:Int)<zbN bs 4 s then ((f (zap bs 4 s)).1 :: (zek f bs n (i+1) (f (zap bs 4 s)).2).1,(zek f bs n (i+1) (f (zap bs 4 s)).2).2)
   else ([],zap bs 4 s)
def znK (bs:List UInt8) (f:Cur->DStmt×Cur) (k:Int) (s:Cur):DStmt×Cur:=
 if k=11 then (.mk 3 nO (zaD bs 1 s).1 (zek f bs 4 0 (zaD bs 1 s).2).1 [],(zek f bs 4 0 (zaD bs 1 s).2).2)
 else if zbN bs 2 (zek f bs 4 0 (zaD bs 1 s).2).2=0 then
   (.mk 2 nO (zaD bs 1 s).1 (zek f bs 4 0 (zaD bs 1 s).2).1 (zek f bs 4 0 (zap bs 2 (zek f bs 4 0 (zaD bs 1 s).2).2)).1,
     (zek f bs 4 0 (zap bs 2 (zek f bs 4 0 (zaD bs 1 s).2).2)).2)
 else (.mk 2 nO (zaD bs 1 s).1 (zek f bs 4 0 (zaD bs 1 s).2).1 [],zap bs 2 (zek f bs 4 0 (zaD bs 1 s).2).2)
def zcf (bs:List UInt8):Nat->Cur->DStmt×Cur
 | 0,s=>zhf bs (zf8 bs 0 s) (zap bs 14 s)
 | d+1,s=>if zf8 bs (d+1) s<11 then zhf bs (zf8 bs (d+1) s) (zap bs 14 s) else znK bs (zcf bs d) (zf8 bs (d+1) s) (zap bs 14 s)
def zbv (bs:List UInt8) (d:Nat) (s:Cur):List DStmt×Cur:=zek (zcf bs d) bs 4 0 s
def zCM (bs:List UInt8) (s:Cur):0<=zf8 bs 0 s/\zf8 bs 0 s<11:=by
 have:=zcM bs (n:=14) oo s;unfold zf8;split<;>omega
structure Scp where
 gl:List ByteArray
 lk:List ByteArray
 pr:List ByteArray
abbrev dS (pr:List ByteArray):Scp:=⟨glb,lks,pr⟩
def St0 (c:Scp) (t:DStmt):Prop:=(t.kind=1/\t.name∈c.gl/\TmR c.gl t.term/\t.body=[]/\t.els=[])\/((t.kind=4\/t.kind=5)/\t.name∈c.pr/\t.term=term0/\t.body=[]/\t.els=[]) \/
   ((t.kind=6\/t.kind=7)/\t.name∈c.lk/\t.term=term0/\t.body=[]/\t.els=[])\/(t.kind=8/\t.name=nO/\t.term=term0/\t.body=[]/\t.els=[])
def StR (c:Scp):Nat->DStmt->Prop
 | 0,t=>St0 c t
 | n+1,t=>St0 c t\/((t.kind=2\/t.kind=3/\t.els=[])/\t.name=nO/\TmR c.gl t.term/\(∀ x∈t.body,StR c n x)/\∀ x∈t.els,StR c n x)
theorem StR.base {c:Scp}:∀ {n:Nat} {t:DStmt},St0 c t->StR c n t
 | 0,t,h=>by rw [StR];exact h
 | n+1,t,h=>by rw [StR];exact .inl h
def StR.more {c:Scp} {t:DStmt} (h1:t.kind=2\/t.kind=3/\t.els=[]) (h2:t.name=nO) (h3:TmR c.gl t.term) (h4:∀ x∈t.body,StR c n x) (h5:∀ x∈t.els,StR c n x):StR c (n+1) t:=by
 rw [StR];exact .inr ⟨h1,h2,h3,h4,h5⟩
def StR.zero {c:Scp} {t:DStmt} (h:StR c 0 t):St0 c t:=by rw [StR] at h;exact h
def StR.succ {c:Scp} {t:DStmt} (h:StR c (n+1) t):St0 c t\/((t.kind=2\/t.kind=3/\t.els=[])/\t.name=nO/\TmR c.gl t.term/\(∀ x∈t.body,StR c n x)/\∀ x∈t.els,StR c n x):=by
 rw [StR] at h;exact h
theorem StR.mono {c:Scp}:∀ {n m:Nat} {t:DStmt},n<=m->StR c n t->StR c m t
 | 0,m,_,_,h=>StR.base h.zero
 | n+1,0,_,h,_=>absurd h oo
 | n+1,m+1,t,hn,h=>by
   rcases h.succ with h | ⟨h1,h2,h3,h4,h5⟩
   . exact StR.base h
   exact StR.more h1 h2 h3 (λx hx=>(h4 x hx).mono oo) λx hx=>(h5 x hx).mono oo
def ztE (bs:List UInt8) (k:Int) (s:Cur):St0 (dS zql) (zhf bs k s).1:=by
 unfold zhf;have hs:=zez bs (l:=zxq) qd s;have hl:=zez bs (l:=lks) qd s;have hp:=zez bs (l:=zql) qd s
 have hg:zdl bs zxq s∈glb:=by
   generalize zdl bs zxq s=x at *;simp only [zxq,qaa,qac,or_false] at hs;rcases hs with rfl | rfl | rfl<;>decide
 split
 . exact .inl ⟨rfl,hg,zhJ bs oo _,rfl,rfl⟩
 split
 . exact .inr (.inr (.inl ⟨.inl rfl,hl,rfl,rfl,rfl⟩))
 split
 . exact .inr (.inr (.inl ⟨.inr rfl,hl,rfl,rfl,rfl⟩))
 split
 . exact .inr (.inl ⟨.inl rfl,hp,rfl,rfl,rfl⟩)
 split
 . exact .inr (.inl ⟨.inr rfl,hp,rfl,rfl,rfl⟩)
 exact .inr (.inr (.inr ⟨rfl,rfl,rfl,rfl,rfl⟩))
theorem zf9 {f:Cur->DStmt×Cur} {bs:List UInt8} {p:DStmt->Prop} (hf:∀ s,p (f s).1):∀ (n i:Nat) (s:Cur),∀ x∈(zek f bs n i s).1,p x
 | 0,_,_,x,h=>by rw [zek] at h;cases h
 | n+1,i,s,x,h=>by
   rw [zek] at h;split at h
   . rcases qaa.1 h with rfl | h
     . exact hf _
     exact zf9 hf n _ _ x h
   cases h
theorem zlU {f:Cur->DStmt×Cur} {bs:List UInt8}:∀ (n i:Nat) (s:Cur),(zek f bs n i s).1.length<=n
 | 0,_,_=>by rw [zek];exact qas _
 | n+1,i,s=>by
   rw [zek];split
   . have:=zlU (f:=f) (bs:=bs) n (i+1) (f (zap bs 4 s)).2
     simp only [qaj];omega
   simp
theorem znL (bs:List UInt8):∀ (d:Nat) (s:Cur),StR (dS zql) d (zcf bs d s).1
 | 0,s=>by rw [zcf];exact StR.base (ztE bs _ _)
 | d+1,s=>by
   rw [zcf];split
   . exact StR.base (ztE bs _ _)
   have ih:=znL bs d;unfold znK;split
   . exact StR.more (.inr ⟨rfl,rfl⟩) rfl (zhJ bs oo _) (zf9 ih _ _ _) λx hx=>by cases hx
   split
   . exact StR.more (.inl rfl) rfl (zhJ bs oo _) (zf9 ih _ _ _) (zf9 ih _ _ _)
   exact StR.more (.inl rfl) rfl (zhJ bs oo _) (zf9 ih _ _ _) λx hx=>by cases hx
def znM (bs:List UInt8) (d:Nat) (s:Cur):∀ x∈(zbv bs d s).1,StR (dS zql) d x:=zf9 (znL bs d) _ _ _
mutual
def szS:DStmt->Nat
  | .mk _ _ _ b e=>1+szL b+szL e
def szL:List DStmt->Nat
  | []=>0
  | x :: l=>szS x+szL l
end
mutual
def zwe:DStmt->Int->Int
  | .mk _ _ _ b e,n=>zkD e (zkD b (n-1))
def zkD:List DStmt->Int->Int
  | [],n=>n
  | x :: l,n=>if 0<=n then zkD l (zwe x n) else n
end
mutual
theorem zxt:∀ (x:DStmt) (n:Int),0<=n->((szS x:Int)<=n->zwe x n=n-szS x)/\(n<szS x->zwe x n<0)
  | .mk k s t b e,n,hn=>by
    rw [szS,zwe];have h1:=zjQ b (n-1);have h2:=zjQ e (zkD b (n-1));refine ⟨λh=>?_,λh=>?_⟩
    . rw [h2.1 (by rw [h1.1 oo];omega),h1.1 oo];omega
    by_cases hb:(szL b:Int)<=n-1
    . exact h2.2.1 (by rw [h1.1 hb];omega)
    have:=h1.2.1 oo;by_cases h0:zkD b (n-1)<0
    . exact h2.2.2 h0
    omega
theorem zjQ:∀ (l:List DStmt) (n:Int),((szL l:Int)<=n->zkD l n=n-szL l)/\(n<szL l->zkD l n<0)/\(n<0->zkD l n<0)
  | [],n=>by
    rw [szL,zkD];exact ⟨λ_=>oo,λh=>oo,λh=>h⟩
  | x :: l,n=>by
    rw [szL,zkD];refine ⟨λh=>?_,λh=>?_,λh=>?_⟩
    . have h1:=zxt x n oo
      have h2:=zjQ l (zwe x n);rw [if_pos oo,h2.1 (by rw [h1.1 oo];omega),h1.1 oo];omega
    . split
      . rename_i h0
        have h1:=zxt x n h0;have h2:=zjQ l (zwe x n);by_cases hx:(szS x:Int)<=n
        . exact h2.2.1 (by rw [h1.1 hx];omega)
        exact h2.2.2 (h1.2 oo)
      omega
    rw [if_neg oo];exact h
end
theorem zjR:∀ (l m:List DStmt),szL (l++m)=szL l+szL m
 | [],m=>by simp [szL]
 | x :: l,m=>by rw [qbA,szL,szL,zjR l m];omega
theorem zoY:∀ (l:List DStmt),l.length<=szL l
 | []=>by simp
 | .mk k s t b e :: l=>by have:=zoY l;rw [szL,szS,qaj];omega
mutual
def zsc (bs:List UInt8) (pr:List ByteArray):DStmt->Cur->DStmt×Cur
  | .mk k n t b e,s=>
    if k=4\/k=5 then
      (.mk k (zdl bs pr s) t (zeX bs pr b (zap bs (pr.length:Int) s)).1 (zeX bs pr e (zeX bs pr b (zap bs (pr.length:Int) s)).2).1,(zeX bs pr e (zeX bs pr b (zap bs (pr.length:Int) s)).2).2)
    else (.mk k n t (zeX bs pr b s).1 (zeX bs pr e (zeX bs pr b s).2).1,(zeX bs pr e (zeX bs pr b s).2).2)
def zeX (bs:List UInt8) (pr:List ByteArray):List DStmt->Cur->List DStmt×Cur
  | [],s=>([],s)
  | x :: l,s=>((zsc bs pr x s).1 :: (zeX bs pr l (zsc bs pr x s).2).1,(zeX bs pr l (zsc bs pr x s).2).2)
end
mutual
theorem zCN (bs:List UInt8) (pr:List ByteArray):∀ (x:DStmt) (s:Cur),szS (zsc bs pr x s).1=szS x
  | .mk k n t b e,s=>by
    rw [zsc];split
    . rw [szS,szS,zjS bs pr b,zjS bs pr e]
    rw [szS,szS,zjS bs pr b,zjS bs pr e]
theorem zjS (bs:List UInt8) (pr:List ByteArray):∀ (l:List DStmt) (s:Cur),szL (zeX bs pr l s).1=szL l
  | [],s=>by rw [zeX]
  | x :: l,s=>by rw [zeX,szL,szL,zCN bs pr x,zjS bs pr l]
end
def ztF (bs:List UInt8) (pr:List ByteArray) (s:Cur):zeX bs pr [] s=([],s):=by rw [zeX]
theorem zE2 {bs:List UInt8} {pr r:List ByteArray} (hp:0<pr.length):∀ (n:Nat),(∀ (t:DStmt) (s:Cur),StR (dS r) n t->StR (dS pr) n (zsc bs pr t s).1)/\∀ (l:List DStmt) (s:Cur),(∀ x∈l,StR (dS r) n x)->∀ x∈(zeX bs pr l s).1,StR (dS pr) n x:=by
 have h0:∀ (t:DStmt) (s:Cur),St0 (dS r) t->St0 (dS pr) (zsc bs pr t s).1:=by
   rintro ⟨k,nm,t,b,e⟩ s h;have hb:b=[]:=by rcases h with h | h | h | h<;>exact h.2.2.2.1
   have he:e=[]:=by rcases h with h | h | h | h<;>exact h.2.2.2.2
   subst hb he;rw [zsc];simp only [ztF];rcases h with h | h | h | h
   . have hk:k=1:=h.1
     rw [if_neg oo];exact .inl h
   . have hk:k=4\/k=5:=h.1
     rw [if_pos hk];exact .inr (.inl ⟨hk,zez bs hp s,h.2.2.1,rfl,rfl⟩)
   . have hk:k=6\/k=7:=h.1
     rw [if_neg oo];exact .inr (.inr (.inl h))
   have hk:k=8:=h.1;rw [if_neg oo];exact .inr (.inr (.inr h))
 have hl:∀ n,(∀ (t:DStmt) (s:Cur),StR (dS r) n t->StR (dS pr) n (zsc bs pr t s).1)->∀ (l:List DStmt) (s:Cur),(∀ x∈l,StR (dS r) n x)->∀ x∈(zeX bs pr l s).1,StR (dS pr) n x:=by
   intro n hs l
   induction l with
   | nil=>intro s _ x hx;rw [zeX] at hx;cases hx
   | cons y l ih=>
     intro s h x hx;rw [zeX] at hx;rcases qaa.1 hx with rfl | hx
     . exact hs y s (h y sS)
     exact ih _ (λz hz=>h z (by simp [hz])) x hx
 intro n
 induction n with
 | zero=>
   have g0:∀ (t:DStmt) (s:Cur),StR (dS r) 0 t->StR (dS pr) 0 (zsc bs pr t s).1:=λt s h=>StR.base (h0 t s h.zero);exact ⟨g0,hl 0 g0⟩
 | succ n ih=>
   have hs:∀ (t:DStmt) (s:Cur),StR (dS r) (n+1) t->StR (dS pr) (n+1) (zsc bs pr t s).1:=by
     intro t s h;rcases h.succ with h | ⟨h1,h2,h3,h4,h5⟩
     . exact StR.base (h0 t s h)
     obtain ⟨k,nm,t,b,e⟩:=t;have hk:k=2\/k=3/\e=[]:=h1;rw [zsc,if_neg oo];refine StR.more ?_ h2 h3 (ih.2 b _ h4) (ih.2 e _ h5);rcases hk with hk | ⟨hk,rfl⟩
     . exact .inl hk
     exact .inr ⟨hk,by show (zeX bs pr [] _).1=[];rw [zeX]⟩
   exact ⟨hs,hl (n+1) hs⟩
def zCO:DStmt:=.mk 8 nO term0 [] []
def zga (n:ByteArray):DStmt:=.mk 6 n term0 [] []
def zel (n:ByteArray):DStmt:=.mk 7 n term0 [] []
def zBK (n:ByteArray):DStmt:=.mk 5 n term0 [] []
def zlV (bs:List UInt8) (body:List DStmt) (s:Cur):List DStmt×Cur:=
 if zdl bs lks s=zdl bs lks (zap bs 3 s) then (zga (zdl bs lks s) :: (body++[zel (zdl bs lks s)]),zap bs 3 (zap bs 3 s))
 else if zbN bs 2 (zap bs 3 (zap bs 3 s))=0 then (zga (zdl bs lks s) :: zga (zdl bs lks (zap bs 3 s)) :: (body++[zel (zdl bs lks s)]),zap bs 2 (zap bs 3 (zap bs 3 s)))
 else (zga (zdl bs lks s) :: (body++[zel (zdl bs lks s)]),zap bs 2 (zap bs 3 (zap bs 3 s)))
def zhg (bs:List UInt8) (s:Cur):List DStmt×Cur:=
 (if zkD ((zbv bs 2 s).1++(zbv bs 1 (zbv bs 2 s).2).1) 50<0 then [zCO] else (zbv bs 2 s).1++(zbv bs 1 (zbv bs 2 s).2).1,(zbv bs 1 (zbv bs 2 s).2).2)
def zip (bs:List UInt8) (r:List DStmt×Cur):List DStmt×Cur:=
 if zbN bs 2 r.2=0 then zlV bs r.1 (zap bs 2 r.2) else (r.1,zap bs 2 r.2)
def zkZ (bs:List UInt8) (i:Nat) (nm:ByteArray) (r:List DStmt×Cur):List DStmt×Cur:=
 if i=0 then (if zbN bs 2 r.2=0 then (zBK nm :: r.1,zap bs 2 r.2) else (r.1,zap bs 2 r.2)) else r
def zdW (bs:List UInt8) (pr:List ByteArray) (i:Nat) (s:Cur):List DStmt×Cur:=
 zeX bs pr (zkZ bs i (pr.getD 0 nO) (zip bs (zhg bs s))).1 (zkZ bs i (pr.getD 0 nO) (zip bs (zhg bs s))).2
def zbP (bs:List UInt8) (pr:List ByteArray):List ByteArray->Nat->Cur->List DProc×Cur
 | [],_,s=>([],s)
 | n :: l,i,s=>(⟨n,(zdW bs pr i s).1⟩ :: (zbP bs pr l (i+1) (zdW bs pr i s).2).1,(zbP bs pr l (i+1) (zdW bs pr i s).2).2)
def zlW (bs:List UInt8) (s:Cur):List ByteArray:=prc4.take (2+(zbN bs 3 s).toNat)
def zeY (bs:List UInt8) (s:Cur):DProg×Cur:=
 (⟨glb,lks,(zbP bs ((zlW bs s).drop 1) (zlW bs s) 0 (zap bs 3 s)).1⟩,(zbP bs ((zlW bs s).drop 1) (zlW bs s) 0 (zap bs 3 s)).2)
def zE3 (bs:List UInt8):Int:=(bs.take 4000).foldl (λh b=>zuT (h*131+(b.toNat:Int)+7) 1073741823) (94701+(bs.length:Int))
def zqm (bs:List UInt8):Cur:=⟨0,zE3 bs⟩
def zu6 (c:Scp) (l:List DStmt):Prop:=(∀ x∈l,StR c 2 x)/\szL l<=54
def zEi (pr:List ByteArray):StR (dS pr) 2 zCO:=StR.base (.inr (.inr (.inr ⟨rfl,rfl,rfl,rfl,rfl⟩)))
def ztG (pr:List ByteArray) {n:ByteArray} (h:n∈lks):StR (dS pr) 2 (zga n):=StR.base (.inr (.inr (.inl ⟨.inl rfl,h,rfl,rfl,rfl⟩)))
def zzQ (pr:List ByteArray) {n:ByteArray} (h:n∈lks):StR (dS pr) 2 (zel n):=StR.base (.inr (.inr (.inl ⟨.inr rfl,h,rfl,rfl,rfl⟩)))
def zsd (bs:List UInt8) (s:Cur):(∀ x∈(zhg bs s).1,StR (dS zql) 2 x)/\szL (zhg bs s).1<=50:=by
 unfold zhg;split
 . exact ⟨λx hx=>by simp only [qaa,qac,or_false] at hx;subst hx;exact zEi _,by simp [szL,szS,zCO]⟩
 rename_i h
 refine ⟨λx hx=>?_,?_⟩
 . rcases qae.1 hx with hx | hx
   . exact znM bs 2 s x hx
   exact (znM bs 1 _ x hx).mono oo
 have:=zjQ ((zbv bs 2 s).1++(zbv bs 1 (zbv bs 2 s).2).1) 50;have:=this.2.1;show szL ((zbv bs 2 s).1++(zbv bs 1 (zbv bs 2 s).2).1)<=50;omega
def zxu (bs:List UInt8) {r:List DStmt×Cur} (h:(∀ x∈r.1,StR (dS zql) 2 x)/\szL r.1<=50):(∀ x∈(zip bs r).1,StR (dS zql) 2 x)/\szL (zip bs r).1<=53:=by
 have hl:=λs=>zez bs (l:=lks) qd s
 have g0:∀ (C:List DStmt) (n:ByteArray),n∈lks->(∀ x∈C,StR (dS zql) 2 x)->szL C<=2->(∀ x∈C++(r.1++[zel n]),StR (dS zql) 2 x)/\szL (C++(r.1++[zel n]))<=53:=by
   intro C n hn hp hs;refine ⟨λx hx=>?_,?_⟩
   . rcases qae.1 hx with hx | hx
     . exact hp x hx
     rcases qae.1 hx with hx | hx
     . exact h.1 x hx
     simp only [qaa,qac,or_false] at hx;subst hx;exact zzQ _ hn
   rw [zjR,zjR];have:szL [zel n]=1:=by simp [szL,szS,zel]
   omega
 unfold zip;split
 . unfold zlV
   split
   . exact g0 [zga _] _ (hl _) (λx hx=>by simp only [qaa,qac,or_false] at hx;subst hx;exact ztG _ (hl _)) (by simp [szL,szS,zga])
   split
   . exact g0 [zga _,zga _] _ (hl _) (λx hx=>by
       simp only [qaa,qac,or_false] at hx;rcases hx with rfl | rfl
       . exact ztG _ (hl _)
       exact ztG _ (hl _)) (by simp [szL,szS,zga])
   exact g0 [zga _] _ (hl _) (λx hx=>by simp only [qaa,qac,or_false] at hx;subst hx;exact ztG _ (hl _)) (by simp [szL,szS,zga])
 exact ⟨h.1,by have:=h.2;show szL r.1<=53;omega⟩
def zCP (bs:List UInt8) (i:Nat) {nm:ByteArray} (hn:nm∈zql) {r:List DStmt×Cur} (h:(∀ x∈r.1,StR (dS zql) 2 x)/\szL r.1<=53):zu6 (dS zql) (zkZ bs i nm r).1:=by
 unfold zkZ;split
 . split
   . refine ⟨λx hx=>?_,?_⟩
     . rcases qaa.1 hx with rfl | hx
       . exact StR.base (.inr (.inl ⟨.inr rfl,hn,rfl,rfl,rfl⟩))
       exact h.1 x hx
     have:=h.2;simp only [szL,szS,zBK];omega
   exact ⟨h.1,by have:=h.2;show szL r.1<=54;omega⟩
 exact ⟨h.1,by have:=h.2;omega⟩
def zu7 (bs:List UInt8) {pr:List ByteArray} (hp:0<pr.length) (h3:∀ x∈pr,x∈zql) (i:Nat) (s:Cur):zu6 (dS pr) (zdW bs pr i s).1:=by
 have h:=zCP bs i (nm:=pr.getD 0 nO) (h3 _ (zoV hp)) (zxu bs (zsd bs s));unfold zdW;exact ⟨(zE2 hp 2).2 _ _ h.1,by rw [zjS];exact h.2⟩
structure ProgR (p:DProg):Prop where
 g:p.globals=glb\/p.globals=glb.take 1
 l:p.locks=lks\/p.locks=lks.take 1\/p.locks=lks.take 2
 n:∃ k,k<4/\p.procs.map DProc.name=prc4.take (1+k)
 b:∀ x∈p.procs,zu6 ⟨p.globals,p.locks,(p.procs.map DProc.name).drop 1⟩ x.body
theorem zfn (bs:List UInt8) (pr:List ByteArray):∀ (l:List ByteArray) (i:Nat) (s:Cur),(zbP bs pr l i s).1.map DProc.name=l
 | [],_,_=>by rw [zbP];rfl
 | n :: l,i,s=>by rw [zbP,qbC,zfn bs pr l]
theorem zlX (bs:List UInt8) {pr:List ByteArray} (hp:0<pr.length) (h3:∀ x∈pr,x∈zql):∀ (l:List ByteArray) (i:Nat) (s:Cur),∀ x∈(zbP bs pr l i s).1,zu6 (dS pr) x.body
 | [],_,_,x,h=>by rw [zbP] at h;cases h
 | n :: l,i,s,x,h=>by
   rw [zbP] at h;rcases qaa.1 h with rfl | h
   . exact zu7 bs hp h3 i s
   exact zlX bs hp h3 l _ _ x h
def zxv (bs:List UInt8) (s:Cur):(zbN bs 3 s).toNat<3:=by
 have:=zcM bs (n:=3) oo s;omega
theorem zoZ:∀ k,k<3->0<((prc4.take (2+k)).drop 1).length/\∀ x∈(prc4.take (2+k)).drop 1,x∈zql
 | 0,_=>⟨qd,by intro x hx;simp only [prc4,List.take,List.drop,qaa,qac,or_false] at hx;subst hx;decide⟩
 | 1,_=>⟨qd,by intro x hx;simp only [prc4,List.take,List.drop,qaa,qac,or_false] at hx;rcases hx with rfl | rfl<;>decide⟩
 | 2,_=>⟨qd,by intro x hx;simp only [prc4,List.take,List.drop,qaa,qac,or_false] at hx;rcases hx with rfl | rfl | rfl<;>decide⟩
 | k+3,h=>absurd h oo
def zjT (bs:List UInt8) (s:Cur):ProgR (zeY bs s).1:=by
 have hk:=zxv bs s;have ht:=zoZ _ hk;refine ⟨.inl rfl,.inl rfl,⟨1+(zbN bs 3 s).toNat,oo,?_⟩,λx hx=>?_⟩
 . rw [show 1+(1+(zbN bs 3 s).toNat)=2+(zbN bs 3 s).toNat by omega];exact zfn bs _ _ _ _
 have hn:((zeY bs s).1.procs.map DProc.name)=zlW bs s:=zfn bs _ _ _ _;rw [hn];exact zlX bs ht.1 ht.2 _ _ _ x hx
end Go.Proofs.YtcnglfeoglgebaaGreat
namespace Go.Sh
open Go.RowKit (Below)
open Rep (rep)
section
variable {P:Program} {w w0 w':World} {α β γ:Type} [Rep α] [Rep β]
def zeZ {t e:TypeId} {by_:Nat} {F:List Nat} {v:Value} {l:List α} {k:Nat} {K:Value->Prop} (ht:P.underlying t=some (.slice e)) (he:tyI P e=some (Rep.size α,by_,Rep.agg α)) (hm:Mine F w v l) (hk:k<l.length)
   (kk:∀ b o G,Lens (MH v) F w b o G l[k] (λy=>l.set k y)->K (.pointer (some ⟨b,o,none⟩))):RD P (Instr.indexAt t v (.int .i64 (k:Int))) w K:=by
 obtain ⟨b,a,cap,G,hv,hL⟩:=zwu hm hk;refine zbb (v:=.pointer (some ⟨b,a+k*Rep.size α,none⟩)) (λw' _=>?_) (kk _ _ _ hL);rw [hv,zch ht he oo oo];simp
def zlY {ft by_ b o:Nat} {H:List Nat->World->γ->Prop} {F G:List Nat} {l:List β} {upd:List β->γ} {K:Value->Prop} (g1:tyI P ft=some (1,by_,false)) (hL:Lens H F w b o G l upd)
   (k:∀ u,Mine G w u l->(∀ c∈G,c∈F)->(∀ w' G' l',Chg G w w'->Mine G' w' u l'->(∀ c∈G',c∈G\/c∉F)->∃ F',H F' w' (upd l')/\∀ c∈F',c∈F\/c∈G')->K u) :
   RD P (Instr.loadAt ft (.pointer (some ⟨b,o,none⟩))) w K:=by
 obtain ⟨u,hM,hr,hG,hb⟩:=hL.row;refine zbb (λw' g0=>?_) (k u hM hG hb);have h0:w'.cell? ⟨b,o,none⟩=some u:=by simpa using (zbI hr g0) 0 u rfl
 have hA:=zcc g1 w';simp [Instr.loadAt,Instr.sureAddr,loadVar,hA,h0]
def zax {ft by_ g e o:Nat} {cs:List Value} {v:Value} {K:Value->Prop} (g1:tyI P ft=some (1,by_,false)) (hB:Blk g e w cs) (ho:cs[o]?=some v) (k:K v) :
   RD P (Instr.loadAt ft (.pointer (some ⟨g,o,none⟩))) w K:=by
 refine zbb (λw' g0=>?_) k;have h0:w'.cell? ⟨g,o,none⟩=some v:=by simpa using (zbI hB.range g0) o v ho
 have hA:=zcc g1 w';simp [Instr.loadAt,Instr.sureAddr,loadVar,hA,h0]
def zo0 {t:TypeId} {cs:Array Value} {K:VW} (k:∀ w',Ext w w'->Blk w.heap.size t w' cs.toList->K (.pointer (some ⟨w.heap.size,0,none⟩)) w'):OP P (Instr.box t (.agg cs)) w K:=
 ⟨_,w.alloc (.cells cs t),by simp [Instr.box,newVar,newRow,Value.cells],k _ (za6 w _) (by unfold Blk;rw [heap_alloc_new w _])⟩
def zdX {t by_ b o:Nat} {F G:List Nat} {v:Value} {y y':β} {upd:β->α} {u:Value} {K:World->Prop} (ht:tyI P t=some (Rep.size β,by_,Rep.agg β)) (h:Lens (MH v) F w b o G y upd)
   (hu:Mine [] w u y') (k:∀ w' F',Chg F w w'->Mine F' w' v (upd y')->(∀ c∈F',c∈F)->K w'):OPU P (Instr.storeAt t (.pointer (some ⟨b,o,none⟩)) u) w K:=
 zk2 ht h hu sS λw' hc ⟨F',h1,h2⟩=>k w' F' hc h1 λc hc=>by
   rcases h2 c hc with h | h
   . exact h
   simp at h
def zbA {x:Int} (h:I64 x):Mine [] w (.int .i64 x) x:=⟨⟨_,⟨rfl,rfl,h⟩,rfl⟩,qaq,Wr.nil w⟩
def ztH {x:ByteArray} (h:x.size<=maxLen):Mine [] w (.string x) x:=⟨⟨_,⟨rfl,rfl,h⟩,rfl⟩,qaq,Wr.nil w⟩
def zlZ {x:Bool}:Mine [] w (.bool x) x:=⟨⟨_,⟨rfl,rfl⟩,rfl⟩,qaq,Wr.nil w⟩
def Chg.sub {F G:List Nat} {a b c:World} (h:Chg F a b) (k:Chg G b c) (hs:∀ x∈G,x∈F):Chg F a c:=h.trans (k.mono hs)
def zBL {ts:Array TypeId} {ty:TypeId} {a b:Int} {K:Value->Prop} (k:K (.int .i64 (max a b))):RD P (Builtin.max_ ts ty [Value.int .i64 a,Value.int .i64 b].toArray) w K:=by
 refine zbb (λw' _=>?_) k;have:(if b>a then b else a)=max a b:=by split<;>omega
 simp only [Builtin.max_,List.toList_toArray,List.foldlM_cons,List.foldlM_nil,Builtin.max2,this];rfl
def zEj {ts:Array TypeId} {ty:TypeId} {a b:Int} {K:Value->Prop} (k:K (.int .i64 (min a b))):RD P (Builtin.min_ ts ty [Value.int .i64 a,Value.int .i64 b].toArray) w K:=by
 refine zbb (λw' _=>?_) k;have:(if b<a then b else a)=min a b:=by split<;>omega
 simp only [Builtin.min_,List.toList_toArray,List.foldlM_cons,List.foldlM_nil,Builtin.min2,this];rfl
def zEk {t e ft i g0 by_ g3:Nat} {F:List Nat} {v u:Value} {l:List α} {k:Nat} {y':β} {sel:α->β} {g:α->β->α} {K:World->Prop} (ht:P.underlying t=some (.slice e)) (he:tyI P e=some (Rep.size α,by_,Rep.agg α)) (hf:zdP P e i=some g0) (g2:tyI P ft=some (Rep.size β,g3,Rep.agg β))
   (L:∀ {a:α} {G:List Nat} {b o:Nat} {upd:α->List α},Lens (MH v) F w b o G a upd->∃ G1,Lens (MH v) F w b (o+g0) G1 (sel a) (λy=>upd (g a y))) (hm:Mine F w v l) (hk:k<l.length) (hu:Mine [] w u y')
   (kk:∀ w' F',Chg F w w'->Mine F' w' v (l.set k (g l[k] y'))->(∀ c∈F',c∈F)->K w') :
   RD P (Instr.indexAt t v (.int .i64 (k:Int))) w λp=>RD P (Instr.fieldAt e p i) w λq=>OPU P (Instr.storeAt ft q u) w K:=by
 refine zeZ ht he hm hk λb o G hL=>zab hf ?_;obtain ⟨G1,g1⟩:=L hL;exact zdX (upd:=λy=>l.set k (g l[k] y)) g2 g1 hu kk
end
end Go.Sh
namespace Go.Sh
open Rep (rep)
section
variable {P:Program} {w w0:World} {α:Type} [Rep α]
theorem zqn [RepZ α] {z:Value} (hz:RepZ.zc α=[z]) (w:World):∀ n,Cells [] w (List.replicate n z) (List.replicate n (RepZ.zv:α))
 | 0=>⟨rfl,rfl⟩
 | n+1=>⟨[],[],[z],List.replicate n z,rfl,rfl,hz▸RepZ.zr w,zqn hz w n⟩
def zzR (z:Value) (n:Nat):(madeCells #[z] n).toList=List.replicate n z:=by
 apply qaO
 . simp [madeCells]
 intro i h1 h2;simp [madeCells,Nat.mod_one]
def ze0 [RepZ α] {t e:TypeId} {by_:Nat} {z:Value} {K:VW} {n:Nat} (ht:P.underlying t=some (.slice e)) (he:tyI P e=some (Rep.size α,by_,Rep.agg α)) (h1:Rep.size α=1) (g9:RepZ.zc α=[z]) (hz:zcz P e=some [z])
   (hb:by_*n<=281474976710656) (hm:n<=9223372036854775807)
   (k:∀ w',Ext w w'->RowI w.heap.size w'.heap.size e w' (.slice (some ⟨w.heap.size,0,none⟩) n n) (List.replicate n (RepZ.zv:α))->K (.slice (some ⟨w.heap.size,0,none⟩) n n) w') :
   OP P (Instr.makeSlice t (.int .i64 (n:Int)) (.int .i64 (n:Int))) w K:=by
 obtain ⟨i,d,hi,hd,hs,g2,hg⟩:=zdC he;unfold zcz at hz;rw [hi] at hz;obtain ⟨zz,g3,g4⟩:=qaU.1 hz
 have g5:(i.bytes:Int)*(n:Int)<=281474976710656:=by
   have h:((i.bytes*n:Nat):Int)<=281474976710656:=by rw [g2];omega
   rwa [Int.natCast_mul] at h
 have hr:=run_make (P:=P) w t e i zz ht hi g3 .i64 .i64 n n oo (qc5 _) g5 oo;simp only [qah] at hr;have g0:zz.cells=#[z]:=by apply qce;simpa using g4
 have g1:n*i.size=n:=by rw [hs,h1,qcs]
 rw [g0,g1] at hr;refine ⟨_,_,hr,k _ (za6 w _) (.inr ⟨[w.heap.size],⟨List.replicate n z,[],⟨?_,.inr ⟨w.heap.size,n,madeCells #[z] n,?_,z0 _,heap_alloc_new w _,sS,by rw [zal];omega,?_,?_⟩⟩,zqn g9 _ n,rfl,Wr.nil _⟩,sS,?_⟩)⟩
 . simp [h1]
 . simp
 . rw [h1];simp [madeCells]
 . rw [zzR,qbD,h1,qcs,qaf sS]
 intro b hb;simp only [qaa,qac,or_false] at hb;subst hb;exact ⟨qas _,(Array.getElem?_eq_some_iff.1 (heap_alloc_new w _)).1⟩
def zaX {K:Value->Prop} {t:TypeId} {parts:Array (Nat×Value)} {cells:Array Value} (h:P.built t parts.toList=some cells) (k:K (.agg cells)):RD P (Instr.build t parts) w K:=
 zbb (λw' _=>run_build w' t parts cells h) k
def ziq {t by_ g e:Nat} {cs:List Value} {K:Value->Prop} (hB:Blk g e w cs) (ht:tyI P t=some (cs.length,by_,true)) (k:K (.agg cs.toArray)):RD P (Instr.loadAt t (.pointer (some ⟨g,0,none⟩))) w K:=
 zaF ⟨e,cs,by_,hB,rfl,ht⟩ (xrf w) k
def zeI {t by_ g e:Nat} {cs:List Value} {K:Value->Prop} (hB:Blk g e w cs) (ht:tyI P t=some (cs.length,by_,true)) (k:K (.agg cs.toArray)):RD P (zfN t (.pointer (some ⟨g,0,none⟩))) w K:=by
 obtain ⟨i,d,hi,hd,hs,_,hg⟩:=zdC ht;refine zbb (λw' g0=>?_) k;have:=run_loadAt_mid w' g 0 t cs d (hB.ext g0).range hd hg (by simp [hi,hs]);simpa [zfN,asAddr,Instr.loadAt,Instr.sureAddr] using this
def zcg {t by_ g e:Nat} {cs:List Value} {us:Array Value} {lo hi:Nat} {x:α} {K:World->Prop} (ht:tyI P t=some (Rep.size α,by_,true)) (ha:Rep.agg α=true) (hB:Blk g e w cs) (hl:cs.length=Rep.size α) (hu:OwnI lo hi w (.agg us) x)
   (k:∀ w',ChgI g (g+1) w w'->Blk g e w' us.toList->K w'):OPU P (Instr.storeAt t (.pointer (some ⟨g,0,none⟩)) (.agg us)) w K:=by
 obtain ⟨F,⟨⟨g1,hr,hv⟩,_⟩,_⟩:=hu
 have g2:us.toList=g1:=by
   simp only [mkv,ha,cond_true,Value.agg.injEq] at hv;rw [hv]
 have hl':=Rep.len hr;rw [hv];refine zwt (by rw [ha];exact ht) hB hr rfl oo λw' hc g0=>k w' (hc.toI sS) ?_;rw [g2];rw [qbW,qbu,qa9,qco oo,qaC] at g0;exact g0
def zbW {t by_ g e o:Nat} {cs:List Value} {u:Value} {lo hi:Nat} {x:α} {K:World->Prop} (ht:tyI P t=some (1,by_,false)) (h1:Rep.size α=1) (ha:Rep.agg α=false) (hB:Blk g e w cs) (ho:o<cs.length) (hu:OwnI lo hi w u x)
   (k:∀ w',ChgI g (g+1) w w'->Blk g e w' (cs.set o u)->K w'):OPU P (Instr.storeAt t (.pointer (some ⟨g,o,none⟩)) u) w K:=by
 obtain ⟨F,⟨⟨cs',hr,hv⟩,_⟩,_⟩:=hu;have g0:=Rep.len hr;rw [h1] at g0;obtain ⟨c,rfl⟩:=qbe.1 g0;have g1:u=c:=by simpa [mkv,ha] using hv
 subst g1;refine zwt (by rw [h1,ha];exact ht) hB hr hv oo λw' hc g2=>k w' (hc.toI sS) ?_
 have:cs.set o u=cs.take o++[u]++cs.drop (o+1):=by
   rw [qbv,if_pos ho];simp
 rw [this];exact g2
def Blk.chgI {g e a b:Nat} {w':World} {cs:List Value} (h:Blk g e w cs) (hc:ChgI a b w w') (hd:g<a\/b<=g):Blk g e w' cs:=h.keep (hc.block g h.lt hd)
def zgb {a b c:Value} {s:DState} {lo hi l0 h0 l1 h1 l2 h2:Nat} (m0:OwnI l0 h0 w a s.vars) (m1:OwnI l1 h1 w b s.owner) (m2:OwnI l2 h2 w c s.stacks) (d01:h0<=l1\/h1<=l0) (d02:h0<=l2\/h2<=l0) (d12:h1<=l2\/h2<=l1)
   (b0:lo<=l0/\h0<=hi) (b1:lo<=l1/\h1<=hi) (b2:lo<=l2/\h2<=hi):OwnI lo hi w (.agg #[a,b,c]) s:=by
 obtain ⟨F0,M0,B0⟩:=m0;obtain ⟨F1,M1,B1⟩:=m1;obtain ⟨F2,M2,B2⟩:=m2;refine ⟨F0++(F1++F2),zuP M0 M1 M2 ?_,λx hx=>?_⟩
 . rw [qao,qao]
   refine ⟨M0.nodup,⟨M1.nodup,M2.nodup,λp hp q hq e=>?_⟩,λp hp q hq e=>?_⟩
   . subst e;have:=B1 p hp;have:=B2 p hq;omega
   subst e;have:=B0 p hp;rcases qae.1 hq with hq | hq
   . have:=B1 p hq;omega
   have:=B2 p hq;omega
 rcases qae.1 hx with hx | hx
 . have:=B0 x hx;omega
 rcases qae.1 hx with hx | hx
 . have:=B1 x hx;omega
 have:=B2 x hx;omega
end
end Go.Sh
namespace Go.Sh
open Rep (rep)
section
variable {P:Program} {w:World} {α:Type} [Rep α] {e:Nat}
theorem zda {w:World}:∀ {l:List ByteArray},(∀ x∈l,x.size<=maxLen)->Cells [] w (l.map Value.string) l
 | [],_=>⟨rfl,rfl⟩
 | x :: l,h=>⟨[],[],[.string x],l.map Value.string,rfl,rfl,⟨rfl,rfl,h x sS⟩,zda λy hy=>h y (by simp [hy])⟩
theorem zjU {w:World}:∀ {l:List Int},(∀ x∈l,I64 x)->Cells [] w (l.map (Value.int .i64)) l
 | [],_=>⟨rfl,rfl⟩
 | x :: l,h=>⟨[],[],[.int .i64 x],l.map (Value.int .i64),rfl,rfl,⟨rfl,rfl,h x sS⟩,zjU λy hy=>h y (by simp [hy])⟩
theorem zhh {t:TypeId} {by_ n:Nat} {z:Value} {vs:List Value} {parts:Array (Nat×Value)} {l:List α} {K:VW} (ht:P.underlying t=some (.slice e)) (he:tyI P e=some (1,by_,false)) (hz:zcz P e=some [z])
   (hn:0<n/\n<=1000) (hf:Instr.fill (λi=>some (i*1,1)) ((Array.range (n*1)).map λi=>(#[z])[i%1]!) parts.toList=some vs.toArray) (hl:l.length=n) (hc:∀ w,Cells [] w vs l)
   (k:∀ v w',Ext w w'->OwnI w.heap.size w'.heap.size w' v l->K v w'):OP P (Instr.buildSlice t n parts) w K:=by
 unfold zcz at hz;cases hi:P.info? e with
 | none=>simp [hi] at hz
 | some i=>
   simp only [hi] at hz;obtain ⟨v,hv,g2⟩:=qaU.1 hz;have g0:v.cells=#[z]:=qce (by simpa using g2);have hB:Blk w.heap.size e (w.alloc (.cells vs.toArray e)) vs:=heap_alloc_new w _;have g1:w.heap.size<(w.alloc (.cells vs.toArray e)).heap.size:=hB.lt;refine ⟨.slice (some ⟨w.heap.size,0,none⟩) n n,w.alloc (.cells vs.toArray e),?_,k _ _ (za6 w _) ⟨[w.heap.size],⟨⟨_,⟨some ⟨w.heap.size,0,none⟩,n,[],vs,rfl,oo,by rw [zal];omega,hc _,.inr ⟨_,_,rfl,rfl,hB.range,g1⟩⟩,by rw [hl];rfl⟩,sS,λb hb=>?_⟩,λb hb=>?_⟩⟩
   . have g3:¬n*1=0:=oo
     have g4:¬2^24<n*1:=oo
     have g5:(zeroValue e).run P w=.ok v w:=by simp [zeroValue,typeInfo,hi,hv]
     simp only [Instr.buildSlice,Sem.run_bind,run_underlying ht,Result.andThen_ok,zaS he];simp only [g4,g3,if_false,Sem.run_bind,Sem.run_pure,Result.andThen_ok,g5,g0];rw [show (λx=>(#[z]:Array Value)[x%(#[z]:Array Value).size]!)=λi=>(#[z]:Array Value)[i%1]! from rfl,hf];rfl
   . simp only [qaa,qac,or_false] at hb
     subst hb;exact ⟨_,_,hB⟩
   simp only [qaa,qac,or_false] at hb;subst hb;exact ⟨qas _,g1⟩
def zzS (u v:Value) (cells:Array Value) (s:Nat) (hu:u.cells.size=s) (hv:v.cells.size=s) (hc:cells.size=2*s) :
   Instr.fill (λi=>some (i*s,s)) cells [(0,u),(1,v)]=some (u.cells++v.cells):=by
 have g1:∀ (x:Value) (g0:Nat) (cs:Array Value),x.cells.zipIdx.foldl (λ(cs:Array Value) (p:Value×Nat)=>match p with | (c,j)=>cs.setIfInBounds (g0+j) c) cs
     = (x.cells.toList.zipIdx 0).foldl (λ(cs:Array Value) (p:Value×Nat)=>cs.setIfInBounds (g0+p.2) p.1) cs:=by
   intro x g0 cs;rw [<-Array.foldl_toList,Array.toList_zipIdx]
 unfold Instr.fill;simp only [Nat.zero_mul];rw [if_neg (by simp;omega)];rw [g1];obtain ⟨h1,h2⟩:=zk3 0 u.cells.toList 0 cells;generalize (u.cells.toList.zipIdx 0).foldl (λ(cs:Array Value) (p:Value×Nat)=>cs.setIfInBounds (0+p.2) p.1) cells=c1 at *;unfold Instr.fill;simp only [qbS];rw [if_neg (by simp;omega)];unfold Instr.fill;rw [g1];obtain ⟨h3,h4⟩:=zk3 s v.cells.toList 0 c1;generalize (v.cells.toList.zipIdx 0).foldl (λ(cs:Array Value) (p:Value×Nat)=>cs.setIfInBounds (s+p.2) p.1) c1=c2 at *;congr 1;apply Array.ext_getElem?;intro i;rw [h4,h2,Array.getElem?_append];simp only [qaB,qcf,qa9,Array.getElem?_toList,Nat.sub_zero];by_cases hi:i<s
 . rw [if_neg oo,if_pos oo,if_pos oo]
 by_cases hi2:i<2*s
 . rw [if_pos oo,if_neg oo,hu]
 rw [if_neg oo,if_neg oo,if_neg oo,Array.getElem?_eq_none oo,Array.getElem?_eq_none oo]
def zu8 {t:TypeId} {by_:Nat} {u v:Value} {x y:α} {lo l0 h0 l1 h1:Nat} {K:VW} (ht:P.underlying t=some (.slice e)) (he:tyI P e=some (Rep.size α,by_,Rep.agg α)) (hz:zb1 P e=true) (hsz:Rep.size α<=1000)
   (hx:OwnI l0 h0 w u x) (hy:OwnI l1 h1 w v y) (hd:h0<=l1\/h1<=l0) (hl:lo<=l0/\lo<=l1/\lo<=w.heap.size)
   (k:∀ v' w',Ext w w'->OwnI lo w'.heap.size w' v' [x,y]->K v' w'):OP P (Instr.buildSlice t 2 #[(0,u),(1,v)]) w K:=by
 obtain ⟨F,⟨⟨cs,hr,rfl⟩,hn,hw⟩,hF⟩:=hx;obtain ⟨G,⟨⟨ds,g2,rfl⟩,gf,gg⟩,hG⟩:=hy;have g3:=Rep.len hr;have g0:=Rep.len g2;have g5:=zff hr;have g1:=zff g2;have gh:(mkv α cs).cells.size=Rep.size α:=by rw [<-qaB,g5,g3]
 have g4:(mkv α ds).cells.size=Rep.size α:=by rw [<-qaB,g1,g0]
 obtain ⟨i,d,hi,hd',hs,hby,hg⟩:=zdC he;unfold zb1 at hz;rw [hi] at hz;obtain ⟨z,hz⟩:=qbq.1 hz;have gi:=Rep.pos (α:=α);have r:=za6 w (.cells ((mkv α cs).cells++(mkv α ds).cells) e);have hB:(w.alloc (.cells ((mkv α cs).cells++(mkv α ds).cells) e)).heap[w.heap.size]?=some (.cells ((mkv α cs).cells++(mkv α ds).cells) e (0,0)):=heap_alloc_new w _
 have g9:Blk w.heap.size e (w.alloc (.cells ((mkv α cs).cells++(mkv α ds).cells) e)) (cs++ds):=by
   unfold Blk;rw [hB];congr 2;apply qce;simp [g5,g1]
 have gb:=g9.lt;have gc:=Rep.lt hr;have gd:=Rep.lt g2;refine ⟨.slice (some ⟨w.heap.size,0,none⟩) 2 2,_,?_,k _ _ r ⟨w.heap.size :: (F++G),⟨⟨_,⟨some ⟨w.heap.size,0,none⟩,2,F++G,cs++ds,rfl,lr _,by rw [zal];omega,⟨F,G,cs,ds,rfl,rfl,zcr hr r,Cells.single (zcr g2 r)⟩,.inr ⟨_,_,rfl,rfl,g9.range,gb⟩⟩,rfl⟩,?_,?_⟩,?_⟩⟩
 . have gj:¬2*Rep.size α=0:=oo
   have gl:¬2^24<2*Rep.size α:=oo
   have gp:(zeroValue e).run P w=.ok z w:=by simp [zeroValue,typeInfo,hi,hz]
   simp only [Instr.buildSlice,Sem.run_bind,run_underlying ht,Result.andThen_ok,zaS he];simp only [gl,gj,if_false,Sem.run_bind,Sem.run_pure,Result.andThen_ok,gp];rw [zzS _ _ _ _ gh g4 sS];rfl
 . rw [qaM,qao]
   refine ⟨λhm=>?_,hn,gf,λp hp q hq e=>?_⟩
   . rcases qae.1 hm with hm | hm
     . exact Nat.lt_irrefl _ (gc _ hm)
     exact Nat.lt_irrefl _ (gd _ hm)
   subst e;have:=hF p hp;have:=hG p hq;omega
 . intro b hb
   rcases qaa.1 hb with rfl | hb
   . exact ⟨_,_,hB⟩
   rcases qae.1 hb with hb | hb
   . exact (hw.ext r) b hb
   exact (gg.ext r) b hb
 intro b hb;rcases qaa.1 hb with rfl | hb
 . exact ⟨hl.2.2,gb⟩
 rcases qae.1 hb with hb | hb
 . have:=hF b hb;have:=gc b hb;omega
 have:=hG b hb;have:=gd b hb;omega
def zjV {t ty:TypeId} {by_:Nat} {v gf:Value} {l m:List α} {lo0 lo hi l1 h1:Nat} {K:VW} (ht:P.underlying t=some (.slice e)) (he:tyI P e=some (Rep.size α,by_,Rep.agg α))
   (gb:(P.info? e).map (λi=>(i.zero.map (·.cells.size)))=some (some (Rep.size α))) (hv:RowI lo hi e w v l) (hlo:lo<=w.heap.size) (hs:OwnI l1 h1 w gf m) (hd:hi<=l1\/h1<=lo) (h0:lo0<=lo) (hl:lo0<=l1) (hm:l.length+m.length<=maxLen) (hb:(l.length+m.length)*by_<=140737488355328)
   (k:∀ v' w',ChgI lo hi w w'->RowI lo0 w'.heap.size e w' v' (l++m)->K v' w'):OP P (Builtin.append_ #[t,t] ty [v,gf].toArray) w K:=by
 obtain ⟨Fs,⟨⟨cs,⟨a,cap,Fi,xs,rfl,g1,g2,hc,h4⟩,g0⟩,gg,hw⟩,gh⟩:=hs;simp only [mkv,Rep.agg,cond_false,qbk] at g0;subst g0
 have g3:(∀ b∈Fi,l1<=b/\b<h1)/\Fi.Nodup/\Wr Fi w:=by
   rcases h4 with ⟨rfl,rfl⟩ | ⟨b,o,rfl,rfl,hr,hb'⟩
   . obtain ⟨rfl,rfl⟩:=hc
     exact ⟨(λb hb=>by cases hb),qaq,Wr.nil w⟩
   exact ⟨λc hc=>gh c (by simp [hc]),(qaM.1 gg).2,hw.sub (by simp +contextual)⟩
 have g9:∀ (v:Value) (F:List Nat),RowF F e w v l->F.Nodup->(∀ b∈F,lo<=b/\b<hi)->OP P (Builtin.append_ #[t,t] ty [v,.slice a m.length cap].toArray) w K:=by
   intro v F hF g4 r
   refine zf3 (m:=m) ht he gb hF g4 rfl hc (by
     rcases h4 with h | ⟨b,o,ha,_,hr,_⟩
     . exact .inl h.1
     exact .inr ⟨b,o,ha,hr⟩) g3.2.2 ?_ hm hb λv' w' F' gi gc gd gj gl=>?_
   . rw [qao]
     refine ⟨g3.2.1,g4,λp hp q hq e=>?_⟩;subst e;have:=g3.1 p hp;have:=r p hq;omega
   have g5:∀ c∈v.ownBlock.toList,lo<=c/\c<hi:=λc hc=>by
     obtain ⟨xs,Fi,_,_,rfl,_⟩:=hF;exact r c (by simp only [qae];exact .inl hc)
   refine k v' w' (gi.toI g5) (.inr ⟨F',gd,gj,λc hc=>⟨?_,gd.lt c hc⟩⟩);rcases gl c hc with h | h | h
   . have:=(r c h).1;omega
   . have:=g3.1 c h;omega
   omega
 rcases hv with ⟨a0,rfl,rfl⟩ | ⟨F,hF,g4,r⟩
 . have kn:=g9 (.slice none 0 0) [] (ziW e w) qaq sS
   cases a0 with
   | none=>exact kn
   | some x0=>
     by_cases hm0:m=[]
     . subst hm0
       refine ⟨.slice (some x0) 0 0,w,?_,k _ w (ChgI.refl w) (zcx _ _ _ _ _)⟩
       have hf:(Builtin.firstCells (Rep.size α) 0 (.slice a 0 cap)).run P w=.ok #[] w:=by
         cases a with
         | none=>rfl
         | some a=>simp [Builtin.firstCells,loadCells,loadCellsFrom]
       simp [Builtin.append_,run_underlying ht,zaS he,Builtin.lenOf,hf,storeCells]
     rcases h4 with h | ⟨b,o,rfl,_,hr,_⟩
     . exact absurd h.1 hm0
     exact zk4 (zgE (α:=α) ht he gb (Cells.len hc) hr (qaN.2 hm0) (by simpa using hm) (by simpa using hb)) kn
 exact g9 v F hF g4 r
def zu9 {t ty:TypeId} {by_:Nat} {v src:Value} {l m:List α} {lo hi l1 h1:Nat} {K:VW} (ht:P.underlying t=some (.slice e)) (he:tyI P e=some (Rep.size α,by_,Rep.agg α))
   (hzc:(P.info? e).map (λi=>(i.zero.map (·.cells.size)))=some (some (Rep.size α))) (hv:RowI lo hi e w v l) (hlo:lo<=w.heap.size) (hs:OwnI l1 h1 w src m) (hd:hi<=l1\/h1<=lo) (hl:lo<=l1) (hm:l.length+m.length<=maxLen) (hb:(l.length+m.length)*by_<=140737488355328)
   (k:∀ v' w',ChgI lo hi w w'->RowI lo w'.heap.size e w' v' (l++m)->K v' w'):OP P (Builtin.append_ #[t,t] ty [v,src].toArray) w K:=zjV ht he hzc hv hlo hs hd (lr _) hl hm hb k
end
end Go.Sh
namespace Go.Sh
open Rep (rep)
instance:Rep UInt8 where
 size:=1
 agg:=false
 rep F _ cs x:=F=[]/\cs=[.int .u8 (x.toNat:Int)]
 pos:=by decide
 sz _:=rfl
 len:=by rintro _ _ _ _ ⟨_,rfl⟩;rfl
 one:=by rintro _ _ _ _ ⟨_,rfl⟩ v hv;simp at hv;subst hv;rfl
 keep:=by rintro _ _ _ _ _ h _;exact h
 lt:=by rintro _ _ _ _ ⟨rfl,_⟩ b hb;cases hb
instance:Flat UInt8:=⟨λh=>h.1⟩
instance:RepZ UInt8:=⟨0,[.int .u8 0],λ_=>⟨rfl,rfl⟩⟩
section
variable {P:Program} {w w0:World} {K:Value->Prop} {t:TypeId} {x y:Operand}
def zE4 {v:Value} {b:UInt8}:Is w v b↔v=.int .u8 (b.toNat:Int):=by
 constructor
 . rintro ⟨F,cs,⟨_,rfl⟩,rfl⟩;rfl
 rintro rfl;exact ⟨[],_,⟨rfl,rfl⟩,rfl⟩
def ztI {t by_ b o:Nat} {x:UInt8} (ht:tyI P t=some (1,by_,false)) (h:At w0 b o x) (hx:Ext w0 w) (k:K (.int .u8 (x.toNat:Int))) :
   RD P (Instr.loadAt t (.pointer (some ⟨b,o,none⟩))) w K:=
 zaa (α:=UInt8) ht h hx λv hv=>by obtain rfl:=zE4.1 hv;exact k
end
end Go.Sh
namespace Go.Proofs.YtcnglfeoglgebaaGreat
open Go Go.Sh Go.Proofs
open Rep (rep)
variable {W w:World} {d:Int} {g g2 g3 i n:Nat} {v1:Value}
def zEl:zcz tp 3=some [.int .i64 0]:=by kernel_rfl
def zcV:zcz tp 9=some [.string ByteArray.empty]:=by kernel_rfl
def CurAt (W:World) (g:Nat) (bs:List UInt8) (s:Cur) (w:World):Prop:=
 ∃ v,Is W v bs/\Ext W w/\W.heap.size<=g/\Blk g 125 w [v,.int .i64 (s.i:Int),.int .i64 s.h]/\s.i<=bs.length/\bs.length<=1048576
section
variable {W w w':World} {g a b:Nat} {bs:List UInt8} {s:Cur}
def CurAt.lt (h:CurAt W g bs s w):W.heap.size<=g/\g<w.heap.size:=by
 obtain ⟨v,_,_,h1,h2,_⟩:=h;exact ⟨h1,h2.lt⟩
def CurAt.ext (h:CurAt W g bs s w) (hx:Ext w w'):CurAt W g bs s w':=by
 obtain ⟨v,h0,h1,h2,h3,h4⟩:=h;exact ⟨v,h0,h1.trans hx,h2,h3.ext hx,h4⟩
def CurAt.chg (h:CurAt W g bs s w) (hc:ChgI a b w w') (h1:W.heap.size<=a) (hd:g<a\/b<=g):CurAt W g bs s w':=by
 obtain ⟨v,h0,hx,h2,h3,h4⟩:=h;exact ⟨v,h0,hx.chgI hc h1,h2,h3.chgI hc hd,h4⟩
def ChgI.out {c:World} {lo hi x y:Nat} (h:ChgI x y w w') (k:ChgI lo hi w' c) (hl:w.heap.size<=lo):ChgI x y w c:=
 ⟨k.os.trans h.os,k.tape.trans h.tape,k.output.trans h.output,qan h.size k.size,λi hi ho=>(k.block i (qal hi h.size) oo).trans (h.block i hi ho)⟩
end
def ze8 {bs:List UInt8} {s:Cur} (hC:CurAt W g bs s w) :
   CALL tp 50 [.pointer (some ⟨g,0,none⟩)] w λr w'=>ChgI g (g+1) w w'/\CurAt W g bs (zdV bs s) w'/\r=.int .i64 (zjO bs s):=by
 obtain ⟨v,hv,hx,hg,hB,hi,hl⟩:=hC;refine co (g:=kf [] [] [(2,[0,1,2,3,4,5,6,7,8,9,10,11,12],0),(3,[0,1,2,3,4,5,6,7,8,9],0),(4,[0,1,2,3,4,5,6,7,8,9,10,11,12,13,14],0)]) Tryz.func50 ?_;refine NIL.mk rfl<|zab zoD<|zax ty3 hB rfl<|zCu<|zwH<|NIL.mk rfl<|zab zoD<|zbW (α:=Int) ty3 rfl rfl hB sS (ownI_int (lo:=0) (hi:=0) (zCt _)) λw1 gh gi=>?_;have gd:=zah w1;have g4:=gi.ext gd;have gj:=gh.trans gd.toI;have hvl:=zaj hv;refine NIL.mk rfl<|zab zoD<|zax ty3 g4 rfl<|zwI (n:=33)<|NIL.mk rfl<|zab zoD<|zax ty3 g4 rfl<|zwI (n:=45)<|zCv<|zr1 ?_;have gf:=zah (World.drew1 w1);have g1:=g4.ext gf;have g5:=gj.trans gf.toI;refine NIL.mk rfl<|zab zoC<|zax ty3 g1 rfl<|NIL.mk rfl<|zab zxf<|zax zFd g1 rfl<|zae u22 hv ?_;have g0:Ext W (World.drew1 (World.drew1 w1)):=hx.chgI g5 hg;obtain ⟨bx,g2⟩:∃ x,x=zzO (zu3 s.h):=⟨_,rfl⟩;have e0:zuT (zET (zDU (zrI (zrI (s.h*6364136223846793005)+1442695040888963407)) 33) (zDU (zrI (zrI (s.h*6364136223846793005)+1442695040888963407)) 45)) 255=bx:=g2.symm;have hbl:0<=bx/\bx<=255:=by rw [g2];exact zoB _ (n:=255) oo
 rw [e0];refine zag<|br (λC=>?_) (λg9=>?_)
 . have C:s.i<bs.length:=oo
   have gb:=zah (World.drew1 (World.drew1 w1));have g3:=g1.ext gb;have gl:=g5.trans gb.toI;have gc:=g0.trans gb;refine NIL.mk rfl<|zab zxf<|zax zFd g3 rfl<|NIL.mk rfl<|zab zoC<|zax ty3 g3 rfl<|zad u22 ty5 (i:=s.i) hv C λb o hA=>ztI ty5 hA gc ?_;have gp:=UInt8.toNat_lt (bs[s.i]);refine zwJ kK u3 oo<|zwH<|zr1<|NIL.mk rfl<|zab zoC<|zax ty3 g3 rfl<|zau<|NIL.mk rfl<|zab zoC<|zbW (α:=Int) ty3 rfl rfl g3 sS (ownI_int (lo:=0) (hi:=0) (by unfold I64;omega)) λw5 gq gr=>?_;have gg:=gl.trans gq;refine ⟨gg,⟨v,hv,hx.chgI gg hg,hg,?_,?_,hl⟩,?_⟩
   rotate_left 2
   . have hq:zjO bs s=zuT (bx+(bs[s.i].toNat:Int)) 255:=by
       unfold zjO;rw [List.getElem?_eq_getElem C,g2]
     rw [hq,zwG (by unfold I64;omega)]
   . have:zdV bs s=⟨s.i+1,zu3 s.h⟩:=by unfold zdV;rw [if_pos C]
     rw [this];exact gr
   show (if s.i<bs.length then s.i+1 else s.i)<=_;rw [if_pos C];omega
 have g9:¬s.i<bs.length:=oo
 refine ⟨g5,⟨v,hv,g0,hg,?_,?_,hl⟩,?_⟩
 rotate_left 2
 . have hq:zjO bs s=bx:=by
     unfold zjO;rw [List.getElem?_eq_none oo,g2]
   rw [hq]
 . have:zdV bs s=⟨s.i,zu3 s.h⟩:=by unfold zdV;rw [if_neg g9]
   rw [this];exact g1
 show (if s.i<bs.length then s.i+1 else s.i)<=_;rw [if_neg g9];exact hi
def zcW {bs:List UInt8} {s:Cur} {n:Int}  (hC:CurAt W g bs s w) (hn:n<=1000000000000) :
   CALL tp 51 [.pointer (some ⟨g,0,none⟩),.int .i64 n] w λr w'=>ChgI g (g+1) w w'/\(CurAt W g bs (zap bs n s) w'/\r=.int .i64 (zbN bs n s)):=by
 refine co (g:=kf [] [] []) Tryz.func51 ?_;have hgl:=hC.lt;have b1:=zfB bs s;have b2:=zfB bs (zdV bs s);have b3:=zfB bs (zdV bs (zdV bs s));have b4:=zfB bs (zdV bs (zdV bs (zdV bs s)));refine zdT<|br (λc1=>?_) (λc1=>?_)
 . refine ⟨(ChgI.refl w),?_⟩
   unfold zap zbN;rw [if_pos c1,if_pos c1];exact ⟨hC,rfl⟩
 refine zdT<|br (λc2=>?_) (λc2=>?_)
 . refine (ze8 hC).mono ?_
   rintro _ w1_ ⟨C,g5,rfl⟩;have g0:=C.size;have g0:=C.size;refine zkx oo<|⟨C,?_⟩;unfold zap zbN;rw [if_neg c1,if_neg c1,if_pos c2,if_pos c2];exact ⟨g5,rfl⟩
 refine (ze8 hC).mono ?_;rintro _ w2_ ⟨D,g9,rfl⟩;have g1:=D.size;have g1:=D.size;refine (ze8 g9).mono ?_;rintro _ w3_ ⟨I,gb,rfl⟩;have g2:=I.size;have g2:=I.size;refine (ze8 gb).mono ?_;rintro _ w4_ ⟨M,gc,rfl⟩;have g3:=M.size;have g3:=M.size;refine (ze8 gc).mono ?_;rintro _ w5_ ⟨O,gd,rfl⟩;have g4:=O.size;have g4:=O.size;refine znw (by unfold I64;omega)<|znw (by unfold I64;omega)<|zc1 (by unfold I64;omega)<|znw (by unfold I64;omega)<|zc1 (by unfold I64;omega)<|zc1 (by unfold I64;omega)<|zkx oo<|⟨(ChgI.trans (ChgI.trans (ChgI.trans D I) M) O),?_⟩;unfold zap zbN;rw [if_neg c1,if_neg c1,if_neg c2,if_neg c2];exact ⟨gd,rfl⟩
def zhK {bs:List UInt8} {s:Cur} {n:Int}  (hC:CurAt W g bs s w) (hn:n<=1000000000000) :
   CALL tp 93 [.pointer (some ⟨g,0,none⟩),.int .i64 n] w λr w'=>ChgI g (g+1) w w'/\(CurAt W g bs (zap bs n s) w'/\r=.bool (decide (zbN bs n s=0))):=by
 refine co (g:=kf [] [] []) Tryz.func93 ?_;refine (zcW hC oo).mono ?_;rintro _ w1_ ⟨g0,g1,rfl⟩;refine zai<|⟨g0,?_⟩;exact ⟨g1,rfl⟩
def zfo {α:Type} {l:List α} {d:α} (h:i<l.length):l[i]=l.getD i d:=by rw [List.getD_eq_getElem?_getD,List.getElem?_eq_getElem h];rfl
def zdK {bs:List UInt8} {s:Cur} {l:(List ByteArray)}  (hC:CurAt W g bs s w) (h1:OwnI g2 g3 w v1 l) (gc:g2<=w.heap.size) (gd:g3<=w.heap.size) (hg1:g<g2\/g3<=g) (h0:0<l.length) (hn:l.length<=1000) :
   CALL tp 129 [.pointer (some ⟨g,0,none⟩),v1] w λr w'=>ChgI g (g+1) w w'/\(CurAt W g bs (zap bs (l.length:Int) s) w'/\r=.string (zdl bs l s)/\(zdl bs l s).size<=maxLen):=by
 refine co (g:=kf [] [] []) Tryz.func129 ?_;have hgl:=hC.lt;have hbx:=zcM bs (n:=(l.length:Int)) oo s;have g4:=zaj h1.is;refine zae u24 h1.is ?_;refine (zcW hC oo).mono ?_;rintro _ g5 ⟨C,g1,rfl⟩;have g0:=C.size;have g0:=C.size;have h1_c1:=(h1.ext (xrf w)).chg C oo;refine zaL u24 ty9 h1_c1.is oo oo λb10 o10 g9=>zaB ty9 g9 (xrf g5) λgb=>⟨C,?_⟩;refine ⟨g1,?_,?_⟩
 . unfold zdl;rw [<-zfo oo]
 unfold zdl;rw [<-zfo oo];assumption
def zi0 {bs:List UInt8} {s:Cur} {l:(List Int)}  (hC:CurAt W g bs s w) (h1:OwnI g2 g3 w v1 l) (gc:g2<=w.heap.size) (gd:g3<=w.heap.size) (hg1:g<g2\/g3<=g) (h0:0<l.length) (hn:l.length<=1000) :
   CALL tp 128 [.pointer (some ⟨g,0,none⟩),v1] w λr w'=>ChgI g (g+1) w w'/\(CurAt W g bs (zap bs (l.length:Int) s) w'/\r=.int .i64 (zjP bs l s)/\I64 (zjP bs l s)):=by
 refine co (g:=kf [] [] []) Tryz.func128 ?_;have hgl:=hC.lt;have hbx:=zcM bs (n:=(l.length:Int)) oo s;have g4:=zaj h1.is;refine zae u33 h1.is ?_;refine (zcW hC oo).mono ?_;rintro _ g5 ⟨C,g1,rfl⟩;have g0:=C.size;have g0:=C.size;have h1_c1:=(h1.ext (xrf w)).chg C oo;refine zaL u33 ty3 h1_c1.is oo oo λb10 o10 g9=>zac ty3 g9 (xrf g5) λgb=>⟨C,?_⟩;refine ⟨g1,?_,?_⟩
 . unfold zjP;rw [<-zfo oo]
 unfold zjP;rw [<-zfo oo];assumption
section
variable {w:World} {lo hi l0 h0 l1 h1:Nat} {K:Value->Prop}
def zgc {α:Type} [Rep α] {v:Value} {l:List α} (h:OwnI lo hi w v l):∃ a cap,v=.slice a l.length cap:=by
 obtain ⟨F,⟨⟨cs,⟨a,cap,Fi,xs,rfl,_⟩,hv⟩,_⟩,_⟩:=h;exact ⟨a,cap,by simpa [mkv,Rep.agg] using hv⟩
def zcN {α:Type} [Rep α]:OwnI (α:=List α) lo hi w (.slice none 0 0) []:=zdz none
def zl0:I64 0:=by unfold I64;omega
def zjW:nO.size<=maxLen:=by decide
def zse {a b:Int} (ha:I64 a) (hb:I64 b) (k:∀ v,OwnI lo hi w v (DTerm.mk a b nO [])->K v):RD tp (Instr.build 53 #[(0,.int .i64 a),(1,.int .i64 b)]) w K:=
 zaX (cells:=#[.int .i64 a,.int .i64 b,.string nO,.slice none 0 0]) kK (k _ (zf6 ha hb zjW zcN))
def zsf {a:Int} {s:ByteArray} (ha:I64 a) (hs:s.size<=maxLen) (k:∀ v,OwnI lo hi w v (DTerm.mk a 0 s [])->K v):RD tp (Instr.build 53 #[(0,.int .i64 a),(2,.string s)]) w K:=
 zaX (cells:=#[.int .i64 a,.int .i64 0,.string s,.slice none 0 0]) kK (k _ (zf6 ha zl0 hs zcN))
def zl1 {a:Int} {u:Value} {l:List DTerm} (ha:I64 a) (hu:OwnI lo hi w u l) (k:∀ v,OwnI lo hi w v (DTerm.mk a 0 nO l)->K v):RD tp (Instr.build 53 #[(0,.int .i64 a),(3,u)]) w K:=by
 obtain ⟨p,q,rfl⟩:=zgc hu;exact zaX (cells:=#[.int .i64 a,.int .i64 0,.string nO,.slice p l.length q]) kK (k _ (zf6 ha zl0 zjW hu))
def zgd:OwnI lo hi w (.agg #[.int .i64 0,.int .i64 0,.string nO,.slice none 0 0]) term0:=zf6 zl0 zl0 zjW zcN
def mkS {k:Int} {s:ByteArray} {t:DTerm} {c0 c1 c2 c3 vb ve:Value} {bs es:List DStmt} {l0 h0 l1 h1 l2 h2:Nat} (hk:I64 k) (hs:s.size<=maxLen) (ht:OwnI l0 h0 w (.agg #[c0,c1,c2,c3]) t) (hb:OwnI l1 h1 w vb bs) (he:OwnI l2 h2 w ve es)
   (d01:h0<=l1\/h1<=l0) (d02:h0<=l2\/h2<=l0) (d12:h1<=l2\/h2<=l1) (b0:lo<=l0/\h0<=hi) (b1:lo<=l1/\h1<=hi) (b2:lo<=l2/\h2<=hi) :
   OwnI lo hi w (.agg #[.int .i64 k,.string s,c0,c1,c2,c3,vb,ve]) (DStmt.mk k s t bs es):=zwF hk hs ht hb he d01 d02 d12 b0 b1 b2
def znN {a:Int} (hl:lo<=hi) (ha:I64 a) (k:∀ v,OwnI lo hi w v (DStmt.mk a nO term0 [] [])->K v):RD tp (Instr.build 56 #[(0,.int .i64 a)]) w K:=
 zaX (cells:=#[.int .i64 a,.string nO,.int .i64 0,.int .i64 0,.string nO,.slice none 0 0,.slice none 0 0,.slice none 0 0]) kK
   (k _ (mkS (l0:=lo) (h0:=lo) (l1:=lo) (h1:=lo) (l2:=lo) (h2:=lo) ha zjW zgd zcN zcN oo oo oo oo oo oo))
def zdm {a:Int} {s:ByteArray} (hl:lo<=hi) (ha:I64 a) (hs:s.size<=maxLen) (k:∀ v,OwnI lo hi w v (DStmt.mk a s term0 [] [])->K v):RD tp (Instr.build 56 #[(0,.int .i64 a),(1,.string s)]) w K:=
 zaX (cells:=#[.int .i64 a,.string s,.int .i64 0,.int .i64 0,.string nO,.slice none 0 0,.slice none 0 0,.slice none 0 0]) kK
   (k _ (mkS (l0:=lo) (h0:=lo) (l1:=lo) (h1:=lo) (l2:=lo) (h2:=lo) ha hs zgd zcN zcN oo oo oo oo oo oo))
def zqo {a:Int} {s:ByteArray} {u:Value} {t:DTerm} (hl:lo<=hi) (ha:I64 a) (hs:s.size<=maxLen) (hu:OwnI lo hi w u t) (k:∀ v,OwnI lo hi w v (DStmt.mk a s t [] [])->K v):RD tp (Instr.build 56 #[(0,.int .i64 a),(1,.string s),(2,u)]) w K:=by
 obtain ⟨p,q,rfl⟩:=zhH hu.is
 exact zaX (cells:=#[.int .i64 a,.string s,.int .i64 t.kind,.int .i64 t.num,.string t.name,.slice p t.kids.length q,.slice none 0 0,.slice none 0 0]) kK
   (k _ (mkS (l1:=lo) (h1:=lo) (l2:=lo) (h2:=lo) ha hs hu zcN zcN oo oo oo oo oo oo))
def zkE {a:Int} {u v1:Value} {t:DTerm} {bs:List DStmt} (ha:I64 a) (hu:OwnI l0 h0 w u t) (hv:OwnI l1 h1 w v1 bs) (d:h0<=l1\/h1<=l0) (b0:lo<=l0/\h0<=hi) (b1:lo<=l1/\h1<=hi) (hl:lo<=hi)
   (k:∀ v,OwnI lo hi w v (DStmt.mk a nO t bs [])->K v):RD tp (Instr.build 56 #[(0,.int .i64 a),(2,u),(3,v1)]) w K:=by
 obtain ⟨p,q,rfl⟩:=zhH hu.is;obtain ⟨p2,q2,rfl⟩:=zgc hv;refine zaX (cells:=#[.int .i64 a,.string nO,.int .i64 t.kind,.int .i64 t.num,.string t.name,.slice p t.kids.length q,.slice p2 bs.length q2,.slice none 0 0]) kK (k _ ?_);rcases d with d | d
 . exact mkS (l2:=min lo l0) (h2:=min lo l0) ha zjW hu hv zcN (.inl d) oo oo b0 b1 oo
 exact mkS (l2:=min lo l0) (h2:=min lo l0) ha zjW hu hv zcN (.inr d) oo oo b0 b1 oo
end
section
variable {bs:List UInt8} {n:Nat} {s:Cur}
theorem zqp (h:zfm bs n s<3):zaD bs n s=(.mk 1 (zjP bs zCJ (zap bs 12 s)) nO [],zap bs 8 (zap bs 12 s)):=by
 cases n with
 | zero=>rw [zaD,if_pos h]
 | succ n=>rw [zaD,if_pos h]
theorem zqq (h:¬zfm bs n s<3) (h2:zfm bs n s<6):zaD bs n s=(.mk 2 0 (zdl bs zwd (zap bs 12 s)) [],zap bs 5 (zap bs 12 s)):=by
 cases n with
 | zero=>rw [zaD,if_neg h]
 | succ n=>rw [zaD,if_neg h,if_pos h2]
theorem zfC (h2:¬zfm bs n s<6):0<n:=by
 cases n with
 | zero=>have:=zCK bs s;omega
 | succ n=>omega
def zqr (h:¬zfm bs n s<3) (h2:¬zfm bs n s<6) (h3:zfm bs n s=6):zaD bs n s=(.mk 8 0 nO [(zaD bs (n-1) (zap bs 12 s)).1],(zaD bs (n-1) (zap bs 12 s)).2):=by
 have:=zfC h2;obtain ⟨m,rfl⟩:∃ m,n=m+1:=⟨n-1,oo⟩;rw [zaD,if_neg h,if_neg h2,if_pos h3];rfl
def zqs (h:¬zfm bs n s<3) (h2:¬zfm bs n s<6) (h3:¬zfm bs n s=6):zaD bs n s=(.mk (zjP bs opL (zap bs 12 s)) 0 nO [(zaD bs (n-1) (zap bs 6 (zap bs 12 s))).1,(zaD bs (n-1) (zaD bs (n-1) (zap bs 6 (zap bs 12 s))).2).1],
     (zaD bs (n-1) (zaD bs (n-1) (zap bs 6 (zap bs 12 s))).2).2):=by
 have:=zfC h2;obtain ⟨m,rfl⟩:∃ m,n=m+1:=⟨n-1,oo⟩;rw [zaD,if_neg h,if_neg h2,if_neg h3];rfl
end
def zBM (n:Nat):Prop:=∀ {W w:World} {g:Nat} {bs:List UInt8} {s:Cur} {d:Int},CurAt W g bs s w->d=(n:Int) ->
 CALL tp 60 [.pointer (some ⟨g,0,none⟩),.int .i64 d] w λr w'=>ChgI g (g+1) w w'/\CurAt W g bs (zaD bs n s).2 w'/\OwnI w.heap.size w'.heap.size w' r (zaD bs n s).1
def zqt {bs:List UInt8} {s:Cur} (hC:CurAt W g bs s w) (hd:d=(n:Int)) (ih:∀ m,m+1=n->zBM m) (hn:n<=10) :
   CALL tp 60 [.pointer (some ⟨g,0,none⟩),.int .i64 d] w λr w'=>ChgI g (g+1) w w'/\(CurAt W g bs (zaD bs n s).2 w'/\OwnI w.heap.size w'.heap.size w' r (zaD bs n s).1):=by
 refine co (g:=kf [(4,65312,[5])] [] []) Tryz.func60 ?_;have hgl:=hC.lt;have h9:=zcM bs (n:=12) oo s;refine zee (α:=DTerm) zDA λha y1 gM=>?_;have hg4:=gM.lt;have σ1:=y1.size;refine (zcW (CurAt.ext hC y1) oo).mono ?_;rintro _ gE ⟨U,g4,rfl⟩;have gj:=U.size;have gj:=U.size;have hv4_c2:=(gM.ext (xrf ha)).chg U oo oo;refine JOIN.mk (λus w'=>us=[.int .i64 (zfm bs n s)]/\Ext gE w'/\(True)) ?_ ?_
 . refine zdT ?_
   refine br (λc1=>?_) (λc1=>?_)
   . refine zcb ?_
     refine br (λc2=>?_) (λc2=>?_)
     . refine zbc (by unfold I64;omega) ?_
       refine ⟨by unfold zfm;rw [if_pos oo],xrf gE,?_⟩;trivial
     refine ⟨by unfold zfm;rw [if_neg oo],xrf gE,?_⟩;trivial
   refine ⟨by unfold zfm;rw [if_neg oo],xrf gE,?_⟩;trivial
 rintro uj4 hb ⟨hu,y3,_⟩;have σ3:=y3.size;try replace hu:=zbt hu
 try rw [hu]
 try clear hu
 refine zag<|br (λc3=>?_) (λc3=>?_)
 . refine zhh (vs:=([0,1,2,3,7,999,1000,1000000000]:List Int).map (Value.int .i64)) u33 ty3 zEl qd kK rfl (λw=>zjU (by simp [I64])) λv20 gN y4 gO=>?_
   have σ4:=y4.size;refine (zi0 (CurAt.ext (CurAt.ext g4 y3) y4) (gO.ext (xrf gN)) oo oo oo qd qd).mono ?_;rintro _ gh ⟨Y,gG,rfl,hc⟩;have gl:=Y.size;have gl:=Y.size;have hv4_c5:=(hv4_c2.ext (y3.t y4)).chg Y oo oo;have o20_c5:=(gO.ext (xrf gN)).chg Y oo;refine zse (lo:=gh.heap.size) (hi:=gh.heap.size) (by first | assumption | (unfold I64;omega)) (by first | assumption | (unfold I64;omega)) λv22 gP=>zbn zdj (hv4_c5.ext (xrf gh)) (gP.ext (xrf gh)) oo λgQ Z hv4_s6=>?_;have gR:=Z.size;have o20_c6:=(o20_c5.ext (xrf gh)).chg Z oo;have o22_c6:=(gP.ext (xrf gh)).chg Z oo;refine zce zdj hv4_s6 (xrf gQ) λr4 V=>?_
   replace V:=V.ext (xrf gQ)
   refine ⟨(ChgI.out (ChgI.trans (ChgI.trans (ChgI.trans (ChgI.trans (Ext.toI y1) U) (Ext.toI y3)) (Ext.toI y4)) Y) Z oo),?_⟩;rw [zqp oo];exact ⟨(CurAt.chg gG Z oo oo),V.mono oo oo⟩
 refine zag<|br (λc4=>?_) (λc4=>?_)
 . refine zhh (vs:=([ByteArray.mk #[120],ByteArray.mk #[121],ByteArray.mk #[122],ByteArray.mk #[120],ByteArray.mk #[117]]:List ByteArray).map Value.string) u24 ty9 zcV qd kK rfl (λw=>zda qd) λv27 gS y7 gU=>?_
   have σ7:=y7.size;refine (zdK (CurAt.ext (CurAt.ext g4 y3) y7) (gU.ext (xrf gS)) oo oo oo qd qd).mono ?_;rintro _ gi ⟨g0,gH,rfl,he⟩;have gp:=g0.size;have gp:=g0.size;have hv4_c8:=(hv4_c2.ext (y3.t y7)).chg g0 oo oo;have o27_c8:=(gU.ext (xrf gS)).chg g0 oo;refine zsf (lo:=gi.heap.size) (hi:=gi.heap.size) (by first | assumption | (unfold I64;omega)) (by first | assumption | decide) λv29 gV=>zbn zdj (hv4_c8.ext (xrf gi)) (gV.ext (xrf gi)) oo λgW g1 hv4_s9=>?_;have gX:=g1.size;have o27_c9:=(o27_c8.ext (xrf gi)).chg g1 oo;have o29_c9:=(gV.ext (xrf gi)).chg g1 oo;refine zce zdj hv4_s9 (xrf gW) λr4 V=>?_
   replace V:=V.ext (xrf gW)
   refine ⟨(ChgI.out (ChgI.trans (ChgI.trans (ChgI.trans (ChgI.trans (Ext.toI y1) U) (Ext.toI y3)) (Ext.toI y7)) g0) g1 oo),?_⟩;rw [zqq oo oo];exact ⟨(CurAt.chg gH g1 oo oo),V.mono oo oo⟩
 refine zai<|br (λc5=>?_) (λc5=>?_)
 . refine zbc (by unfold I64;omega) ?_
   have hf:=zfC (show ¬zfm bs n s<6 by omega);refine (ih (n-1) oo (CurAt.ext g4 y3) oo).mono ?_;rintro r36 gI ⟨X,gq,gY⟩;have g9:=X.size;have g9:=X.size;have hv4_c10:=(hv4_c2.ext y3).chg X oo oo;refine zhI (α:=DTerm) u51 zdj z53 qd (gY.ext (xrf gI)) oo λv37 g2 gr gZ=>?_;have σ11:=gr.size;refine zl1 (lo:=hb.heap.size) (hi:=g2.heap.size) (by first | assumption | (unfold I64;omega)) (gZ.ext (xrf g2)) λv38 h2=>zbn zdj (hv4_c10.ext gr) (h2.ext (xrf g2)) oo λgs D hv4_s12=>?_;have gJ:=D.size;have o36_c12:=(gY.ext gr).chg D oo;have o37_c12:=(gZ.ext (xrf g2)).chg D oo;have o38_c12:=(h2.ext (xrf g2)).chg D oo;refine zce zdj hv4_s12 (xrf gs) λr4 V=>?_
   replace V:=V.ext (xrf gs)
   refine ⟨(ChgI.out (ChgI.trans (ChgI.trans (ChgI.trans (ChgI.trans (Ext.toI y1) U) (Ext.toI y3)) X) (Ext.toI gr)) D oo),?_⟩;rw [zqr oo oo oo];exact ⟨(CurAt.chg (CurAt.ext gq gr) D oo oo),V.mono oo oo⟩
 refine zhh (vs:=([3,4,5,6,7,9]:List Int).map (Value.int .i64)) u33 ty3 zEl qd kK rfl (λw=>zjU (by simp [I64])) λv40 gt gF h4=>?_;have σ13:=gF.size;refine (zi0 (CurAt.ext (CurAt.ext g4 y3) gF) (h4.ext (xrf gt)) oo oo oo qd qd).mono ?_;rintro _ g5 ⟨M,gx,rfl,hg⟩;have gb:=M.size;have gb:=M.size;have hv4_c14:=(hv4_c2.ext (y3.t gF)).chg M oo oo;have o40_c14:=(h4.ext (xrf gt)).chg M oo;refine zbc (by unfold I64;omega) ?_;have hf:=zfC (show ¬zfm bs n s<6 by omega);refine (ih (n-1) oo gx oo).mono ?_;rintro r45 gc ⟨O,gy,hh⟩;have gd:=O.size;have gd:=O.size;have hv4_c15:=(hv4_c14.ext (xrf g5)).chg O oo oo;have o40_c15:=(o40_c14.ext (xrf g5)).chg O oo;refine zbc (by unfold I64;omega) ?_;refine (ih (n-1) oo gy oo).mono ?_;rintro r49 gz ⟨I,gC,h5⟩;have gf:=I.size;have gf:=I.size;have hv4_c16:=(hv4_c15.ext (xrf gc)).chg I oo oo;have o40_c16:=(o40_c15.ext (xrf gc)).chg I oo;have o45_c16:=(hh.ext (xrf gc)).chg I oo;refine zu8 (α:=DTerm) (lo:=g5.heap.size) u51 zdj z53 qd (o45_c16.ext (xrf gz)) (h5.ext (xrf gz)) oo oo λv50 g3 gg h6=>?_;have σ17:=gg.size;refine zl1 (lo:=g5.heap.size) (hi:=g3.heap.size) (by first | assumption | (unfold I64;omega)) (h6.ext (xrf g3)) λv51 h8=>zbn zdj (hv4_c16.ext gg) (h8.ext (xrf g3)) oo λgD C hv4_s18=>?_;have gK:=C.size;have o40_c18:=(o40_c16.ext gg).chg C oo;have o45_c18:=(o45_c16.ext gg).chg C oo;have o49_c18:=(h5.ext gg).chg C oo;have o50_c18:=(h6.ext (xrf g3)).chg C oo;have o51_c18:=(h8.ext (xrf g3)).chg C oo;refine zce zdj hv4_s18 (xrf gD) λr4 V=>?_
 replace V:=V.ext (xrf gD)
 refine ⟨(ChgI.out (ChgI.trans (ChgI.trans (ChgI.trans (ChgI.trans (ChgI.trans (ChgI.trans (ChgI.trans (Ext.toI y1) U) (Ext.toI y3)) (Ext.toI gF)) M) O) I) (Ext.toI gg)) C oo),?_⟩;rw [zqs oo oo oo];exact ⟨(CurAt.chg (CurAt.ext gC gg) C oo oo),V.mono oo oo⟩
theorem zhL:∀ (n:Nat),n<=10->zBM n
 | n,hn=>by
   intro h hd;exact zqt h hd (λm hm=>zhL m oo) hn
section
variable {bs:List UInt8} {n:Nat} {s:Cur}
theorem ze9 (h:zf8 bs n s<11):zcf bs n s=zhf bs (zf8 bs n s) (zap bs 14 s):=by
 cases n with
 | zero=>rw [zcf]
 | succ n=>rw [zcf,if_pos h]
theorem zhi (h:¬zf8 bs n s<11):0<n:=by
 cases n with
 | zero=>have:=zCM bs s;omega
 | succ n=>omega
def zjX (h:¬zf8 bs n s<11):zcf bs n s=znK bs (zcf bs (n-1)) (zf8 bs n s) (zap bs 14 s):=by
 have:=zhi h;obtain ⟨m,rfl⟩:∃ m,n=m+1:=⟨n-1,oo⟩;rw [zcf,if_neg h];rfl
def zzT {f:Cur->DStmt×Cur} {bs:List UInt8} {k:Nat} {s:Cur} (hk:k<=3) (h:(k:Int)<zbN bs 4 s) :
   zek f bs (4-k) k s=((f (zap bs 4 s)).1 :: (zek f bs (4-(k+1)) (k+1) (f (zap bs 4 s)).2).1,(zek f bs (4-(k+1)) (k+1) (f (zap bs 4 s)).2).2):=by
 rw [show 4-k=(4-(k+1))+1 by omega,zek,if_pos h]
def zva {f:Cur->DStmt×Cur} {bs:List UInt8} {k:Nat} {s:Cur} (hk:k<=3) (h:¬(k:Int)<zbN bs 4 s):zek f bs (4-k) k s=([],zap bs 4 s):=by
 rw [show 4-k=(4-(k+1))+1 by omega,zek,if_neg h]
end
def ztJ (n:Nat):Prop:=∀ {W w:World} {g:Nat} {bs:List UInt8} {s:Cur} {d:Int},CurAt W g bs s w->d=(n:Int) ->
 CALL tp 174 [.pointer (some ⟨g,0,none⟩),.int .i64 d] w λr w'=>ChgI g (g+1) w w'/\CurAt W g bs (zcf bs n s).2 w'/\OwnI w.heap.size w'.heap.size w' r (zcf bs n s).1
def zxw (n:Nat):Prop:=∀ {W w:World} {g:Nat} {bs:List UInt8} {s:Cur} {d:Int},CurAt W g bs s w->d=(n:Int) ->
 CALL tp 91 [.pointer (some ⟨g,0,none⟩),.int .i64 d] w λr w'=>ChgI g (g+1) w w'/\CurAt W g bs (zbv bs n s).2 w'/\RowI w.heap.size w'.heap.size 56 w' r (zbv bs n s).1
def zkF {bs:List UInt8} {s:Cur} (hC:CurAt W g bs s w) (hd:d=(n:Int)) (ih:ztJ n) :
   CALL tp 91 [.pointer (some ⟨g,0,none⟩),.int .i64 d] w λr w'=>ChgI g (g+1) w w'/\(CurAt W g bs (zbv bs n s).2 w'/\RowI w.heap.size w'.heap.size 56 w' r (zbv bs n s).1):=by
 refine co (g:=kf [] [(3,1048416,[5,6])] []) Tryz.func91 ?_;have hgl:=hC.lt;refine zaK (α:=DStmt) u29 ze6 λv7 g5 y1 o7=>?_;have σ1:=y1.size;refine zao (4) (λk us w'=>∃ (v:Value) (s1:Cur) (l1:List DStmt),us=[v,.int .i64 (k:Int)]/\ChgI g (g+1) g5 w'/\(CurAt W g bs s1 w'/\RowI g5.heap.size w'.heap.size 56 w' v l1/\zbv bs n s=(l1++(zek (zcf bs n) bs (4-k) k s1).1,(zek (zcf bs n) bs (4-k) k s1).2)/\l1.length<=k/\k<=3)) (0) oo ⟨_,s,[],rfl,(ChgI.refl g5),⟨hC.ext y1,zcx _ _ _ _ _,by unfold zbv;simp,sS,oo⟩⟩ ?_;rintro k m3 uu3 gi hk3 ⟨v5,s1,l1,hu,y2,gj,g0,g4,hll,gc⟩;have σ2:=y2.size;obtain ⟨gd,gf⟩:=zcB hu;try rw [gd]
 try rw [gf]
 try clear gd gf
 have hb4:=zcM bs (n:=4) oo s1;refine (zcW gj oo).mono ?_;rintro _ gl ⟨C,g1,rfl⟩;have g2:=C.size;have g2:=C.size;have hrow_c3:=(g0.ext (xrf gi)).chg C oo;refine zag<|br (λc1=>?_) (λc1=>?_)
 . refine (ih g1 hd).mono ?_
   rintro r17 g9 ⟨D,gb,gg⟩;have g3:=D.size;have g3:=D.size;have hrow_c4:=(hrow_c3.ext (xrf gl)).chg D oo;refine zbO (α:=DStmt) u29 ze6 z56 zDB qd (hrow_c4.ext (xrf g9)) oo (gg.ext (xrf g9)) oo oo (by rw [zal];omega) oo λv19 w5_ I gp=>?_;have gh:=I.size;have o17_c5:=(gg.ext (xrf g9)).chg I oo;refine zau<|⟨m3-1,oo,k+1,oo,_,(zcf bs n (zap bs 4 s1)).2,l1++[(zcf bs n (zap bs 4 s1)).1],rfl,(ChgI.out (ChgI.trans (ChgI.trans y2 C) D) I oo),?_⟩;rw [zzT gc oo] at g4;exact ⟨(CurAt.chg gb I oo oo),gp,by rw [g4];simp,by simp;omega,oo⟩
 refine ⟨(ChgI.trans (ChgI.trans (Ext.toI y1) y2) C),?_⟩;rw [zva gc oo] at g4;rw [g4];simp only [qaC];exact ⟨g1,(g0.chg C oo).mono oo oo⟩
def zkG {bs:List UInt8} {s:Cur} (hC:CurAt W g bs s w) (hd:d=(n:Int)) (ih:∀ m,m+1=n->zxw m) (hn:n<=10) :
   CALL tp 174 [.pointer (some ⟨g,0,none⟩),.int .i64 d] w λr w'=>ChgI g (g+1) w w'/\(CurAt W g bs (zcf bs n s).2 w'/\OwnI w.heap.size w'.heap.size w' r (zcf bs n s).1):=by
 refine co (g:=kf [(4,130592,[5])] [] []) Tryz.func174 ?_;have hgl:=hC.lt;have jk:=zcM bs (n:=14) oo s;refine zee (α:=DStmt) zEc λjl y1 hX=>?_;have hg4:=hX.lt;have σ1:=y1.size;refine (zcW (CurAt.ext hC y1) oo).mono ?_;rintro _ hy ⟨Y,g2,rfl⟩;have gU:=Y.size;have gU:=Y.size;have hv4_c2:=(hX.ext (xrf jl)).chg Y oo oo;refine JOIN.mk (λus w'=>us=[.int .i64 (zf8 bs n s)]/\Ext hy w'/\(True)) ?_ ?_
 . refine zdT ?_
   refine br (λc1=>?_) (λc1=>?_)
   . refine zcb ?_
     refine br (λc2=>?_) (λc2=>?_)
     . refine zbc (by unfold I64;omega) ?_
       refine ⟨by unfold zf8;rw [if_pos oo],xrf hy,?_⟩;trivial
     refine ⟨by unfold zf8;rw [if_neg oo],xrf hy,?_⟩;trivial
   refine ⟨by unfold zf8;rw [if_neg oo],xrf hy,?_⟩;trivial
 rintro uj4 gF ⟨hu,y3,_⟩;have σ3:=y3.size;try replace hu:=zbt hu
 try rw [hu]
 try clear hu
 refine zag<|br (λc3=>?_) (λc3=>?_)
 . refine zhh (vs:=([ByteArray.mk #[120],ByteArray.mk #[121],ByteArray.mk #[122]]:List ByteArray).map Value.string) u24 ty9 zcV qd kK rfl (λw=>zda qd) λv21 hY y4 hZ=>?_
   have σ4:=y4.size;refine (zdK (CurAt.ext (CurAt.ext g2 y3) y4) (hZ.ext (xrf hY)) oo oo oo qd qd).mono ?_;rintro _ hF ⟨gt,hG,rfl,jm⟩;have gV:=gt.size;have gV:=gt.size;have hv4_c5:=(hv4_c2.ext (y3.t y4)).chg gt oo oo;have o21_c5:=(hZ.ext (xrf hY)).chg gt oo;refine ((zhL 2 oo) hG rfl).mono ?_;rintro r24 gG ⟨gx,hH,j0⟩;have gW:=gx.size;have gW:=gx.size;have hv4_c6:=(hv4_c5.ext (xrf hF)).chg gx oo oo;have o21_c6:=(o21_c5.ext (xrf hF)).chg gx oo;refine zqo (lo:=hF.heap.size) (hi:=gG.heap.size) oo (by first | assumption | (unfold I64;omega)) (by first | assumption | decide) (j0.ext (xrf gG)) λv25 j1=>zbn ze6 (hv4_c6.ext (xrf gG)) (j1.ext (xrf gG)) oo λj2 gp hv4_s7=>?_;have j3:=gp.size;have o21_c7:=(o21_c6.ext (xrf gG)).chg gp oo;have o24_c7:=(j0.ext (xrf gG)).chg gp oo;have o25_c7:=(j1.ext (xrf gG)).chg gp oo;refine zce ze6 hv4_s7 (xrf j2) λr4 C=>?_
   replace C:=C.ext (xrf j2)
   refine ⟨(ChgI.out (ChgI.trans (ChgI.trans (ChgI.trans (ChgI.trans (ChgI.trans (Ext.toI y1) Y) (Ext.toI y3)) (Ext.toI y4)) gt) gx) gp oo),?_⟩;rw [ze9 oo,zhf,if_pos oo];exact ⟨(CurAt.chg hH gp oo oo),C.mono oo oo⟩
 refine zag<|br (λc4=>?_) (λc4=>?_)
 . refine zhh (vs:=([ByteArray.mk #[97],ByteArray.mk #[98],ByteArray.mk #[109]]:List ByteArray).map Value.string) u24 ty9 zcV qd kK rfl (λw=>zda qd) λv30 j4 y8 j5=>?_
   have σ8:=y8.size;refine (zdK (CurAt.ext (CurAt.ext g2 y3) y8) (j5.ext (xrf j4)) oo oo oo qd qd).mono ?_;rintro _ gS ⟨gy,hI,rfl,jn⟩;have gX:=gy.size;have gX:=gy.size;have hv4_c9:=(hv4_c2.ext (y3.t y8)).chg gy oo oo;have o30_c9:=(j5.ext (xrf j4)).chg gy oo;refine zdm (lo:=gS.heap.size) (hi:=gS.heap.size) oo (by first | assumption | (unfold I64;omega)) (by first | assumption | decide) λv32 j6=>zbn ze6 (hv4_c9.ext (xrf gS)) (j6.ext (xrf gS)) oo λgY g3 hv4_s10=>?_;have hJ:=g3.size;have o30_c10:=(o30_c9.ext (xrf gS)).chg g3 oo;have o32_c10:=(j6.ext (xrf gS)).chg g3 oo;refine zce ze6 hv4_s10 (xrf gY) λr4 C=>?_
   replace C:=C.ext (xrf gY)
   refine ⟨(ChgI.out (ChgI.trans (ChgI.trans (ChgI.trans (ChgI.trans (Ext.toI y1) Y) (Ext.toI y3)) (Ext.toI y8)) gy) g3 oo),?_⟩;rw [ze9 oo,zhf,if_neg oo,if_pos oo];exact ⟨(CurAt.chg hI g3 oo oo),C.mono oo oo⟩
 refine zag<|br (λc5=>?_) (λc5=>?_)
 . refine zhh (vs:=([ByteArray.mk #[97],ByteArray.mk #[98],ByteArray.mk #[109]]:List ByteArray).map Value.string) u24 ty9 zcV qd kK rfl (λw=>zda qd) λv37 gZ hz j7=>?_
   have σ11:=hz.size;refine (zdK (CurAt.ext (CurAt.ext g2 y3) hz) (j7.ext (xrf gZ)) oo oo oo qd qd).mono ?_;rintro _ gq ⟨g4,h2,rfl,jo⟩;have gH:=g4.size;have gH:=g4.size;have hv4_c12:=(hv4_c2.ext (y3.t hz)).chg g4 oo oo;have o37_c12:=(j7.ext (xrf gZ)).chg g4 oo;refine zdm (lo:=gq.heap.size) (hi:=gq.heap.size) oo (by first | assumption | (unfold I64;omega)) (by first | assumption | decide) λv39 j8=>zbn ze6 (hv4_c12.ext (xrf gq)) (j8.ext (xrf gq)) oo λh4 g5 hv4_s13=>?_;have hL:=g5.size;have o37_c13:=(o37_c12.ext (xrf gq)).chg g5 oo;have o39_c13:=(j8.ext (xrf gq)).chg g5 oo;refine zce ze6 hv4_s13 (xrf h4) λr4 C=>?_
   replace C:=C.ext (xrf h4)
   refine ⟨(ChgI.out (ChgI.trans (ChgI.trans (ChgI.trans (ChgI.trans (Ext.toI y1) Y) (Ext.toI y3)) (Ext.toI hz)) g4) g5 oo),?_⟩;rw [ze9 oo,zhf,if_neg oo,if_neg oo,if_pos oo];exact ⟨(CurAt.chg h2 g5 oo oo),C.mono oo oo⟩
 refine zai<|br (λc6=>?_) (λc6=>?_)
 . refine zhh (vs:=([ByteArray.mk #[112],ByteArray.mk #[113],ByteArray.mk #[114]]:List ByteArray).map Value.string) u24 ty9 zcV qd kK rfl (λw=>zda qd) λv44 h5 hB j9=>?_
   have σ14:=hB.size;refine (zdK (CurAt.ext (CurAt.ext g2 y3) hB) (j9.ext (xrf h5)) oo oo oo qd qd).mono ?_;rintro _ gr ⟨g9,h6,rfl,jp⟩;have gI:=g9.size;have gI:=g9.size;have hv4_c15:=(hv4_c2.ext (y3.t hB)).chg g9 oo oo;have o44_c15:=(j9.ext (xrf h5)).chg g9 oo;refine zdm (lo:=gr.heap.size) (hi:=gr.heap.size) oo (by first | assumption | (unfold I64;omega)) (by first | assumption | decide) λv46 ja=>zbn ze6 (hv4_c15.ext (xrf gr)) (ja.ext (xrf gr)) oo λh8 gb hv4_s16=>?_;have hM:=gb.size;have o44_c16:=(o44_c15.ext (xrf gr)).chg gb oo;have o46_c16:=(ja.ext (xrf gr)).chg gb oo;refine zce ze6 hv4_s16 (xrf h8) λr4 C=>?_
   replace C:=C.ext (xrf h8)
   refine ⟨(ChgI.out (ChgI.trans (ChgI.trans (ChgI.trans (ChgI.trans (Ext.toI y1) Y) (Ext.toI y3)) (Ext.toI hB)) g9) gb oo),?_⟩;rw [ze9 oo,zhf,if_neg oo,if_neg oo,if_neg oo,if_pos oo];exact ⟨(CurAt.chg h6 gb oo oo),C.mono oo oo⟩
 refine zai<|br (λc7=>?_) (λc7=>?_)
 . refine zhh (vs:=([ByteArray.mk #[112],ByteArray.mk #[113],ByteArray.mk #[114]]:List ByteArray).map Value.string) u24 ty9 zcV qd kK rfl (λw=>zda qd) λv51 h9 hD jb=>?_
   have σ17:=hD.size;refine (zdK (CurAt.ext (CurAt.ext g2 y3) hD) (jb.ext (xrf h9)) oo oo oo qd qd).mono ?_;rintro _ gs ⟨gc,ha,rfl,jq⟩;have gJ:=gc.size;have gJ:=gc.size;have hv4_c18:=(hv4_c2.ext (y3.t hD)).chg gc oo oo;have o51_c18:=(jb.ext (xrf h9)).chg gc oo;refine zdm (lo:=gs.heap.size) (hi:=gs.heap.size) oo (by first | assumption | (unfold I64;omega)) (by first | assumption | decide) λv53 jc=>zbn ze6 (hv4_c18.ext (xrf gs)) (jc.ext (xrf gs)) oo λhb gd hv4_s19=>?_;have hN:=gd.size;have o51_c19:=(o51_c18.ext (xrf gs)).chg gd oo;have o53_c19:=(jc.ext (xrf gs)).chg gd oo;refine zce ze6 hv4_s19 (xrf hb) λr4 C=>?_
   replace C:=C.ext (xrf hb)
   refine ⟨(ChgI.out (ChgI.trans (ChgI.trans (ChgI.trans (ChgI.trans (Ext.toI y1) Y) (Ext.toI y3)) (Ext.toI hD)) gc) gd oo),?_⟩;rw [ze9 oo,zhf,if_neg oo,if_neg oo,if_neg oo,if_neg oo,if_pos oo];exact ⟨(CurAt.chg ha gd oo oo),C.mono oo oo⟩
 refine zai<|br (λc8=>?_) (λc8=>?_)
 . refine znN (lo:=gF.heap.size) (hi:=gF.heap.size) oo (by first | assumption | (unfold I64;omega)) λv57 jd=>?_
   refine zbn ze6 (hv4_c2.ext y3) (jd.ext (xrf gF)) oo λhc gj hv4_s20=>?_;have hO:=gj.size;have o57_c20:=(jd.ext (xrf gF)).chg gj oo;refine zce ze6 hv4_s20 (xrf hc) λr4 C=>?_
   replace C:=C.ext (xrf hc)
   refine ⟨(ChgI.out (ChgI.trans (ChgI.trans (Ext.toI y1) Y) (Ext.toI y3)) gj oo),?_⟩;rw [ze9 oo,zhf,if_neg oo,if_neg oo,if_neg oo,if_neg oo,if_neg oo];exact ⟨(CurAt.chg (CurAt.ext g2 y3) gj oo oo),C.mono oo oo⟩
 refine zai<|br (λc9=>?_) (λc9=>?_)
 . have hK:¬zf8 bs n s<11:=by unfold zf8 at *;split at*<;> omega
   have jr:=zhi hK;refine ((zhL 1 oo) (CurAt.ext g2 y3) rfl).mono ?_;rintro r62 he ⟨gl,hf,js⟩;have gK:=gl.size;have gK:=gl.size;have hv4_c21:=(hv4_c2.ext y3).chg gl oo oo;refine zbc (by unfold I64;omega) ?_;refine (ih (n-1) oo hf oo).mono ?_;rintro r66 gf ⟨gg,hg,je⟩;have gM:=gg.size;have gM:=gg.size;have hv4_c22:=(hv4_c21.ext (xrf he)).chg gg oo oo;have o62_c22:=(js.ext (xrf he)).chg gg oo;refine zkE (lo:=gF.heap.size) (hi:=gf.heap.size) (by first | assumption | (unfold I64;omega)) (o62_c22.ext (xrf gf)) (je.own.ext (xrf gf)) oo oo oo oo λv67 jf=>zbn ze6 (hv4_c22.ext (xrf gf)) (jf.ext (xrf gf)) oo λhh Z hv4_s23=>?_;have hP:=Z.size;have o62_c23:=(o62_c22.ext (xrf gf)).chg Z oo;have o66_c23:=(je.ext (xrf gf)).chg Z oo;have o67_c23:=(jf.ext (xrf gf)).chg Z oo;refine zce ze6 hv4_s23 (xrf hh) λr4 C=>?_
   replace C:=C.ext (xrf hh)
   refine ⟨(ChgI.out (ChgI.trans (ChgI.trans (ChgI.trans (ChgI.trans (Ext.toI y1) Y) (Ext.toI y3)) gl) gg) Z oo),?_⟩;rw [zjX hK,znK,if_pos oo];exact ⟨(CurAt.chg hg Z oo oo),C.mono oo oo⟩
 have hK:¬zf8 bs n s<11:=by unfold zf8 at *;split at*<;> omega
 have jr:=zhi hK;refine ((zhL 1 oo) (CurAt.ext g2 y3) rfl).mono ?_;rintro r69 hj ⟨gh,hk,jt⟩;have gN:=gh.size;have gN:=gh.size;have hv4_c24:=(hv4_c2.ext y3).chg gh oo oo;refine zbc (by unfold I64;omega) ?_;refine (ih (n-1) oo hk oo).mono ?_;rintro r73 gO ⟨g0,hl,jg⟩;have gP:=g0.size;have gP:=g0.size;have hv4_c25:=(hv4_c24.ext (xrf hj)).chg g0 oo oo;have o69_c25:=(jt.ext (xrf hj)).chg g0 oo;refine zkE (lo:=gF.heap.size) (hi:=gO.heap.size) (by first | assumption | (unfold I64;omega)) (o69_c25.ext (xrf gO)) (jg.own.ext (xrf gO)) oo oo oo oo λv74 jh=>zee (α:=DStmt) zEc λhQ gC ji=>?_;have hg6:=ji.lt;have σ26:=gC.size;refine zbn ze6 (ji.ext (xrf hQ)) (jh.ext gC) oo λgz O hv6_s27=>?_;have hR:=O.size;have hv4_c27:=(hv4_c25.ext gC).chg O oo oo;have o69_c27:=(o69_c25.ext gC).chg O oo;have o73_c27:=(jg.ext gC).chg O oo;have o74_c27:=(jh.ext gC).chg O oo;refine (zhK (CurAt.chg (CurAt.ext hl gC) O oo oo) oo).mono ?_;rintro _ M ⟨D,gD,rfl⟩;have gQ:=D.size;have gQ:=D.size;have hv4_c28:=(hv4_c27.ext (xrf gz)).chg D oo oo;have o69_c28:=(o69_c27.ext (xrf gz)).chg D oo;have o73_c28:=(o73_c27.ext (xrf gz)).chg D oo;have o74_c28:=(o74_c27.ext (xrf gz)).chg D oo;have hv6_s27_c28:=(hv6_s27.ext (xrf gz)).chg D oo oo;refine br (λju=>?_) (λju=>?_)
 . refine zbc (by unfold I64;omega) ?_
   refine (ih (n-1) oo gD oo).mono ?_;rintro r80 gi ⟨U,hq,jj⟩;have gR:=U.size;have gR:=U.size;have hv4_c29:=(hv4_c28.ext (xrf M)).chg U oo oo;have o69_c29:=(o69_c28.ext (xrf M)).chg U oo;have o73_c29:=(o73_c28.ext (xrf M)).chg U oo;have o74_c29:=(o74_c28.ext (xrf M)).chg U oo;have hv6_s27_c29:=(hv6_s27_c28.ext (xrf M)).chg U oo oo;refine zab zfA ?_;obtain ⟨jv,hr,hs⟩:=(hv6_s27_c29.ext (xrf gi));obtain ⟨jw,ht⟩:=zky (Lens.var hr);refine zzB ziT ht hs (jj.own.ext (xrf gi)) oo oo λg1 V gE=>?_;have hv6_s30:=gE (gF.heap.size) oo oo (gi.heap.size) oo oo;clear gE ht hr hs;have hS:=V.size;have hv4_c30:=(hv4_c29.ext (xrf gi)).chg V oo oo;have o69_c30:=(o69_c29.ext (xrf gi)).chg V oo;have o73_c30:=(o73_c29.ext (xrf gi)).chg V oo;have o74_c30:=(o74_c29.ext (xrf gi)).chg V oo;have o80_c30:=(jj.ext (xrf gi)).chg V oo;refine zdb ze6 hv6_s30 (xrf g1) λjx hv=>zbn ze6 (hv4_c30.ext (xrf g1)) (hv.ext (xrf g1)) oo λhw I hv4_s31=>?_;have hV:=I.size;have o69_c31:=(o69_c30.ext (xrf g1)).chg I oo;have o73_c31:=(o73_c30.ext (xrf g1)).chg I oo;have o74_c31:=(o74_c30.ext (xrf g1)).chg I oo;have hv6_s30_c31:=(hv6_s30.ext (xrf g1)).chg I oo oo;have o80_c31:=(o80_c30.ext (xrf g1)).chg I oo;have o82_c31:=(hv.ext (xrf g1)).chg I oo;refine zce ze6 hv4_s31 (xrf hw) λr4 C=>?_
   replace C:=C.ext (xrf hw)
   refine ⟨(ChgI.out (ChgI.out (ChgI.trans (ChgI.trans (ChgI.out (ChgI.trans (ChgI.trans (ChgI.trans (ChgI.trans (ChgI.trans (Ext.toI y1) Y) (Ext.toI y3)) gh) g0) (Ext.toI gC)) O oo) D) U) V oo) I oo),?_⟩;rw [zjX hK,znK,if_neg oo,if_pos (by first | assumption | (unfold zbv at *;assumption))];exact ⟨(CurAt.chg (CurAt.chg hq V oo oo) I oo oo),C.mono oo oo⟩
 refine zdb ze6 hv6_s27_c28 (xrf M) λjx hv=>zbn ze6 (hv4_c28.ext (xrf M)) (hv.ext (xrf M)) oo λhx X hv4_s32=>?_;have hW:=X.size;have o69_c32:=(o69_c28.ext (xrf M)).chg X oo;have o73_c32:=(o73_c28.ext (xrf M)).chg X oo;have o74_c32:=(o74_c28.ext (xrf M)).chg X oo;have hv6_s27_c32:=(hv6_s27_c28.ext (xrf M)).chg X oo oo;have o82_c32:=(hv.ext (xrf M)).chg X oo;refine zce ze6 hv4_s32 (xrf hx) λr4 C=>?_
 replace C:=C.ext (xrf hx)
 refine ⟨(ChgI.out (ChgI.trans (ChgI.out (ChgI.trans (ChgI.trans (ChgI.trans (ChgI.trans (ChgI.trans (Ext.toI y1) Y) (Ext.toI y3)) gh) g0) (Ext.toI gC)) O oo) D) X oo),?_⟩;rw [zjX hK,znK,if_neg oo,if_neg (by first | assumption | (unfold zbv at *;assumption))];exact ⟨(CurAt.chg gD X oo oo),C.mono oo oo⟩
theorem zsg:∀ (n:Nat),n<=10->ztJ n/\zxw n
 | 0,hn=>by
   have h1:ztJ 0:=λ{_ _ _ _ _ _} h hd=>zkG h hd (λm hm=>absurd hm oo) hn;exact ⟨h1,λ{_ _ _ _ _ _} h hd=>zkF h hd h1⟩
 | n+1,hn=>by
   have ih:=zsg n oo
   have hm:∀ m,m+1=n+1->zxw m:=λm hm=>by
     obtain rfl:m=n:=oo
     exact ih.2
   have h1:ztJ (n+1):=λ{_ _ _ _ _ _} h hd=>zkG h hd hm hn;exact ⟨h1,λ{_ _ _ _ _ _} h hd=>zkF h hd h1⟩
end Go.Proofs.YtcnglfeoglgebaaGreat
namespace Go.Sh
open Rep (rep)
def RowG {α:Type} [Rep α] (F:List Nat) (e:TypeId) (w:World) (v:Value) (l:List α):Prop:=(∃ a,v=.slice a 0 0/\l=[]/\F=[])\/RowF F e w v l
section
variable {P:Program} {w w0 w':World} {α β γ:Type} [Rep α] [Rep β] {e lo hi:Nat} {v:Value} {l:List α} {F:List Nat}
def RowG.lt (h:RowG F e w v l):∀ b∈F,b<w.heap.size:=by
 rcases h with ⟨a,_,_,rfl⟩ | h
 . simp
 exact h.lt
def RowG.keep (h:RowG F e w v l) (hk:∀ b∈F,w'.heap[b]?=w.heap[b]?):RowG F e w' v l:=by
 rcases h with h | h
 . exact .inl h
 exact .inr (h.keep hk)
def RowG.own (h:RowG F e w v l):OwnF F w v l:=by
 rcases h with ⟨a,rfl,rfl,rfl⟩ | h
 . exact ⟨_,⟨a,0,[],[],rfl,lr _,z0 _,⟨rfl,rfl⟩,.inl ⟨rfl,rfl⟩⟩,rfl⟩
 exact h.own
def RowG.wr (h:RowG F e w v l):Wr F w:=by
 rcases h with ⟨a,_,_,rfl⟩ | h
 . exact Wr.nil w
 exact h.wr
def RowG.one (h:RowG F e w v l):v.oneCell'=true:=by
 obtain ⟨cs,⟨a,cap,Fi,xs,rfl,_⟩,rfl⟩:=h.own;rfl
def zgL:RowI lo hi e w v l↔∃ F,RowG F e w v l/\F.Nodup/\∀ b∈F,lo<=b/\b<hi:=by
 constructor
 . rintro (⟨a,h1,h2⟩ | ⟨F,h1,h2,h3⟩)
   . exact ⟨[],.inl ⟨a,h1,h2,rfl⟩,qaq,sS⟩
   exact ⟨F,.inr h1,h2,h3⟩
 rintro ⟨F,(⟨a,h1,h2,_⟩ | h1),g0,h3⟩
 . exact .inl ⟨a,h1,h2⟩
 exact .inr ⟨F,h1,g0,h3⟩
end
structure RV (α:Type) (e:TypeId) where
 v:Value
 l:List α
instance {α:Type} [Rep α] {e:TypeId}:Rep (RV α e) where
 size:=1
 agg:=false
 rep F w cs x:=cs=[x.v]/\RowG F e w x.v x.l
 pos:=by decide
 sz _:=rfl
 len:=by rintro _ _ _ _ ⟨rfl,_⟩;rfl
 one:=by rintro _ _ _ _ ⟨rfl,h⟩ v hv;simp at hv;subst hv;exact h.one
 keep:=by rintro _ _ _ _ _ ⟨rfl,h⟩ hk;exact ⟨rfl,h.keep hk⟩
 lt:=by rintro _ _ _ _ ⟨rfl,h⟩;exact h.lt
section
variable {P:Program} {w w0 w':World} {α β γ:Type} [Rep α] [Rep β] {e lo hi:Nat} {v:Value} {l:List α} {F:List Nat}
def zjY (h:RowI lo hi e w v l):OwnI lo hi w v (⟨v,l⟩:RV α e):=by
 obtain ⟨F,h1,h2,h3⟩:=zgL.1 h;exact ⟨F,⟨⟨[v],⟨rfl,h1⟩,rfl⟩,h2,h1.wr⟩,h3⟩
def znb {x:RV α e} (h:Is w v x):v=x.v/\Is w x.v x.l:=by
 obtain ⟨F,cs,⟨rfl,h1⟩,hv⟩:=h;obtain ⟨cs,hr,g0⟩:=h1.own;exact ⟨hv,F,cs,hr,g0⟩
def zla {t by_ b o:Nat} {x:RV α e} {K:Value->Prop} (ht:tyI P t=some (1,by_,false)) (h:At w0 b o x) (hx:Ext w0 w) (k:K x.v):RD P (Instr.loadAt t (.pointer (some ⟨b,o,none⟩))) w K:=
 zaa (α:=RV α e) ht h hx λv hv=>by rw [(znb hv).1];exact k
def zEm {k:Nat} (hm:RowG F e w v l) (hn:F.Nodup) (hk:k<l.length) :
   ∃ b a cap G,v=.slice (some ⟨b,a,none⟩) l.length cap/\Lens (λF w l=>RowG F e w v l/\F.Nodup) F w b (a+k*Rep.size α) G l[k] (λy=>l.set k y):=by
 rcases hm with ⟨a,_,rfl,_⟩ | hm
 . simp at hk
 have gl:=hm.wr;obtain ⟨xs,Fi,ho,hc,rfl,g1⟩:=hm;rcases ho.2 with ⟨_,h0⟩ | ⟨g,cap,cur,rfl,gp,hg,h1,h2,h3,h4⟩
 . omega
 simp only [Value.ownBlock,Option.toList_some,qbA,qbu] at hn gl ⊢;have gd:=ho.1;have e0:l=l.take k++(l[k] :: l.drop (k+1)):=by simp
 have gf:=hc;rw [e0] at gf;obtain ⟨F1,F2',x1,x2',gq,gr,c1,gs⟩:=Cells.split gf;obtain ⟨G,F2,cg,x2,rfl,rfl,gg,c2⟩:=gs;subst gq gr;have gh:x1.length=k*Rep.size α:=by rw [Cells.len c1,qai];congr 1;omega
 have gt:=Rep.len gg;have gx:=hn;rw [qaM] at hn;obtain ⟨g2,hn⟩:=hn;rw [qao] at hn;obtain ⟨hn1,gi,gy⟩:=hn;rw [qao] at gi;obtain ⟨gz,gC,gD⟩:=gi
 have g0:w.rangeAt g 0 (x1++(cg++x2)):=by
   intro j u hu;rw [<-h4,List.getElem?_take] at hu;split at hu
   . simpa [World.cell?,hg] using hu
   cases hu
 obtain ⟨r1,r2⟩:=zaO g0;obtain ⟨rg,r3⟩:=zaO r2;rw [gh] at rg r3;refine ⟨g,0,cap,G,rfl,⟨cg,gg,rg,gz,g1.sub (by simp +contextual),λh=>g2 (by simp [h]),cur,e,hg⟩,by simp +contextual,λw' G' y' g3 hO hs=>?_⟩;obtain ⟨Y,gj,gE,g4,g5,gF,gG⟩:=hO;have g9:=Rep.len gj;obtain ⟨D,O,r⟩:=g3.cell cur e hg
 have U:∀ c∈F1,w'.heap[c]?=w.heap[c]?:=λc X=>by
   refine g3.chg.block c (Cells.lt c1 c X) λhm=>?_;rcases qaa.1 hm with rfl | hm
   . exact g2 (by simp [X])
   exact gy c X c (by simp [hm]) rfl
 have V:∀ c∈F2,w'.heap[c]?=w.heap[c]?:=λc X=>by
   refine g3.chg.block c (Cells.lt c2 c X) λhm=>?_;rcases qaa.1 hm with rfl | hm
   . exact g2 (by simp [X])
   exact gD c hm c X rfl
 have gH:k*Rep.size α+Rep.size α<=cur.size:=by
   rw [h3];have:=qa5 (Rep.size α) (show k+1<=cap by omega);rw [qbi,qbS] at this;exact this
 have I:∀ j,j<Y.length->D[0+k*Rep.size α+j]?=Y[j]?:=by
   intro j hj;have:=gE j Y[j] (by simp [hj]);simpa [World.cell?,O,hj] using this
 have gI:=Rep.pos (α:=α)
 have gb:D.size=cur.size:=by
   rcases qb5 D.size cur.size with h | h | h
   . exfalso
     rcases qaA D.size (k*Rep.size α+Rep.size α) with h' | h'
     . have:=I (Rep.size α-1) oo
       rw [List.getElem?_eq_getElem oo] at this;have:=(Array.getElem?_eq_some_iff.1 this).1;omega
     have:=r D.size (.inr oo);rw [Array.getElem?_eq_none (lr _),Array.getElem?_eq_getElem h] at this;cases this
   . exact h
   exfalso;have:=r cur.size (.inr oo);rw [Array.getElem?_eq_none (lr _),Array.getElem?_eq_getElem h] at this;cases this
 have C:(l.set k y').length=l.length:=by simp
 refine ⟨g :: (F1++(G'++F2)),⟨.inr ⟨x1++(Y++x2),F1++(G'++F2),⟨?_,.inr ⟨g,cap,D,by rw [C],gp,O,by rw [C];exact h1,h2,by rw [gb];exact h3,?_⟩⟩,?_,rfl,?_⟩,zpX gx g4 hs⟩,?_⟩
 . rw [C]
   simp only [qag] at gd ⊢;omega
 . rw [C]
   apply List.ext_getElem?;intro j;have gc:(cur.toList.take (l.length*Rep.size α))[j]?=(x1++(cg++x2))[j]?:=by rw [h4]
   rcases qaA j (l.length*Rep.size α) with hj | hj
   . rw [List.getElem?_take,if_pos hj] at gc ⊢
     rcases qaA j (k*Rep.size α) with h' | h'
     . rw [Array.getElem?_toList,r j (.inl oo),<-Array.getElem?_toList,gc,List.getElem?_append_left oo,List.getElem?_append_left oo]
     rcases qaA j (k*Rep.size α+Rep.size α) with gJ | gJ
     . rw [Array.getElem?_toList,List.getElem?_append_right oo,List.getElem?_append_left oo,gh,<-I (j-k*Rep.size α) oo]
       congr 1;omega
     rw [Array.getElem?_toList,r j (.inr oo),<-Array.getElem?_toList,gc,List.getElem?_append_right oo,List.getElem?_append_right oo,List.getElem?_append_right oo,List.getElem?_append_right oo,gt,g9]
   rw [List.getElem?_take,if_neg oo,List.getElem?_eq_none];simp only [qag] at gd ⊢;omega
 . have:l.set k y'=l.take k++(y' :: l.drop (k+1)):=by rw [qbv];simp [hk]
   rw [this];exact Cells.append (Cells.keep c1 U) ⟨G',F2,Y,x2,rfl,rfl,gj,Cells.keep c2 V⟩
 . exact ((g1.sub (by simp +contextual)).keep U).append (g5.append ((g1.sub (by simp +contextual)).keep V))
 intro c M;rcases qaa.1 M with rfl | M
 . exact .inl sS
 rcases qae.1 M with M | M
 . exact .inl (by simp [M])
 rcases qae.1 M with M | M
 . exact .inr M
 exact .inl (by simp [M])
def Lens.elemV {H:List Nat->World->γ->Prop} {S:List Nat} {b o:Nat} {G:List Nat} {x:RV β e} {upd:RV β e->γ} (h:Lens H S w b o G x upd) {k:Nat} (hk:k<x.l.length) :
   ∃ b2 a cap G2,x.v=.slice (some ⟨b2,a,none⟩) x.l.length cap/\(∀ c∈b2 :: G2,c∈G)/\Lens H S w b2 (a+k*Rep.size β) G2 x.l[k] (λy=>upd ⟨x.v,x.l.set k y⟩):=by
 obtain ⟨⟨cs,⟨rfl,g3⟩,hr,hn,hw,hb,g9⟩,g0,g1⟩:=h;obtain ⟨b2,a,cap,G2,hu,hL⟩:=zEm g3 hn hk;have hG:∀ c∈G,c∈S:=λc hc=>g0 c (by simp [hc]);refine ⟨b2,a,cap,G2,hu,hL.sub,hL.here,λc hc=>hG c (hL.sub c hc),λw' G' y' gb hO hs=>?_⟩
 obtain ⟨F1,⟨gc,gg⟩,gd⟩:=hL.back w' G' y' gb hO λc hc=>by
   rcases hs c hc with h | h
   . exact .inl h
   exact .inr λe=>h (hG c e)
 have g2:Chg G w w':=gb.chg.mono hL.sub;have gh:b<w.heap.size:=by obtain ⟨c,e,h⟩:=g9;exact (Array.getElem?_eq_some_iff.1 h).1
 have g4:w'.heap[b]?=w.heap[b]?:=g2.block b gh hb
 have gf:∀ c∈F1,c∈G\/c∉S:=λc hc=>by
   rcases gd c hc with h | h
   . exact .inl h
   rcases hs c h with h | h
   . exact .inl (hL.sub c (by simp [h]))
   exact .inr h
 have g5:b∉F1:=λhm=>by
   rcases gf b hm with h | h
   . exact hb h
   exact h (g0 b sS)
 obtain ⟨F',gi,gj⟩:=g1 w' F1 ⟨x.v,x.l.set k y'⟩ ⟨g2.mono (by simp +contextual),λc e hc=>⟨c,by rw [g4];exact hc,λ_ _=>rfl⟩⟩
   ⟨[x.v],⟨rfl,gc⟩,zbo hr g4,gg,gc.wr,g5,by obtain ⟨c,e,h⟩:=g9;exact ⟨c,e,by rw [g4];exact h⟩⟩ gf
 refine ⟨F',gi,λc hc=>?_⟩;rcases gj c hc with h | h
 . exact .inl h
 rcases gd c h with h | h
 . exact .inl (hG c h)
 exact .inr h
def ztK {t te:TypeId} {by_:Nat} {H:List Nat->World->γ->Prop} {S:List Nat} {b o:Nat} {G:List Nat} {x:RV β e} {upd:RV β e->γ} {k:Nat} {K:Value->Prop} (ht:P.underlying t=some (.slice te)) (he:tyI P te=some (Rep.size β,by_,Rep.agg β)) (h:Lens H S w b o G x upd) (hk:k<x.l.length)
   (kk:∀ b2 o2 G2,Lens H S w b2 o2 G2 x.l[k] (λy=>upd ⟨x.v,x.l.set k y⟩)->K (.pointer (some ⟨b2,o2,none⟩))):RD P (Instr.indexAt t x.v (.int .i64 (k:Int))) w K:=by
 obtain ⟨b2,a,cap,G2,hv,_,hL⟩:=h.elemV hk;refine zbb (v:=.pointer (some ⟨b2,a+k*Rep.size β,none⟩)) (λw' _=>?_) (kk _ _ _ hL);rw [hv,zch ht he oo oo];simp
instance:RepZ (RV α e):=⟨⟨.slice none 0 0,[]⟩,[.slice none 0 0],λ_=>⟨rfl,.inl ⟨none,rfl,rfl,rfl⟩⟩⟩
end
end Go.Sh
namespace Go.Sh
open Rep (rep)
structure Raw where
 v:Value
instance:Rep Raw where
 size:=1
 agg:=false
 rep F _ cs x:=F=[]/\cs=[x.v]/\x.v.oneCell'=true
 pos:=by decide
 sz _:=rfl
 len:=by rintro _ _ _ _ ⟨_,rfl,_⟩;rfl
 one:=by rintro _ _ _ _ ⟨_,rfl,h⟩ v hv;simp at hv;subst hv;exact h
 keep:=by rintro _ _ _ _ _ h _;exact h
 lt:=by rintro _ _ _ _ ⟨rfl,_⟩ b hb;cases hb
section
variable {P:Program} {w w0 w' w1:World} {α β γ:Type} [Rep α] [Rep β] {e lo hi:Nat} {v:Value} {F G S:List Nat} {b o g:Nat}
def ChgAt.ext_left {n:Nat} (hx:Ext w w1) (h:ChgAt b o n G w1 w'):ChgAt b o n G w w':=
 ⟨(hx.chg _).trans h.chg,λc e hc=>h.cell c e (by rw [hx.heap (Array.getElem?_eq_some_iff.1 hc).1];exact hc)⟩
def OAt.ext {x:α} (h:OAt G w b o x) (hx:Ext w w1):OAt G w1 b o x:=h.keep λc hc=>hx.heap (h.lts c hc)
def Lens.ext {H:List Nat->World->γ->Prop} {y:β} {upd:β->γ} (h:Lens H S w b o G y upd) (hx:Ext w w1):Lens H S w1 b o G y upd:=
 ⟨h.here.ext hx,h.sub,λw' G' y' hch hO hs=>h.back w' G' y' (hch.ext_left hx) hO hs⟩
def zcD {ft by_:Nat} {u:Value} {K:Value->Prop} (g1:tyI P ft=some (1,by_,false)) (hr:w.rangeAt b o [u]) (k:K u):RD P (Instr.loadAt ft (.pointer (some ⟨b,o,none⟩))) w K:=by
 refine zbb (λw' g0=>?_) k;have h0:w'.cell? ⟨b,o,none⟩=some u:=by simpa using (zbI hr g0) 0 u rfl
 have hA:=zcc g1 w';simp [Instr.loadAt,Instr.sureAddr,loadVar,hA,h0]
def zlb {t by_:Nat} {u old:Value} {K:World->Prop} (ht:tyI P t=some (1,by_,false)) (hw:∃ c e,w.heap[b]?=some (.cells c e (0,0))) (hr:w.rangeAt b o [old]) (ho:old.oneCell'=true) (hu:u.oneCell'=true)
   (k:∀ w',ChgAt b o 1 [] w w'->w'.rangeAt b o [u]->K w'):OPU P (Instr.storeAt t (.pointer (some ⟨b,o,none⟩)) u) w K:=by
 refine ztf (β:=Raw) (G:=[]) (y:=⟨old⟩) (y':=⟨u⟩) (G':=[]) ht ⟨[old],⟨rfl,rfl,ho⟩,hr,qaq,Wr.nil w,sS,hw⟩ ⟨[u],⟨rfl,rfl,hu⟩,rfl⟩ qaq (Wr.nil w) sS λw' hc hO=>k w' hc ?_;obtain ⟨cs,⟨_,rfl,_⟩,g0,_⟩:=hO;exact g0
def zhM {t by_:Nat} {y y':β} {upd:β->α} {u:Value} {K:World->Prop} (ht:tyI P t=some (Rep.size β,by_,Rep.agg β)) (hL:Lens (VH g) (g :: F) w b o G y upd) (hF:∀ b∈F,lo<=b/\b<hi) (hg:lo<=g/\g<hi) (hu:Mine [] w u y')
   (k:∀ w',ChgI lo hi w w'->VarI lo hi w' g (upd y')->K w'):OPU P (Instr.storeAt t (.pointer (some ⟨b,o,none⟩)) u) w K:=by
 refine zk2 ht hL hu sS λw' hc ⟨F',h1,h2⟩=>k w' (hc.toI λc r=>?_) ⟨F',h1,λc r=>?_⟩
 . rcases qaa.1 r with rfl | r
   . exact hg
   exact hF c r
 rcases h2 c r with h | h
 . rcases qaa.1 h with rfl | h
   . obtain ⟨_,_,_,_,_,hn,_⟩:=h1;exact absurd r hn
   exact hF c h
 simp at h
def VarI.mono {g0 g1:Nat} {x:α} (h:VarI lo hi w g x) (h1:g0<=lo) (h2:hi<=g1):VarI g0 g1 w g x:=by
 obtain ⟨F,h,hF⟩:=h;exact ⟨F,h,λb hb=>by have:=hF b hb;omega⟩
theorem ztL:∀ {l:List (RV α e)} {F:List Nat} {xs:List Value},Cells F w xs l->Cells F w xs (l.map RV.l)
 | [],_,_,h=>h
 | x :: l,_,_,⟨F1,F2,c1,c2,hF,h,⟨hc,h1⟩,h2⟩=>by
   obtain ⟨cs,hr,hv⟩:=h1.own
   have:cs=[x.v]:=by
     obtain ⟨a,cap,Fi,xs,rfl,_⟩:=hr;rw [hv];rfl
   subst this;exact ⟨F1,F2,c1,c2,hF,h,by rw [hc];exact hr,ztL h2⟩
def zBN {e2:TypeId} {cs:List Value} {x:RV (RV α e) e2} (h:rep F w cs x):rep F w cs (x.l.map RV.l):=by
 obtain ⟨rfl,h⟩:=h;obtain ⟨cs,⟨a,cap,Fi,xs,rfl,h1,h2,hc,h4⟩,hv⟩:=h.own;have g0:x.v=.slice a x.l.length cap:=hv;rw [g0];refine ⟨a,cap,Fi,xs,sS,by simpa using h1,h2,ztL hc,?_⟩;rcases h4 with ⟨h4,h5⟩ | h4
 . exact .inl ⟨by simp [h4],h5⟩
 exact .inr h4
def zdD {t ty:TypeId} {by_:Nat} {u:Value} {x:β} {l:List β} {GX:List Nat} {K:World->VW} {C:VW} (ht:P.underlying t=some (.slice e)) (he:tyI P e=some (Rep.size β,by_,Rep.agg β)) (hz:zb1 P e=true)
   (gd:(P.info? e).map (λi=>(i.zero.map (·.cells.size)))=some (some (Rep.size β))) (gg:Rep.size β<=1000) (hv:RowG G e w v l) (hn:G.Nodup) (hx:Mine GX w u x) (hd:∀ c∈GX,c∉G) (hm:l.length+1<=maxLen) (hb:(l.length+1)*by_<=140737488355328)
   (k:∀ w1 v' w' G',Ext w w1->Chg G w1 w'->RowG G' e w' v' (l++[x])->G'.Nodup->(∀ c∈G',c∈G\/c∈GX\/w.heap.size<=c)->K w1 v' w')
   (hC:∀ s w1,Ext w w1->OP P (Builtin.append_ #[t,t] ty [v,s].toArray) w1 (K w1)->C s w1):OP P (Instr.buildSlice t 1 #[(0,u)]) w C:=by
 refine ziX ht he hz gg hx λw1 g1 gh=>?_;obtain ⟨⟨cs,⟨a,cap,Fi,xs,rfl,h1,h2,hc,h4⟩,g0⟩,hn1,gi⟩:=gh;simp only [mkv,Rep.agg,cond_false,qbk,Value.slice.injEq,qaj,qay] at g0;obtain ⟨rfl,_,rfl⟩:=g0;rcases h4 with ⟨h4,_⟩ | ⟨b,o,g2,g5,g9,hbl⟩
 . simp at h4
 simp only [qbf] at g5;obtain ⟨_,rfl⟩:=g5;refine hC _ w1 g1 ?_
 have gb:∀ (v:Value) (F:List Nat),RowF F e w v l->F.Nodup->(∀ c∈F,c∈G)->OP P (Builtin.append_ #[t,t] ty [v,.slice (some ⟨w.heap.size,0,none⟩) 1 1].toArray) w1 (K w1):=by
   intro v F hF gc g3;have gj:=hF.ext g1
   have gl:(GX++F).Nodup:=by
     rw [qao];exact ⟨hx.nodup,gc,λp hp q hq e=>hd p hp (g3 _ (e▸hq))⟩
   refine zf3 (m:=[x]) ht he gd gj gc rfl hc (.inr ⟨b,o,g2,g9⟩) (gi.sub (by simp +contextual)) gl (by simpa using hm) (by simpa using hb) λv' w' F' gp gf gq gr gs=>?_
   have g4:∀ c∈v.ownBlock.toList,c∈G:=λc hc=>by
     obtain ⟨xs,Fi,_,_,rfl,_⟩:=hF;exact g3 c (by simp only [qae];exact .inl hc)
   refine k w1 v' w' F' g1 (gp.mono g4) (.inr gq) gr λc hc=>?_;rcases gs c hc with h | h | h
   . exact .inl (g3 c h)
   . exact .inr (.inl h)
   exact .inr (.inr (qan g1.size h))
 rcases hv with ⟨a0,rfl,rfl,rfl⟩ | hF
 . have kn:=gb (.slice none 0 0) [] (ziW e w) qaq sS
   cases a0 with
   | none=>exact kn
   | some x0=>
     simp only [qak,Addr.mk.injEq] at g2;obtain ⟨rfl,rfl,_⟩:=g2;exact zk4 (zgE (α:=β) (n:=1) ht he gd (by simpa using Cells.len hc) g9 oo (by rw [zal];omega) (by simpa using hb)) kn
 exact gb v G hF hn (λ_ h=>h)
def zhN {t by_:Nat} {x:RV β e} {upd:RV β e->α} {w2:World} {v':Value} {l':List β} {G':List Nat} {K:World->Prop} (ht:tyI P t=some (1,by_,false)) (hL:Lens (VH g) (g :: F) w b o G x upd) (gb:∀ c∈g :: F,c<w.heap.size) (hc:Chg G w w2)
   (hR:RowG G' e w2 v' l') (hN:G'.Nodup) (hs:∀ c∈G',c∈G\/w.heap.size<=c)
   (k:∀ w3,Chg (b :: G) w w3->(∃ F',OAt F' w3 g 0 (upd ⟨v',l'⟩)/\∀ c∈F',c∈g :: F\/w.heap.size<=c)->K w3):OPU P (Instr.storeAt t (.pointer (some ⟨b,o,none⟩)) v') w2 K:=by
 obtain ⟨cs,⟨rfl,g4⟩,hr,hn,hw,hb,gc⟩:=hL.here;have gd:b<w.heap.size:=gb b (hL.sub b sS);have g5:w2.heap[b]?=w.heap[b]?:=hc.block b gd hb;have g0:∃ c e,w2.heap[b]?=some (.cells c e (0,0)):=by obtain ⟨c,e,h⟩:=gc;exact ⟨c,e,by rw [g5];exact h⟩
 have g1:b∉G':=λhm=>by
   rcases hs b hm with h | h
   . exact hb h
   omega
 refine zlb ht g0 (zbo hr g5) g4.one hR.one λw3 g3 gf=>?_
 have g2:ChgAt b o 1 G w w3:=by
   refine ⟨(hc.mono (by simp +contextual)).trans (g3.chg.mono (by simp +contextual)),λc e gg=>?_⟩;obtain ⟨c',h1,h2⟩:=g3.cell c e (by rw [g5];exact gg);exact ⟨c',h1,h2⟩
 have r:∀ c∈G',w3.heap[c]?=w2.heap[c]?:=λc C=>g3.chg.block c (hR.lt c C) (by simp;exact λe=>g1 (e▸C));obtain ⟨c',e',gh⟩:=g0;obtain ⟨gi,g9,_⟩:=g3.cell c' e' gh
 obtain ⟨F',h1,h2⟩:=hL.back w3 G' ⟨v',l'⟩ g2 ⟨[v'],⟨rfl,hR.keep r⟩,gf,hN,(hR.keep r).wr,g1,gi,e',g9⟩ λc C=>by
   rcases hs c C with h | h
   . exact .inl h
   exact .inr λhm=>by have:=gb c hm;omega
 refine k w3 g2.chg ⟨F',h1,λc C=>?_⟩;rcases h2 c C with h | h
 . exact .inl h
 rcases hs c h with h | h
 . exact .inl (hL.sub c (by simp [h]))
 exact .inr h
def zb7 {t:TypeId} {by_:Nat} {u:Value} {x:β} {K:VW} (ht:P.underlying t=some (.slice e)) (he:tyI P e=some (Rep.size β,by_,Rep.agg β)) (hz:zb1 P e=true) (hsz:Rep.size β<=1000) (hx:Mine [] w u x)
   (k:∀ v w',Ext w w'->RowI w.heap.size w'.heap.size e w' v [x]->K v w'):OP P (Instr.buildSlice t 1 #[(0,u)]) w K:=by
 obtain ⟨⟨cs,hr,rfl⟩,hn,hw⟩:=hx;have g1:=zff hr;have g0:=Rep.len hr;have g2:(mkv β cs).cells.size=Rep.size β:=by rw [<-qaB,g1,g0]
 obtain ⟨i,d,hi,hd,hs,hby,hg⟩:=zdC he;unfold zb1 at hz;rw [hi] at hz;obtain ⟨z,hz⟩:=qbq.1 hz;have g3:=Rep.pos (α:=β);refine ⟨_,w.alloc (.cells (mkv β cs).cells e),?_,k (.slice (some ⟨w.heap.size,0,none⟩) 1 1) _ (za6 w _) (.inr ⟨[w.heap.size],⟨cs,[],⟨by simp [g0],.inr ⟨w.heap.size,1,(mkv β cs).cells,rfl,z0 _,heap_alloc_new w _,lr _,by rw [zal];omega,by rw [g2,qbS],?_⟩⟩,Cells.single (zcr hr (za6 w _)),rfl,Wr.nil _⟩,sS,?_⟩)⟩
 . have g4:¬Rep.size β=0:=oo
   have g5:¬2^24<Rep.size β:=oo
   simp only [Instr.buildSlice,Sem.run_bind,run_underlying ht,Result.andThen_ok,zaS he,qbS];simp [g5,g4,zeroValue,typeInfo,hi,hz,ztz _ _ _ g2,newRow]
 . rw [g1,qcv,qbS,qaf oo]
 intro b hb;simp only [qaa,qac,or_false] at hb;subst hb;exact ⟨qas _,(Array.getElem?_eq_some_iff.1 (heap_alloc_new w _)).1⟩
def Ext.toX {X:Nat->Prop} (h:Ext w w'):ExtX X w w':=⟨h.os,h.tape,h.output,h.size,λb hb _=>h.block b hb⟩
def Chg.toX {X:Nat->Prop} (h:Chg G w w') (hX:∀ c∈G,X c):ExtX X w w':=⟨h.os,h.tape,h.output,h.size,λb hb hn=>h.block b hb λhm=>hn (hX b hm)⟩
def zdY {X:Nat->Prop} {m:Sem Value} {K:Value->Prop} (hX:∀ b,X b->w0.heap.size<=b) (hx:Ext w0 w) (h:RD P m w0 K):RDX P X m w K:=by
 obtain ⟨v,h1,h2⟩:=h;exact ⟨v,λw' hw=>h1 w' ⟨hw.os.trans hx.os,hw.tape.trans hx.tape,hw.output.trans hx.output,qan hx.size hw.size,λb hb=>(hw.block b (qal hb hx.size) λg0=>by have:=hX b g0;omega).trans (hx.block b hb)⟩,h2⟩
def zfp {X:Nat->Prop} {t i g0:Nat} {K:Value->Prop} (hf:zdP P t i=some g0) (k:K (.pointer (some ⟨b,o+g0,none⟩))):RDX P X (Instr.fieldAt t (.pointer (some ⟨b,o,none⟩)) i) w K:=by
 obtain ⟨v,h1,h2⟩:=zab (P:=P) (w:=w) (K:=λv=>∀ w':World,(Instr.fieldAt t (.pointer (some ⟨b,o,none⟩)) i).run P w'=.ok v w'/\v=.pointer (some ⟨b,o+g0,none⟩)) hf (λw'=>by
   obtain ⟨v,h1,h2⟩:=zab (P:=P) (w:=w') (b:=b) (o:=o) (K:=λv=>v=.pointer (some ⟨b,o+g0,none⟩)) hf rfl;subst h2;exact ⟨h1 w' (xrf w'),rfl⟩)
 refine ⟨v,λw' _=>(h2 w').1,?_⟩;rw [(h2 w).2];exact k
def zfD {X:Nat->Prop} {ft by_:Nat} {u:Value} {K:Value->Prop} (g1:tyI P ft=some (1,by_,false)) (hr:w.rangeAt b o [u]) (hX:¬X b) (k:K u):RDX P X (Instr.loadAt ft (.pointer (some ⟨b,o,none⟩))) w K:=by
 refine ⟨u,λw' g0=>?_,k⟩;have hb:=zjF hr sS;have h0:w'.cell? ⟨b,o,none⟩=some u:=by simpa using (zbo hr (g0.block b hb hX)) 0 u rfl
 have hA:=zcc g1 w';simp [Instr.loadAt,Instr.sureAddr,loadVar,hA,h0]
def zxx {x:Int} (h:At w b o x):w.rangeAt b o [.int .i64 x]:=by
 obtain ⟨F,cs,⟨_,rfl,_⟩,hr⟩:=h;exact hr
end
end Go.Sh
