/-
  Parts of the proof, put together by program.
-/
import Derived.Test.YtcnglfeoglgebaaGreatPFnTop4
set_option maxRecDepth 20000
set_option linter.defProp false
set_option linter.unusedVariables false
set_option linter.unusedSimpArgs false
set_option linter.unusedSectionVars false
namespace Go.Proofs.YtcnglfeoglgebaaGreat
open Go Go.Sh Go.Proofs
open Rep (rep)
variable {F G:List Nat} {K:Value->Prop} {P:Program} {W W0 W1 W2 w:World} {a x:Int} {ag:Bool} {b by_ g hi i j k lo n o:Nat} {c:DCode} {s:DState} {u u' v v0 v1 v2:Value}
def CodeR.f (h:CodeR c):EntF c:=h.2.1.f h.1.procs8.2
def zfb  (h0:Is W0 v0 c) (e0:Ext W0 w)  :
   CALL tp 145 [v0,.int .i64 a] w λr w'=>Ext w w'/\(r=.bool (decide (0<=a/\a<c.ins.length))):=by
 refine co (g:=kf [] [] []) Tryz.func145 ?_;refine zat zbq rfl h0 e0 λg2 y1 g3 hV2=>zcb<|br (λc1=>?_) (λc1=>?_)
 . refine zab zaM ?_
   refine zaa zcQ (zak g3) (xrf g2) λv10 g0=>?_;have g1:=zaj g0;refine zae u34 g0<|zag<|⟨y1,?_⟩;simp [c1]
 refine ⟨y1,?_⟩;simp [c1]
def zmc  (h0:Is W0 v0 c) (e0:Ext W0 w) (hc:CodeR c) (ha:0<=a) (ha2:a<c.ins.length) :
   CALL tp 114 [v0,.int .i64 a] w λr w'=>Ext w w'/\(r=.int .i64 (zas c a)):=by
 refine co (g:=kf [] [(2,16777184,[5])] []) Tryz.func114 ?_;have hf:=hc.f;have h8:=hc.1.procs8;have hl:=hf.len;refine zat zbq rfl h0 e0 λg1 y1 g2 hV2=>zao (c.entry.length-1) (λk us w'=>us=[.int .i64 (k:Int)]/\Ext g1 w'/\(en c k<=a)) (0) oo ⟨sS,xrf g1,by rw [hf.zero];exact ha⟩ ?_;rintro k m2 uu2 w2_ hk2 ⟨hu,y2,g0⟩;try replace hu:=zbt hu
 try rw [hu]
 try clear hu
 refine zau<|zab zbi<|zaa za4 (zar g2) y2 λv9 h9=>?_;have g3:=zaj h9;refine zae u33 h9<|zag<|br (λc1=>?_) (λc1=>?_)
 . refine zab zbi ?_
   refine zaa za4 (zar g2) y2 λv14 g4=>zau<|zad u33 ty3 g4 oo λb17 o17 g5=>zac ty3 g5 y2 λg9=>zdT<|br (λc2=>?_) (λc2=>?_)
   . refine zau ?_
     refine ⟨m2-1,oo,k+1,oo,sS,y2,?_⟩
     rwa [zbx] at c2
   refine ⟨(y1.t y2),?_⟩;rw [zbx] at c2;rw [hf.proc (i:=k) oo g0 (by rw [hf.step oo];omega)]
 refine ⟨(y1.t y2),?_⟩;rw [hf.proc (i:=k) oo g0 (by rw [hf.last oo];omega)]
def st (l:List Int) (i:Nat):Int:=l.getD i 0
def zfE {l:List Int} (h:i<l.length):l[i]=st l i:=by unfold st;rw [List.getD_eq_getElem?_getD,List.getElem?_eq_getElem h];rfl
def zcq (c:DCode) (l:List Int):Prop:=l.length<=8/\(∀ i,i<l.length->0<=st l i/\st l i<c.ins.length) /\
 ∀ i,i<l.length-1->(zam c (st l i).toNat).op=4/\zas c (st l (i+1))=(zam c (st l i).toNat).arg
instance (c:DCode) (l:List Int):Decidable (zcq c l):=by unfold zcq;infer_instance
def zsn {l:(List Int)}  (h0:Is W0 v0 c) (e0:Ext W0 w) (h1:Is W1 v1 l) (e1:Ext W1 w)  :
   CALL tp 285 [v0,v1] w λr w'=>Ext w w'/\(r=.bool (decide (zcq c l))):=by
 refine co (g:=kf [] [(4,134215728,[5]),(9,144115187941638352,[6])] [(6,[0,1,2,3,4,5,6,7,8,9],0),(11,[0,1,2,3,4,5,6,7,8,9],256),(12,[0,1,2,3,4,5,6,7,8,9,11,12,10,13,14],1024)]) Tryz.func285 ?_;have hln:=zaj h1;refine zat zbq rfl h0 e0 λg4 y1 g5 gg=>?_;have gh:=zaj h1;refine zae u33 h1<|zcK<|br (λc1=>?_) (λc1=>?_)
 . refine ⟨y1,?_⟩
   have:¬zcq c l:=λh=>by have:=h.1;omega
   simp only [this,decide_false]
 refine zao (l.length) (λk us w'=>us=[.int .i64 (k:Int)]/\Ext g4 w'/\(∀ i,i<k->0<=st l i/\st l i<c.ins.length)) (0) oo ⟨sS,xrf g4,λi h=>oo⟩ ?_;rintro k m4 uu4 g1 hk4 ⟨hu,y2,g2⟩;try replace hu:=zbt hu
 try rw [hu]
 try clear hu
 have g9:=zaj h1;refine zae u33 h1<|zag<|br (λc2=>?_) (λc2=>?_)
 . have y3:=zah g1
   refine zad u33 ty3 h1 oo λb19 o19 gi=>zac ty3 gi (e1.trans (y1.t (y2.t y3))) λgj=>zab zaM<|zaa zcQ (zak g5) (y2.t y3) λv22 g3=>?_;have gb:=zaj g3;refine zae u34 g3<|zbc (by unfold I64;have:=zaj g3;omega) ?_;refine (l01In_ok ).mono ?_;rintro _ w4_ ⟨y4,rfl⟩;refine zav<|br (λc3=>?_) (λc3=>?_)
   . refine ⟨(y1.t (y2.t (y3.t y4))),?_⟩
     rw [zfE] at c3;have:¬zcq c l:=λh=>c3 (by have:=h.2.1 k oo;omega);simp only [this,decide_false]
   refine zau<|⟨m4-1,oo,k+1,oo,sS,(y2.t (y3.t y4)),?_⟩;rw [zfE] at c3;exact zeW g2 oo
 refine zao (l.length) (λq us w'=>us=[.int .i64 (q:Int)]/\Ext g1 w'/\(∀ i,i<q->(zam c (st l i).toNat).op=4/\zas c (st l (i+1))=(zam c (st l i).toNat).arg)) (0) oo ⟨sS,xrf g1,λi h=>oo⟩ ?_;rintro q m9 uu9 gl hk9 ⟨hu,y5,g0⟩;try replace hu:=zbt hu
 try rw [hu]
 try clear hu
 refine zau ?_;have gc:=zaj h1;refine zae u33 h1<|zag<|br (λc4=>?_) (λc4=>?_)
 . have y6:=zah gl
   refine zab zaM<|zaa zcQ (zak g5) (y2.t (y5.t y6)) λv35 gp=>zad u33 ty3 h1 oo λb38 o38 gq=>zac ty3 gq (e1.trans (y1.t (y2.t (y5.t y6)))) λgr=>?_;rw [zfE];have hst:=g2 q oo;refine zaL u34 zcL gp oo oo λb40 o40 gs=>zaa zcL gs (y2.t (y5.t y6)) λv41 gd=>?_;rw [zaz] at gd;refine zrV zqd rfl zcL rfl gd (y2.t (y5.t y6)) λgt y7 gf hV7=>?_;have y8:=zah gt;refine zab zbp<|zac ty3 (zaw gf) y8 λgx=>zaP<|br (λc5=>?_) (λc5=>?_)
   . refine ⟨(y1.t (y2.t (y5.t (y6.t (y7.t y8))))),?_⟩
     have:¬zcq c l:=λh=>c5 (h.2.2 q oo).1;simp only [this,decide_false]
   refine zaF gg (y2.t (y5.t (y6.t (y7.t y8))))<|zau<|zad u33 ty3 h1 oo λb50 o50 gy=>zac ty3 gy (e1.trans (y1.t (y2.t (y5.t (y6.t (y7.t y8)))))) λgz=>zab za8<|zac ty3 (zaq gf) y8 λgC=>?_;refine (ze7 h0 (e0.t (y1.t (y2.t (y5.t (y6.t (y7.t y8))))))).mono ?_;rintro _ w9_ ⟨y9,rfl⟩;refine ⟨y9,?_⟩;refine zaP<|br (λc6=>?_) (λc6=>?_)
   . refine ⟨(y1.t (y2.t (y5.t (y6.t (y7.t (y8.t y9)))))),?_⟩
     rw [zfE] at c6;have:¬zcq c l:=λh=>c6 (h.2.2 q oo).2;simp only [this,decide_false]
   refine zau<|⟨m9-1,oo,q+1,oo,sS,(y5.t (y6.t (y7.t (y8.t y9)))),?_⟩;rw [zfE] at c6;exact zeW g0 ⟨qad.1 c5,qad.1 c6⟩
 refine ⟨(y1.t (y2.t y5)),?_⟩;have:zcq c l:=⟨oo,λi hi=>g2 i oo,λi hi=>g0 i oo⟩;simp only [this,decide_true]
def zo8 {l:(List Int)}  (h0:Is W0 v0 c) (e0:Ext W0 w) (h1:Is W1 v1 l) (e1:Ext W1 w) (hc:CodeR c) :
   CALL tp 144 [v0,v1] w λr w'=>Ext w w'/\(r=.bool (decide (zcq c l))):=by
 refine co (g:=kf [] [(4,1152921504606842992,[12])] [(9,[0,1,2,3,4,5,6,7,8,9,10,11,12,13,14,15,16,17,18,19,20,21,22,23,25,26,27,28,29,30,24,31,32],16777216)]) Tryz.func144 ?_;have hln:=zaj h1;refine zat zbq rfl h0 e0 λg4 y1 g5 g0=>?_;have gc:=zaj h1;refine zae u33 h1<|zcK<|br (λc1=>?_) (λc1=>?_)
 . refine ⟨y1,?_⟩
   have:¬zcq c l:=λh=>by have:=h.1;omega
   simp only [this,decide_false]
 have g9:=zaj h1;refine zae u33 h1<|zao (l.length) (λk us w'=>us=[.int .i64 (k:Int)]/\Ext g4 w'/\(k<=l.length-1/\(∀ i,i<k->0<=st l i/\st l i<c.ins.length)/\∀ i,i<k->(zam c (st l i).toNat).op=4/\zas c (st l (i+1))=(zam c (st l i).toNat).arg)) (0) oo ⟨sS,xrf g4,oo,λi h=>oo,λi h=>oo⟩ ?_;rintro k m4 uu4 w2_ hk4 ⟨hu,y2,hkl,g1,g2⟩;try replace hu:=zbt hu
 try rw [hu]
 try clear hu
 refine zag<|br (λc2=>?_) (λc2=>?_)
 . refine zad u33 ty3 h1 oo λb15 o15 gd=>?_
   refine zac ty3 gd (e1.trans (y1.t y2)) λgf=>?_;rw [zfE];refine zaF g0 y2 ?_;refine (zfb h0 (e0.t (y1.t y2))).mono ?_;rintro _ gg ⟨y3,rfl⟩;refine zav<|br (λc3=>?_) (λc3=>?_)
   . refine ⟨(y1.t (y2.t y3)),?_⟩
     have:¬zcq c l:=λh=>c3 (by have:=h.2.1 k oo;omega);simp only [this,decide_false]
   refine zau ?_;have gb:=zaj h1;refine zae u33 h1<|zai<|br (λc4=>?_) (λc4=>?_)
   . refine ⟨(y1.t (y2.t y3)),?_⟩
     have:zcq c l:=⟨oo,λi hi=>by
         by_cases e:i=k
         . subst e;omega
         exact g1 i oo,λi hi=>g2 i oo⟩
     simp only [this,decide_true]
   have y4:=zah gg;refine zab zaM<|zaa zcQ (zak g5) (y2.t (y3.t y4)) λv27 gh=>?_;have g3:0<=st l k/\st l k<c.ins.length:=oo
   refine zaL u34 zcL gh oo oo λb29 o29 gi=>zab zbp<|zac ty3 (zaw gi) (y2.t (y3.t y4)) λgj=>zaP<|br (λc5=>?_) (λc5=>?_)
   . refine ⟨(y1.t (y2.t (y3.t y4))),?_⟩
     rw [zaz] at c5;have:¬zcq c l:=λh=>c5 (h.2.2 k oo).1;simp only [this,decide_false]
   refine zaF g0 (y2.t (y3.t y4))<|zau<|zad u33 ty3 h1 oo λb38 o38 gl=>zac ty3 gl (e1.trans (y1.t (y2.t (y3.t y4)))) λgp=>?_;refine (zfb h0 (e0.t (y1.t (y2.t (y3.t y4))))).mono ?_;rintro _ w5_ ⟨y5,rfl⟩;refine zav<|br (λc6=>?_) (λc6=>?_)
   . refine ⟨(y1.t (y2.t (y3.t (y4.t y5)))),?_⟩
     rw [zfE] at c6;have:¬zcq c l:=λh=>c6 (by have:=h.2.1 (k+1) oo;omega);simp only [this,decide_false]
   refine zaF g0 (y2.t (y3.t (y4.t y5)))<|zau<|zad u33 ty3 h1 oo λb48 o48 gq=>zac ty3 gq (e1.trans (y1.t (y2.t (y3.t (y4.t y5))))) λgr=>zab zaM<|zaa zcQ (zak g5) (y2.t (y3.t (y4.t y5))) λv52 gs=>zaL u34 zcL gs oo oo λb54 o54 gt=>zab za8<|zac ty3 (zaq gt) (y2.t (y3.t (y4.t y5))) λgx=>?_;rw [zfE] at c6;rw [zfE];refine (zmc h0 (e0.t (y1.t (y2.t (y3.t (y4.t y5))))) aA oo oo).mono ?_;rintro _ w6_ ⟨y6,rfl⟩;refine ⟨y6,?_⟩;refine zaP<|br (λc7=>?_) (λc7=>?_)
   . refine ⟨(y1.t (y2.t (y3.t (y4.t (y5.t y6))))),?_⟩
     rw [zaz] at c7;have:¬zcq c l:=λh=>c7 (h.2.2 k oo).2;simp only [this,decide_false]
   refine zau<|⟨m4-1,oo,k+1,oo,sS,(y2.t (y3.t (y4.t (y5.t y6)))),?_⟩;rw [zaz] at c7 c5;exact ⟨oo,zeW g1 g3,zeW g2 ⟨qad.1 c5,qad.1 c7⟩⟩
 refine ⟨(y1.t y2),?_⟩;have:zcq c l:=⟨oo,λi hi=>g1 i oo,λi hi=>g2 i oo⟩;simp only [this,decide_true]
def zaE (c:DCode) (s:DState):Prop:=s.vars.length=c.globals.length/\s.owner.length=c.locks.length/\(1<=s.stacks.length/\s.stacks.length<=6)/\(∀ v∈s.vars,0<=v/\v<=999) /\
 (∀ o∈s.owner,-1<=o/\o<s.stacks.length)/\∀ l∈s.stacks,zcq c l
instance (c:DCode) (s:DState):Decidable (zaE c s):=by unfold zaE;infer_instance
def zhP {α:Type} {P:α->Prop} {l:List α} (hk:k<l.length) (h:∀ x∈l.take k,P x) (hp:P l[k]):∀ x∈l.take (k+1),P x:=by
 intro x hx;rw [tk hk] at hx;rcases qae.1 hx with hx | hx
 . exact h x hx
 simp only [qaa,qac,or_false] at hx;subst hx;exact hp
def zj4 {α:Type} {P:α->Prop} {l:List α} (hk:l.length<=k) (h:∀ x∈l.take k,P x):∀ x∈l,P x:=by
 rwa [qaf hk] at h
def zso  (h0:Is W0 v0 c) (e0:Ext W0 w) (h1:Is W1 v1 s) (e1:Ext W1 w)  :
   CALL tp 231 [v0,v1] w λr w'=>Ext w w'/\(r=.bool (decide (zaE c s))):=by
 refine co (g:=kf [] [(4,35182224605232,[5]),(9,9223336852482687056,[6]),(14,302222231531620438900880,[7])] [(11,[0,1,2,3,4,5,6,7,8,9,10],0),(16,[0,1,2,3,4,5,6,7],0)]) Tryz.func231 ?_;refine zat zbq rfl h0 e0 λw1_ y1 g3 gE=>zat zc0 rfl h1 (e1.trans y1) λg0 y2 C hV3=>zab zfh<|zaa za4 (zbQ C) (xrf g0) λv9 h9=>?_;have g4:=zaj h9;refine zae u33 h9<|zab zdI<|zaa zcv (zbm g3) y2 λv12 g5=>?_;have g9:=zaj g5;refine zae u24 g5<|zaP<|br (λc1=>?_) (λc1=>?_)
 . refine ⟨(y1.t y2),?_⟩
   have:¬zaE c s:=λh=>by have:=h.1;omega
   simp only [this,decide_false]
 refine zab zdy<|zaa za4 (zbR C) (xrf g0) λv17 gb=>?_;have gc:=zaj gb;refine zae u33 gb<|zab zd8<|zaa zcv (zbw g3) y2 λv20 gd=>?_;have gf:=zaj gd;refine zae u24 gd<|zaP<|br (λc2=>?_) (λc2=>?_)
 . refine ⟨(y1.t y2),?_⟩
   have:¬zaE c s:=λh=>by have:=h.2.1;omega
   simp only [this,decide_false]
 refine zab zbj<|zaa zeN (zaJ C) (xrf g0) λv26 gg=>?_;have gh:=zaj gg;refine zae u44 gg ?_;refine (l01In_ok ).mono ?_;rintro _ gi ⟨y3,rfl⟩;refine zav<|br (λc3=>?_) (λc3=>?_)
 . refine ⟨(y1.t (y2.t y3)),?_⟩
   have:¬zaE c s:=λh=>by have:=h.2.2.1;omega
   simp only [this,decide_false]
 refine zao (s.vars.length) (λk us w'=>us=[.int .i64 (k:Int)]/\Ext gi w'/\(∀ v∈s.vars.take k,0<=v/\v<=999)) (0) oo ⟨sS,xrf gi,sS⟩ ?_;rintro k m4 uu4 gj hk4 ⟨hu,y4,gl⟩;try replace hu:=zbt hu
 try rw [hu]
 try clear hu
 refine zab zfh<|zaa za4 (zbQ C) (y3.t y4) λv33 gp=>?_;have gq:=zaj gp;refine zae u33 gp<|zag<|br (λc4=>?_) (λc4=>?_)
 . refine zab zfh ?_
   refine zaa za4 (zbQ C) (y3.t y4) λv39 gF=>zad u33 ty3 gF oo λb41 o41 gG=>zac ty3 gG (y3.t y4) λgH=>?_;refine (l01In_ok ).mono ?_;rintro _ w5_ ⟨y5,rfl⟩;refine zav<|br (λc5=>?_) (λc5=>?_)
   . refine ⟨(y1.t (y2.t (y3.t (y4.t y5)))),?_⟩
     have:¬zaE c s:=λh=>c5 (h.2.2.2.1 _ (qab _));simp only [this,decide_false]
   refine zau<|⟨m4-1,oo,k+1,oo,sS,(y4.t y5),?_⟩;exact zhP oo gl (qad.1 c5)
 refine zao (s.owner.length) (λq us w'=>us=[.int .i64 (q:Int)]/\Ext gj w'/\(∀ o∈s.owner.take q,-1<=o/\o<s.stacks.length)) (0) oo ⟨sS,xrf gj,sS⟩ ?_;rintro q m9 uu9 g1 hk9 ⟨hu,y6,gr⟩;try replace hu:=zbt hu
 try rw [hu]
 try clear hu
 refine zab zdy<|zaa za4 (zbR C) (y3.t (y4.t y6)) λv47 gs=>?_;have gt:=zaj gs;refine zae u33 gs<|zag<|br (λc6=>?_) (λc6=>?_)
 . have y7:=zah g1
   refine zab zdy<|zaa za4 (zbR C) (y3.t (y4.t (y6.t y7))) λv53 gI=>zad u33 ty3 gI oo λb55 o55 gJ=>zac ty3 gJ (y3.t (y4.t (y6.t y7))) λgK=>zab zbj<|zaa zeN (zaJ C) (y3.t (y4.t (y6.t y7))) λv58 g2=>?_;have gx:=zaj g2;refine zae u44 g2<|zbc (by unfold I64;have:=zaj g2;omega) ?_;refine (l01In_ok ).mono ?_;rintro _ w8_ ⟨y8,rfl⟩;refine zav<|br (λc7=>?_) (λc7=>?_)
   . refine ⟨(y1.t (y2.t (y3.t (y4.t (y6.t (y7.t y8)))))),?_⟩
     have:¬zaE c s:=λh=>c7 (by have:=h.2.2.2.2.1 _ (qab (n:=q) oo);omega);simp only [this,decide_false]
   refine zau<|⟨m9-1,oo,q+1,oo,sS,(y6.t (y7.t y8)),?_⟩;exact zhP oo gr oo
 refine zao (s.stacks.length) (λp us w'=>us=[.int .i64 (p:Int)]/\Ext g1 w'/\(∀ l∈s.stacks.take p,zcq c l)) (0) oo ⟨sS,xrf g1,sS⟩ ?_;rintro p gM gN gO gP ⟨hu,y9,gy⟩;try replace hu:=zbt hu
 try rw [hu]
 try clear hu
 refine zab zbj<|zaa zeN (zaJ C) (y3.t (y4.t (y6.t y9))) λv65 gz=>?_;have gC:=zaj gz;refine zae u44 gz<|zag<|br (λc8=>?_) (λc8=>?_)
 . have D:=zah gO
   refine zaF gE (y2.t (y3.t (y4.t (y6.t (y9.t D)))))<|zab zbj<|zaa zeN (zaJ C) (y3.t (y4.t (y6.t (y9.t D)))) λv72 gQ=>zad u44 za4 gQ oo λb74 o74 gR=>zaa za4 gR (y3.t (y4.t (y6.t (y9.t D)))) λv75 gS=>?_;refine (zsn h0 (e0.t (y1.t (y2.t (y3.t (y4.t (y6.t (y9.t D))))))) gS (y3.t (y4.t (y6.t (y9.t D))))).mono ?_;rintro _ gU ⟨gD,rfl⟩;refine zav<|br (λc9=>?_) (λc9=>?_)
   . refine ⟨(y1.t (y2.t (y3.t (y4.t (y6.t (y9.t (D.t gD))))))),?_⟩
     have:¬zaE c s:=λh=>c9 (h.2.2.2.2.2 _ (qab _));simp only [this,decide_false]
   refine zau<|⟨gM-1,oo,p+1,oo,sS,(y9.t (D.t gD)),?_⟩;exact zhP oo gy (qad.1 c9)
 refine ⟨(y1.t (y2.t (y3.t (y4.t (y6.t y9))))),?_⟩;have:zaE c s:=⟨oo,oo,oo,zj4 oo gl,zj4 oo gr,zj4 oo gy⟩;simp only [this,decide_true]
def znd  (h0:Is W0 v0 c) (e0:Ext W0 w) (h1:Is W1 v1 s) (e1:Ext W1 w)  :
   CALL tp 158 [v0,v1] w λr w'=>Ext w w'/\(r=.bool (decide (CodeR c/\zaE c s))):=by
 refine co (g:=kf [] [] []) Tryz.func158 ?_;refine zat zbq rfl h0 e0 λw1_ y1 hA2 g0=>zat zc0 rfl h1 (e1.trans y1) λw2_ y2 hA3 g1=>zaF g0 y2 ?_;refine (zgJ h0 (e0.t (y1.t y2))).mono ?_;rintro _ w3_ ⟨y3,rfl⟩;refine br (λc1=>?_) (λc1=>?_)
 . refine zaF g0 (y2.t y3) ?_
   refine zaF g1 y3 ?_;refine (zso h0 (e0.t (y1.t (y2.t y3))) h1 (e1.trans (y1.t (y2.t y3)))).mono ?_;rintro _ w4_ ⟨y4,rfl⟩;refine ⟨(y1.t (y2.t (y3.t y4))),?_⟩;simp [c1]
 refine ⟨(y1.t (y2.t y3)),?_⟩;simp [c1]
def zgP  (h0:Is W0 v0 c) (e0:Ext W0 w) (h1:Is W1 v1 s) (e1:Ext W1 w) (hc:CodeR c) :
   CALL tp 65 [v0,v1] w λr w'=>Ext w w'/\(r=.bool (decide (zaE c s))):=by
 refine co (g:=kf [] [(5,9002801208230032,[42]),(11,295075847585314898448,[56]),(17,1206564636373194352101392,[71])] []) Tryz.func65 ?_;refine zat zbq rfl h0 e0 λw1_ y1 g4 gz=>zat zc0 rfl h1 (e1.trans y1) λC y2 D hV3=>zab zbj<|zaa zeN (zaJ D) (xrf C) λv13 g5=>?_;have g9:=zaj g5;refine zae u44 g5<|zab zfh<|zaa za4 (zbQ D) (xrf C) λv16 gb=>?_;have gc:=zaj gb;refine zae u33 gb<|zab zdI<|zaa zcv (zbm g4) y2 λv19 gd=>?_;have gf:=zaj gd;refine zae u24 gd<|zaP<|br (λc1=>?_) (λc1=>?_)
 . refine ⟨(y1.t y2),?_⟩
   have:¬zaE c s:=λh=>by have:=h.1;omega
   simp only [this,decide_false]
 refine zab zdy<|zaa za4 (zbR D) (xrf C) λv24 gg=>?_;have gh:=zaj gg;refine zae u33 gg<|zab zd8<|zaa zcv (zbw g4) y2 λv27 gi=>?_;have gj:=zaj gi;refine zae u24 gi<|zaP<|br (λc2=>?_) (λc2=>?_)
 . refine ⟨(y1.t y2),?_⟩
   have:¬zaE c s:=λh=>by have:=h.2.1;omega
   simp only [this,decide_false]
 refine zag<|br (λc3=>?_) (λc3=>?_)
 . refine ⟨(y1.t y2),?_⟩
   have:¬zaE c s:=λh=>by have:=h.2.2.1;omega
   simp only [this,decide_false]
 refine zcK<|br (λc4=>?_) (λc4=>?_)
 . refine ⟨(y1.t y2),?_⟩
   have:¬zaE c s:=λh=>by have:=h.2.2.1;omega
   simp only [this,decide_false]
 refine zab zfh<|zaa za4 (zbQ D) (xrf C) λv40 g0=>?_;have gl:=zaj g0;refine zae u33 g0<|zao (s.vars.length) (λk us w'=>us=[.int .i64 (k:Int)]/\Ext C w'/\(∀ v∈s.vars.take k,0<=v/\v<=999)) (0) oo ⟨sS,xrf C,sS⟩ ?_;rintro k m5 uu5 gp hk5 ⟨hu,y3,gq⟩;try replace hu:=zbt hu
 try rw [hu]
 try clear hu
 refine zag<|br (λc5=>?_) (λc5=>?_)
 . refine zad u33 ty3 g0 oo λb44 o44 gC=>?_
   refine zac ty3 gC y3 λgD=>zag<|br (λc6=>?_) (λc6=>?_)
   . refine ⟨(y1.t (y2.t y3)),?_⟩
     have:¬zaE c s:=λh=>by have:=h.2.2.2.1 _ (qab (n:=k) oo);omega
     simp only [this,decide_false]
   refine zcK<|br (λc7=>?_) (λc7=>?_)
   . refine ⟨(y1.t (y2.t y3)),?_⟩
     have:¬zaE c s:=λh=>by have:=h.2.2.2.1 _ (qab (n:=k) oo);omega
     simp only [this,decide_false]
   refine zau<|⟨m5-1,oo,k+1,oo,sS,y3,?_⟩;exact zhP oo gq oo
 refine zab zdy<|zaa za4 (zbR D) y3 λv54 g1=>?_;have gr:=zaj g1;refine zae u33 g1<|zao (s.owner.length) (λq us w'=>us=[.int .i64 (q:Int)]/\Ext gp w'/\(∀ o∈s.owner.take q,-1<=o/\o<s.stacks.length)) (0) oo ⟨sS,xrf gp,sS⟩ ?_;rintro q gE gF gs gG ⟨hu,y4,gt⟩;try replace hu:=zbt hu
 try rw [hu]
 try clear hu
 refine zag<|br (λc8=>?_) (λc8=>?_)
 . refine zad u33 ty3 g1 oo λb58 o58 gH=>?_
   refine zac ty3 gH (y3.t y4) λgI=>zag<|br (λc9=>?_) (λc9=>?_)
   . refine ⟨(y1.t (y2.t (y3.t y4))),?_⟩
     have:¬zaE c s:=λh=>by have:=h.2.2.2.2.1 _ (qab (n:=q) oo);omega
     simp only [this,decide_false]
   refine zcb<|br (λgJ=>?_) (λgJ=>?_)
   . refine ⟨(y1.t (y2.t (y3.t y4))),?_⟩
     have:¬zaE c s:=λh=>by have:=h.2.2.2.2.1 _ (qab (n:=q) oo);omega
     simp only [this,decide_false]
   refine zau<|⟨gE-1,oo,q+1,oo,sS,y4,?_⟩;exact zhP oo gt oo
 refine zab zbj<|zaa zeN (zaJ D) (y3.t y4) λv69 g2=>?_;have gx:=zaj g2;refine zae u44 g2<|zao (s.stacks.length) (λp us w'=>us=[.int .i64 (p:Int)]/\Ext gs w'/\(∀ l∈s.stacks.take p,zcq c l)) (0) oo ⟨sS,xrf gs,sS⟩ ?_;rintro p gK gM w5_ gN ⟨hu,y5,gy⟩;try replace hu:=zbt hu
 try rw [hu]
 try clear hu
 refine zag<|br (λgO=>?_) (λgO=>?_)
 . refine zad u44 za4 g2 oo λb73 o73 gP=>?_
   refine zaa za4 gP (y3.t (y4.t y5)) λv74 gQ=>zaF gz (y2.t (y3.t (y4.t y5))) ?_;refine (zo8 h0 (e0.t (y1.t (y2.t (y3.t (y4.t y5))))) gQ (y3.t (y4.t y5)) aA).mono ?_;rintro _ w6_ ⟨y6,rfl⟩;refine zav<|br (λg3=>?_) (λg3=>?_)
   . refine ⟨(y1.t (y2.t (y3.t (y4.t (y5.t y6))))),?_⟩
     have:¬zaE c s:=λh=>g3 (h.2.2.2.2.2 _ (qab _));simp only [this,decide_false]
   refine zau<|⟨gK-1,oo,p+1,oo,sS,(y5.t y6),?_⟩;exact zhP oo gy (qad.1 g3)
 refine ⟨(y1.t (y2.t (y3.t (y4.t y5)))),?_⟩;have:zaE c s:=⟨oo,oo,oo,zj4 oo gq,zj4 oo gt,zj4 oo gy⟩;simp only [this,decide_true]
def zer  (h0:Is W0 v0 c) (e0:Ext W0 w) (h1:Is W1 v1 s) (e1:Ext W1 w)  :
   CALL tp 73 [v0,v1] w λr w'=>Ext w w'/\(r=.bool (decide (CodeR c/\zaE c s))):=by
 refine co (g:=kf [] [] []) Tryz.func73 ?_;refine zat zbq rfl h0 e0 λw1_ y1 hA2 g0=>zat zc0 rfl h1 (e1.trans y1) λw2_ y2 hA3 g1=>zaF g0 y2 ?_;refine (zgK h0 (e0.t (y1.t y2))).mono ?_;rintro _ w3_ ⟨y3,rfl⟩;refine br (λc1=>?_) (λc1=>?_)
 . refine zaF g0 (y2.t y3) ?_
   refine zaF g1 y3 ?_;refine (zgP h0 (e0.t (y1.t (y2.t y3))) h1 (e1.trans (y1.t (y2.t y3))) aA).mono ?_;rintro _ w4_ ⟨y4,rfl⟩;refine ⟨(y1.t (y2.t (y3.t y4))),?_⟩;simp [c1]
 refine ⟨(y1.t (y2.t y3)),?_⟩;simp [c1]
def zBT (s:DState):Prop:=∀ x∈s.stacks,x=[]
instance (s:DState):Decidable (zBT s):=inferInstanceAs (Decidable (∀ x∈s.stacks,x=[]))
def ow (s:DState) (i:Int):Int:=s.owner.getD i.toNat 0
def zqI (h:i<s.owner.length):s.owner[i]=ow s i:=by unfold ow;rw [List.getD_eq_getElem?_getD,qah,List.getElem?_eq_getElem h];rfl
def zsp {i:Int} (h0:0<=i) (h:i.toNat<s.owner.length):s.owner[i.toNat]=ow s i:=by unfold ow;rw [List.getD_eq_getElem?_getD,List.getElem?_eq_getElem h];rfl
def stk (s:DState) (t:Int):List Int:=s.stacks.getD t.toNat []
def zdZ {t:Int} (h:t.toNat<s.stacks.length):s.stacks[t.toNat]=stk s t:=by unfold stk;rw [List.getD_eq_getElem?_getD,List.getElem?_eq_getElem h];rfl
def atI (c:DCode) (s:DState) (t:Int):DIns:=zam c (zbu s t).toNat
def zd0 {t:Int} (h:0<=zbu s t):0<=t/\t.toNat<s.stacks.length:=by
 unfold zbu at h;split at h
 . assumption
 omega
def zgQ {t:Int} (h0:0<=t) (h1:t.toNat<s.stacks.length):zbu s t=(stk s t).getLastD (-1):=by
 unfold zbu;rw [dif_pos ⟨h0,h1⟩,zdZ h1]
def zo9 {l:List Int} (h:l≠[]):l.getLastD (-1)=st l (l.length-1):=by
 unfold st;rw [List.getLastD_eq_getLast?,List.getLast?_eq_getElem?,List.getD_eq_getElem?_getD];have:l.length-1<l.length:=by have:=qaN.2 h;omega
 rw [List.getElem?_eq_getElem this];rfl
def zh7 (hs:zaE c s) (t:Int):-1<=zbu s t/\zbu s t<c.ins.length:=by
 by_cases h:0<=t/\t.toNat<s.stacks.length
 . rw [zgQ h.1 h.2]
   by_cases hn:stk s t=[]
   . rw [hn];simp [List.getLastD];omega
   have hl:=qaN.2 hn;have hm:=hs.2.2.2.2.2 (stk s t) (by rw [<-zdZ h.2];exact qab _);rw [zo9 hn];have:=hm.2.1 ((stk s t).length-1) oo;omega
 unfold zbu;rw [dif_neg h];omega
def zhk (hc:CodeR c) {j:Nat} (hj:j<c.ins.length):zie c (zam c j) (en c (zas c j).toNat) (zfT c (zas c j)+1):=hc.2.2 j hj
def ztW (hc:CodeR c) {j:Nat} (hj:j<c.ins.length) (h:(zam c j).op=6\/(zam c j).op=7):0<=(zam c j).arg/\(zam c j).arg<c.locks.length:=by
 have:=(zhk hc hj).2.1;unfold zcl at this
 rwa [if_neg oo,if_neg oo,if_pos h] at this
def NamesR.locks6 (h:NamesR c):c.locks.length<=6:=by
 have h1:=h.2.1;simp only [qap,decide_eq_true_eq] at h1;omega
def NamesR.globals6 (h:NamesR c):c.globals.length<=6:=by
 have h1:=h.1;simp only [qap,decide_eq_true_eq] at h1;omega
def zpa (hs:zaE c s) {i:Int} (h0:0<=i) (h:i.toNat<s.owner.length):-1<=ow s i/\ow s i<s.stacks.length:=by
 rw [<-zsp h0 h];exact hs.2.2.2.2.1 _ (qab _)
def zi8 {t:Int} (hc:CodeR c) (hs:zaE c s) (h:0<=zbu s t):zie c (atI c s t) (en c (zas c (zbu s t)).toNat) (zfT c (zas c (zbu s t))+1):=by
 have:=zh7 hs t;have h1:=zhk hc (j:=(zbu s t).toNat) oo
 rwa [qaz h] at h1
def zdv {t:Int} (hc:CodeR c) (hs:zaE c s) (h:0<=zbu s t) (ho:(atI c s t).op=6\/(atI c s t).op=7):0<=(atI c s t).arg/\(atI c s t).arg.toNat<s.owner.length:=by
 have:=zh7 hs t;have h1:=ztW hc (j:=(zbu s t).toNat) oo ho;have h2:=hs.2.1;unfold atI;omega
def zit {i:Int}  (h0:Is W0 v0 s) (e0:Ext W0 w) (gb:0<=i) (gc:i.toNat<s.owner.length) :
   CALL tp 148 [v0,.int .i64 i] w λr w'=>Ext w w'/\(r=.int .i64 (max (ow s i) (-1))):=by
 refine co (g:=kf [] [] []) Tryz.func148 ?_;refine zat zc0 rfl h0 e0 λg0 y1 g1 hV2=>zag<|br (λc1=>?_) (λc1=>?_)
 . refine ⟨y1,?_⟩
   exact absurd c1 oo
 refine zab zdy<|zaa za4 (zbR g1) (xrf g0) λv10 g2=>?_;have g3:=zaj g2;refine zae u33 g2<|zcb<|br (λc2=>?_) (λc2=>?_)
 . refine ⟨y1,?_⟩
   exact absurd c2 oo
 refine zab zdy<|zaa za4 (zbR g1) (xrf g0) λv15 g4=>zaL u33 ty3 g4 oo oo λb17 o17 g5=>zac ty3 g5 (xrf g0) λg9=>zBL<|⟨y1,?_⟩;rw [zsp gb gc]
def GoR (c:DCode) (s:DState) (t:Int):Prop:=0<=zbu s t/\((atI c s t).op=6->ow s (atI c s t).arg=-1)/\((atI c s t).op=4->((stk s t).length:Int)<8)
instance (c:DCode) (s:DState) (t:Int):Decidable (GoR c s t):=by unfold GoR;infer_instance
def zzZ {t:Int}  (h0:Is W0 v0 c) (e0:Ext W0 w) (h1:Is W1 v1 s) (e1:Ext W1 w) (hc:CodeR c) (hs:zaE c s) :
   CALL tp 126 [v0,v1,.int .i64 t] w λr w'=>Ext w w'/\(r=.bool (decide (GoR c s t))):=by
 refine co (g:=kf [] [] [(6,[0,1,2,3,4,5,6,7,8,9,10,11],0)]) Tryz.func126 ?_;have hat:=zh7 hs t;refine zat zbq rfl h0 e0 λw1_ y1 g2 hV3=>zat zc0 rfl h1 (e1.trans y1) λgb y2 g3 gc=>zaF gc (xrf gb) ?_;refine (zr6 h1 (e1.trans (y1.t y2))).mono ?_;rintro _ gd ⟨y3,rfl⟩;refine zag<|br (λc1=>?_) (λc1=>?_)
 . refine ⟨(y1.t (y2.t y3)),?_⟩
   have:¬GoR c s t:=λh=>by have:=h.1;omega
   simp only [this,decide_false]
 refine zab zaM<|zaa zcQ (zak g2) (y2.t y3) λv14 gf=>zaL u34 zcL gf oo oo λb16 o16 g0=>?_;rw [zaz] at g0;change At _ _ _ (atI c s t) at g0;have C:0<=zbu s t:=oo
 have gg:=zd0 C;refine zab zbp<|zac ty3 (zaw g0) (y2.t y3) λgh=>zai<|br (λc2=>?_) (λc2=>?_)
 . have y4:=zah gd
   refine zab zdy<|zaa za4 (zbR g3) (y3.t y4) λv22 gi=>zab zaM<|zaa zcQ (zak g2) (y2.t (y3.t y4)) λv24 gj=>zaL u34 zcL gj oo oo λb26 o26 g1=>?_;rw [zaz] at g1;change At _ _ _ (atI c s t) at g1;have g4:=zdv hc hs C (.inl c2);refine zab za8<|zac ty3 (zaq g1) (y2.t (y3.t y4)) λgl=>zaL u33 ty3 gi oo oo λb29 o29 gp=>zac ty3 gp (y3.t y4) λgq=>zai<|⟨(y1.t (y2.t (y3.t y4))),?_⟩;congr 1;rw [decide_eq_decide,zsp g4.1 g4.2];exact ⟨λh=>⟨C,λ_=>h,λh4=>oo⟩,λh=>h.2.1 c2⟩
 refine zai<|br (λc3=>?_) (λc3=>?_)
 . refine zab zbj ?_
   refine zaa zeN (zaJ g3) y3 λv35 gr=>zaL u44 za4 gr oo oo λb37 o37 gs=>zaa za4 gs y3 λv38 g5=>?_;have g9:=zaj g5;refine zae u33 g5<|zag<|⟨(y1.t (y2.t y3)),?_⟩;congr 1;rw [decide_eq_decide,zdZ gg.2];exact ⟨λh=>⟨C,λh6=>oo,λ_=>h⟩,λh=>h.2.2 c3⟩
 refine ⟨(y1.t (y2.t y3)),?_⟩;have:GoR c s t:=⟨C,λh6=>absurd h6 c2,λh4=>absurd h4 c3⟩;simp only [this,decide_true]
def zxQ {t:Int}  (h0:Is W0 v0 c) (e0:Ext W0 w) (h1:Is W1 v1 s) (e1:Ext W1 w) (hc:CodeR c) (hs:zaE c s) :
   CALL tp 76 [v0,v1,.int .i64 t] w λr w'=>Ext w w'/\(r=.bool (decide (GoR c s t))):=by
 refine co (g:=kf [] [] [(6,[0,1,2,3,4,5,6,7,8,9],0)]) Tryz.func76 ?_;have hat:=zh7 hs t;refine zat zbq rfl h0 e0 λw1_ y1 g2 gb=>zat zc0 rfl h1 (e1.trans y1) λgc y2 gd g3=>zaF g3 (xrf gc) ?_;refine (zgD h1 (e1.trans (y1.t y2))).mono ?_;rintro _ w3_ ⟨y3,rfl⟩;refine zaF gb (y2.t y3) ?_;refine (zfb h0 (e0.t (y1.t (y2.t y3)))).mono ?_;rintro _ gf ⟨y4,rfl⟩;refine zav<|br (λc1=>?_) (λc1=>?_)
 . refine ⟨(y1.t (y2.t (y3.t y4))),?_⟩
   have:¬GoR c s t:=λh=>by have:=h.1;omega
   simp only [this,decide_false]
 refine zab zaM<|zaa zcQ (zak g2) (y2.t (y3.t y4)) λv16 gg=>zaL u34 zcL gg oo oo λb18 o18 g0=>?_;rw [zaz] at g0;change At _ _ _ (atI c s t) at g0;have C:0<=zbu s t:=oo
 have gh:=zd0 C;refine zab zbp<|zac ty3 (zaw g0) (y2.t (y3.t y4)) λgi=>zai<|br (λc2=>?_) (λc2=>?_)
 . have y5:=zah gf
   refine zaF g3 (y3.t (y4.t y5))<|zab zaM<|zaa zcQ (zak g2) (y2.t (y3.t (y4.t y5))) λv25 gj=>zaL u34 zcL gj oo oo λb27 o27 g1=>?_;rw [zaz] at g1;change At _ _ _ (atI c s t) at g1;have g4:=zdv hc hs C (.inl c2);have hor:=zpa hs g4.1 g4.2;refine zab za8<|zac ty3 (zaq g1) (y2.t (y3.t (y4.t y5))) λgl=>?_;refine (zit h1 (e1.trans (y1.t (y2.t (y3.t (y4.t y5))))) oo oo).mono ?_;rintro _ w6_ ⟨y6,rfl⟩;refine zag<|⟨(y1.t (y2.t (y3.t (y4.t (y5.t y6))))),?_⟩;congr 1;rw [decide_eq_decide];exact ⟨λh=>⟨C,λ_=>oo,λh4=>oo⟩,λh=>by have:=h.2.1 c2;omega⟩
 refine zai<|br (λc3=>?_) (λc3=>?_)
 . refine zab zbj ?_
   refine zaa zeN (zaJ gd) (y3.t y4) λv35 gp=>zaL u44 za4 gp oo oo λb37 o37 gq=>zaa za4 gq (y3.t y4) λv38 g5=>?_;have g9:=zaj g5;refine zae u33 g5<|zag<|⟨(y1.t (y2.t (y3.t y4))),?_⟩;congr 1;rw [decide_eq_decide,zdZ gh.2];exact ⟨λh=>⟨C,λh6=>oo,λ_=>h⟩,λh=>h.2.2 c3⟩
 refine ⟨(y1.t (y2.t (y3.t y4))),?_⟩;have:GoR c s t:=⟨C,λh6=>absurd h6 c2,λh4=>absurd h4 c3⟩;simp only [this,decide_true]
def zqJ {t:Int}  (h0:Is W0 v0 c) (e0:Ext W0 w) (h1:Is W1 v1 s) (e1:Ext W1 w)  :
   CALL tp 78 [v0,v1,.int .i64 t] w λr w'=>Ext w w'/\(r=.bool (decide ((CodeR c/\zaE c s)/\GoR c s t))):=by
 refine co (g:=kf [] [] []) Tryz.func78 ?_;refine zat zbq rfl h0 e0 λw1_ y1 hA3 g0=>zat zc0 rfl h1 (e1.trans y1) λg2 y2 hA4 g1=>zaF g0 y2<|zaF g1 (xrf g2) ?_;refine (znd h0 (e0.t (y1.t y2)) h1 (e1.trans (y1.t y2))).mono ?_;rintro _ w3_ ⟨y3,rfl⟩;refine br (λc1=>?_) (λc1=>?_)
 . refine zaF g0 (y2.t y3) ?_
   refine zaF g1 y3 ?_;refine (zzZ h0 (e0.t (y1.t (y2.t y3))) h1 (e1.trans (y1.t (y2.t y3))) c1.1 c1.2).mono ?_;rintro _ w4_ ⟨y4,rfl⟩;refine ⟨(y1.t (y2.t (y3.t y4))),?_⟩;simp [c1]
 refine ⟨(y1.t (y2.t y3)),?_⟩;simp [c1]
def za1 (c:DCode) (s:DState) (t:Int):Int:=if 0<=zbu s t/\(atI c s t).op=6/\0<=ow s (atI c s t).arg then (atI c s t).arg else -1
def zz0 {t:Int}  (h0:Is W0 v0 c) (e0:Ext W0 w) (h1:Is W1 v1 s) (e1:Ext W1 w) (hc:CodeR c) (hs:zaE c s) :
   CALL tp 147 [v0,v1,.int .i64 t] w λr w'=>Ext w w'/\(r=.int .i64 (za1 c s t)):=by
 refine co (g:=kf [] [] [(2,[0,1,2,3,4,5,6,7,8,9,10,11,12,13,14,15,16,17,18,19,20,21,22,23],0)]) Tryz.func147 ?_;have hat:=zh7 hs t;refine zat zbq rfl h0 e0 λw1_ y1 g1 g9=>zat zc0 rfl h1 (e1.trans y1) λgb y2 hA4 g5=>zaF g5 (xrf gb) ?_;refine (zgD h1 (e1.trans (y1.t y2))).mono ?_;rintro _ gc ⟨y3,rfl⟩;have y4:=zah gc;refine zaF g9 (y2.t (y3.t y4)) ?_;refine (zfb h0 (e0.t (y1.t (y2.t (y3.t y4))))).mono ?_;rintro _ w5_ ⟨y5,rfl⟩;refine zav<|br (λc1=>?_) (λc1=>?_)
 . refine ⟨(y1.t (y2.t (y3.t (y4.t y5)))),?_⟩
   unfold za1;rw [if_neg oo]
 refine zab zaM<|zaa zcQ (zak g1) (y2.t (y3.t (y4.t y5))) λv17 gd=>zaL u34 zcL gd oo oo λb19 o19 g2=>?_;rw [zaz] at g2;change At _ _ _ (atI c s t) at g2;have g0:0<=zbu s t:=oo
 refine zab zbp<|zac ty3 (zaw g2) (y2.t (y3.t (y4.t y5))) λgf=>zaP<|br (λc2=>?_) (λc2=>?_)
 . refine ⟨(y1.t (y2.t (y3.t (y4.t y5)))),?_⟩
   unfold za1;rw [if_neg (λh=>c2 h.2.1)]
 refine zaF g5 (y3.t (y4.t y5))<|zab zaM<|zaa zcQ (zak g1) (y2.t (y3.t (y4.t y5))) λv27 gg=>zaL u34 zcL gg oo oo λb29 o29 g3=>?_;rw [zaz] at g3;change At _ _ _ (atI c s t) at g3;have hlk:=zdv hc hs g0 (.inl (qad.1 c2));refine zab za8<|zac ty3 (zaq g3) (y2.t (y3.t (y4.t y5))) λgh=>?_;refine (zit h1 (e1.trans (y1.t (y2.t (y3.t (y4.t y5))))) oo oo).mono ?_;rintro _ w6_ ⟨y6,rfl⟩;refine zag<|br (λc3=>?_) (λc3=>?_)
 . refine ⟨(y1.t (y2.t (y3.t (y4.t (y5.t y6))))),?_⟩
   unfold za1;rw [if_neg oo]
 refine zab zaM<|zaa zcQ (zak g1) (y2.t (y3.t (y4.t (y5.t y6)))) λv36 gi=>zaL u34 zcL gi oo oo λb38 o38 g4=>?_;rw [zaz] at g4;change At _ _ _ (atI c s t) at g4;refine zab za8<|zac ty3 (zaq g4) (y2.t (y3.t (y4.t (y5.t y6)))) λgj=>⟨(y1.t (y2.t (y3.t (y4.t (y5.t y6))))),?_⟩;unfold za1;rw [if_pos ⟨g0,oo,oo⟩]
def zfr (c:DCode) (s:DState):Nat->List Int
 | 0=>[]
 | k+1=>if GoR c s k then zfr c s k++[(k:Int)] else zfr c s k
theorem zmd (c:DCode) (s:DState):∀ k,(zfr c s k).length<=k
 | 0=>qas _
 | k+1=>by
   have:=zmd c s k;rw [zfr];split
   . simp;omega
   omega
def zeQ (c:DCode) (s:DState):List Int:=zfr c s s.stacks.length
def zvg  (h0:Is W0 v0 c) (e0:Ext W0 w) (h1:Is W1 v1 s) (e1:Ext W1 w) (hc:CodeR c) (hs:zaE c s) :
   CALL tp 54 [v0,v1] w λr w'=>Ext w w'/\(Own w.heap.size w' r (zeQ c s)):=by
 refine co (g:=kf [] [(3,4193376,[5,10])] []) Tryz.func54 ?_;have g2:=hs.2.2.1;have σe0:=e0.size;have σe1:=e1.size;refine zat zbq rfl h0 e0 λw1_ y1 hA2 gb=>?_;have σ1:=y1.size;refine zat zc0 rfl h1 (e1.trans y1) λg1 y2 gc gd=>?_;have σ2:=y2.size;refine zab zbj<|zaa zeN (zaJ gc) (xrf g1) λv8 h8=>?_;have gf:=zaj h8;refine zae u44 h8<|zao (s.stacks.length) (λk us w'=>∃ v:Value,us=[v,.int .i64 (k:Int)]/\Ext g1 w'/\(RowI g1.heap.size w'.heap.size 3 w' v (zfr c s k))) (0) oo ⟨_,rfl,xrf g1,zb6 _ _ _ _⟩ ?_;rintro k m3 uu3 w3_ hk3 ⟨v5,hu,y3,C⟩;have σ3:=y3.size;obtain ⟨g3,g4⟩:=zcB hu;try rw [g3]
 try rw [g4]
 try clear g3 g4
 have hrl:=zmd c s k;refine zag<|br (λc1=>?_) (λc1=>?_)
 . refine zaF gb (y2.t y3) ?_
   refine zaF gd y3 ?_;refine (zxQ h0 (e0.t (y1.t (y2.t y3))) h1 (e1.trans (y1.t (y2.t y3))) aA aA).mono ?_;rintro _ g5 ⟨y4,rfl⟩;have σ4:=y4.size;refine br (λc2=>?_) (λc2=>?_)
   . refine zbO (α:=Int) u33 ty3 z3 zc3 qd (C.ext y4) oo (ownI_int (lo:=g5.heap.size) (hi:=g5.heap.size) (by first | assumption | (unfold I64 at *;omega))) oo oo (by rw [zal];omega) oo λv20 w5_ g0 gg=>?_
     have g9:=g0.size;refine zau<|⟨m3-1,oo,k+1,oo,_,rfl,(Ext.chgI (y3.t y4) g0 oo),?_⟩;rw [zfr,if_pos c2];exact gg
   refine zau<|⟨m3-1,oo,k+1,oo,_,rfl,(y3.t y4),?_⟩;rw [zfr,if_neg c2];exact (C.ext y4).mono oo oo
 refine ⟨(y1.t (y2.t y3)),?_⟩;have:k=s.stacks.length:=oo
 subst this;exact C.own.own.mono oo
def zme (c:DCode) (s:DState):List Int:=if CodeR c/\zaE c s then zeQ c s else []
def zne  (h0:Is W0 v0 c) (e0:Ext W0 w) (h1:Is W1 v1 s) (e1:Ext W1 w)  :
   CALL tp 34 [v0,v1] w λr w'=>Ext w w'/\(Own w.heap.size w' r (zme c s)):=by
 refine co (g:=kf [] [] []) Tryz.func34 ?_;have σe0:=e0.size;have σe1:=e1.size;refine zat zbq rfl h0 e0 λw1_ y1 hA2 g1=>?_;have σ1:=y1.size;refine zat zc0 rfl h1 (e1.trans y1) λg3 y2 hA3 g2=>?_;have σ2:=y2.size;refine zaF g1 y2<|zaF g2 (xrf g3) ?_;refine (zer h0 (e0.t (y1.t y2)) h1 (e1.trans (y1.t y2))).mono ?_;rintro _ w3_ ⟨y3,rfl⟩;have σ3:=y3.size;refine zav<|br (λc1=>?_) (λc1=>?_)
 . refine ⟨(y1.t (y2.t y3)),?_⟩
   unfold zme;rw [if_neg c1];exact zfP rfl
 refine zaF g1 (y2.t y3)<|zaF g2 y3 ?_;refine (zvg h0 (e0.t (y1.t (y2.t y3))) h1 (e1.trans (y1.t (y2.t y3))) (qad.1 c1).1 (qad.1 c1).2).mono ?_;rintro r11 w4_ ⟨y4,g0⟩;have g0:=g0.toI;have σ4:=y4.size;refine ⟨(y1.t (y2.t (y3.t y4))),?_⟩;unfold zme;rw [if_pos (qad.1 c1)];exact g0.own.mono oo
def zqK (c:DCode) (s:DState):Prop:=(CodeR c/\zaE c s)/\¬zBT s/\zeQ c s=[]
instance (c:DCode) (s:DState):Decidable (zqK c s):=by unfold zqK;infer_instance
def zi9 {n:Int} (h:0<=n):n.tmod 1000=n%1000:=qbL h
def zle {n:Int} (h:n<0):n.tmod 1000=-((-n)%1000):=by
 have h1:(-n).tmod 1000=(-n)%1000:=qbL oo;rw [Int.neg_tmod] at h1;omega
def zxR (n:Int):-1000<n.tmod 1000/\n.tmod 1000<1000:=by
 rcases qc1 n 0 with h | h
 . rw [zle h];omega
 rw [zi9 h];omega
def zmf {n:Int}   (hn:I64 n) :
   CALL tp 191 [.int .i64 n] w λr w'=>Ext w w'/\(r=.int .i64 (n%1000)):=by
 refine co (g:=kf [] [] []) Tryz.func191 ?_;have ht:=zxR n;refine zkx oo<|zc1 (by unfold I64;omega)<|zkx oo<|⟨xrf w,?_⟩;congr 1;rw [zi9 (n:=n.tmod 1000+1000) oo];rcases qc1 n 0 with h | h
 . rw [zle h];omega
 rw [zi9 h];omega
def zja {b:Bool}    :
   CALL tp 192 [.bool b] w λr w'=>Ext w w'/\(r=.int .i64 (if b=true then 1 else 0)):=by
 refine co (g:=kf [] [] []) Tryz.func192 ?_;refine zbz (λc1=>?_) (λc1=>?_)
 . refine ⟨xrf w,?_⟩
   rw [if_pos c1]
 refine ⟨xrf w,?_⟩;rw [if_neg (by simp [c1])]
def zhl {b:Bool}    :
   CALL tp 249 [.bool b] w λr w'=>Ext w w'/\(r=.int .i64 (if b=true then 1 else 0)):=by
 refine co (g:=kf [] [] []) Tryz.func249 ?_;refine zbz (λc1=>?_) (λc1=>?_)
 . refine ⟨xrf w,?_⟩
   rw [if_pos c1]
 refine ⟨xrf w,?_⟩;rw [if_neg (by simp [c1])]
def zhm {n:Int}   (hn:I64 n) :
   CALL tp 248 [.int .i64 n] w λr w'=>Ext w w'/\(r=.int .i64 (n%1000)):=by
 refine co (g:=kf [] [] []) Tryz.func248 ?_;have ht:=zxR n;refine zkx oo<|zag<|br (λc1=>?_) (λc1=>?_)
 . refine zc1 (by unfold I64;omega) ?_
   refine ⟨xrf w,?_⟩;congr 1;rcases qc1 n 0 with h | h
   . rw [zle h] at c1 ⊢;try omega
   rw [zi9 h] at c1 ⊢;try omega
 refine ⟨xrf w,?_⟩;congr 1;rcases qc1 n 0 with h | h
 . rw [zle h] at c1 ⊢;try omega
 rw [zi9 h] at c1 ⊢;try omega
def zaW:DTerm:=.mk 0 0 (ByteArray.mk #[]) []
def workT (names:List ByteArray) (vals:List Int):Nat->DTerm->Int
 | n,t=>if t.kind=1 then t.num%1000 else if t.kind=2 then (if 0<=plc t.name names/\plc t.name names<vals.length then vals.getD (plc t.name names).toNat 0%1000 else 0) else
   match n with
   | 0=>0
   | m+1=>
     if t.kind=8 then (if workT names vals m (t.kids.getD 0 zaW)=0 then 1 else 0)
     else if t.kind=3 then (workT names vals m (t.kids.getD 0 zaW)+workT names vals m (t.kids.getD 1 zaW))%1000
     else if t.kind=4 then (workT names vals m (t.kids.getD 0 zaW)-workT names vals m (t.kids.getD 1 zaW))%1000
     else if t.kind=5 then (workT names vals m (t.kids.getD 0 zaW)*workT names vals m (t.kids.getD 1 zaW))%1000
     else if t.kind=6 then (if workT names vals m (t.kids.getD 0 zaW)<workT names vals m (t.kids.getD 1 zaW) then 1 else 0)
     else if t.kind=7 then (if workT names vals m (t.kids.getD 0 zaW)=workT names vals m (t.kids.getD 1 zaW) then 1 else 0)
     else (if workT names vals m (t.kids.getD 0 zaW)≠0/\workT names vals m (t.kids.getD 1 zaW)≠0 then 1 else 0)
def zbf (names:List ByteArray) (vals:List Int) (n:Nat) (t:DTerm):workT names vals n t=(if t.kind=1 then t.num%1000 else if t.kind=2 then (if 0<=plc t.name names/\plc t.name names<vals.length then vals.getD (plc t.name names).toNat 0%1000 else 0) else
   match n with
   | 0=>0
   | m+1=>
     if t.kind=8 then (if workT names vals m (t.kids.getD 0 zaW)=0 then 1 else 0)
     else if t.kind=3 then (workT names vals m (t.kids.getD 0 zaW)+workT names vals m (t.kids.getD 1 zaW))%1000
     else if t.kind=4 then (workT names vals m (t.kids.getD 0 zaW)-workT names vals m (t.kids.getD 1 zaW))%1000
     else if t.kind=5 then (workT names vals m (t.kids.getD 0 zaW)*workT names vals m (t.kids.getD 1 zaW))%1000
     else if t.kind=6 then (if workT names vals m (t.kids.getD 0 zaW)<workT names vals m (t.kids.getD 1 zaW) then 1 else 0)
     else if t.kind=7 then (if workT names vals m (t.kids.getD 0 zaW)=workT names vals m (t.kids.getD 1 zaW) then 1 else 0)
     else (if workT names vals m (t.kids.getD 0 zaW)≠0/\workT names vals m (t.kids.getD 1 zaW)≠0 then 1 else 0)):=workT.eq_def names vals n t
def zdG (names:List ByteArray) (g0:List Int) (n:Nat) (t:DTerm):0<=workT names g0 n t/\workT names g0 n t<=999:=by
 rw [zbf];cases n<;>simp only<;>(repeat' split)<;>omega
theorem zxS {t:DTerm} (h:zbk n t=true) (h1:¬t.kind=1) (h2:¬t.kind=2):∃ m,n=m+1/\0<t.kids.length/\zbk m (t.kids.getD 0 zaW)=true/\(¬t.kind=8->1<t.kids.length/\zbk m (t.kids.getD 1 zaW)=true):=by
 rw [zbE h1 h2] at h;simp only [qap,decide_eq_true_eq] at h;obtain ⟨⟨_,h3⟩,h4⟩:=h;cases n with
 | zero=>simp at h4
 | succ m=>
   have g1:∀ k∈t.kids,zbk m k=true:=λk hk=>qaI.1 h4 k hk
   have hg:∀ i,i<t.kids.length->zbk m (t.kids.getD i zaW)=true:=λi hi=>by
     rw [List.getD_eq_getElem?_getD,List.getElem?_eq_getElem hi];exact g1 _ (qab hi)
   have g0:0<t.kids.length:=by split at h3<;>omega
   exact ⟨m,rfl,g0,hg 0 g0,λh8=>by rw [if_neg h8] at h3;exact ⟨oo,hg 1 oo⟩⟩
def zz1 (f:Nat) (n:Nat):Prop:=∀ {w W W1 W2:World} {v v1 v2:Value} {t:DTerm} {names:List ByteArray} {vals:List Int},Is W v t->Ext W w->Is W1 v1 names->Ext W1 w->Is W2 v2 vals->Ext W2 w->zbk n t=true ->
 CALL tp f [v,v1,v2] w λr w'=>Ext w w'/\r=.int .i64 (workT names vals n t)
def zkJ {t:DTerm} {names:(List ByteArray)} {C:(List Int)} (h0:Is W0 v0 t) (e0:Ext W0 w) (h1:Is W1 v1 names) (e1:Ext W1 w) (h2:Is W2 v2 C) (e2:Ext W2 w) (ih:∀ m,n=m+1->zz1 122 m) (gp:zbk n t=true) :
   CALL tp 122 [v0,v1,v2] w λr w'=>Ext w w'/\(r=.int .i64 (workT names C n t)):=by
 refine co (g:=kf [] [] []) Tryz.func122 ?_;refine zat zdj rfl h0 e0 λM y1 I hV3=>zab zeO<|zac ty3 (zbK I) (xrf M) λgc=>zai<|br (λc1=>?_) (λc1=>?_)
 . refine zab zf7 ?_
   refine zac ty3 (zci I) (xrf M) λgd=>?_;refine (zmf (by first | assumption | (unfold I64 at *;omega))).mono ?_;rintro _ w2_ ⟨y2,rfl⟩;refine ⟨(y1.t y2),?_⟩;rw [zbf names C n t,if_pos c1]
 refine zai<|br (λc2=>?_) (λc2=>?_)
 . refine zab zfi ?_
   refine zaB ty9 (zbS I) (xrf M) λgf=>?_;refine (zgI h1 (e1.trans y1)).mono ?_;rintro _ w3_ ⟨y3,rfl⟩;refine zag<|br (λc3=>?_) (λc3=>?_)
   . refine ⟨(y1.t y3),?_⟩
     rw [zbf,if_neg c1,if_pos c2,if_neg oo]
   have g2:=zaj h2;refine zae u33 h2<|zcb<|br (λc4=>?_) (λc4=>?_)
   . refine ⟨(y1.t y3),?_⟩
     rw [zbf,if_neg c1,if_pos c2,if_neg oo]
   refine zaL u33 ty3 h2 oo oo λb33 o33 gg=>zac ty3 gg (e2.trans (y1.t y3)) λgh=>?_;refine (zmf (by first | assumption | (unfold I64 at *;omega))).mono ?_;rintro _ w4_ ⟨y4,rfl⟩;refine ⟨(y1.t (y3.t y4)),?_⟩;rw [zbf,if_neg c1,if_pos c2,if_pos oo];congr 1;rw [List.getD_eq_getElem?_getD,List.getElem?_eq_getElem oo];rfl
 refine zab zcp<|zaa ziH (zaZ I) (xrf M) λv37 gi=>?_;obtain ⟨m,D,g3,gj,gl⟩:=zxS gp c1 c2;have g0:=zdG names C m (t.kids.getD 0 zaW);have O:=zdG names C m (t.kids.getD 1 zaW);refine zaL u51 zdj gi oo oo λb38 o38 g4=>?_;have gq:t.kids[(0:Int).toNat]'(by simpa using g3)=t.kids.getD 0 zaW:=by rw [List.getD_eq_getElem?_getD,List.getElem?_eq_getElem g3];rfl
 rw [gq] at g4;refine zaa zdj g4 (xrf M) λv39 gr=>?_;refine (ih m D gr (xrf M) h1 (e1.trans y1) h2 (e2.trans y1) aA).mono ?_;rintro _ w5_ ⟨y5,rfl⟩;refine zab zeO<|zac ty3 (zbK I) y5 λgs=>zai<|br (λc5=>?_) (λc5=>?_)
 . refine zai ?_
   refine (zja ).mono ?_;rintro _ w6_ ⟨y6,rfl⟩;refine ⟨(y1.t (y5.t y6)),?_⟩;rw [zbf names C n t,if_neg c1,if_neg c2,D];simp only [c5,if_true,decide_eq_true_eq]
 refine zab zcp<|zaa ziH (zaZ I) y5 λv50 gt=>?_;obtain ⟨g5,gx⟩:=gl c5;refine zaL u51 zdj gt oo oo λb51 o51 g9=>?_;have g1:t.kids[(1:Int).toNat]'(by simpa using g5)=t.kids.getD 1 zaW:=by rw [List.getD_eq_getElem?_getD,List.getElem?_eq_getElem g5];rfl
 rw [g1] at g9;refine zaa zdj g9 y5 λv52 gy=>?_;refine (ih m D gy y5 h1 (e1.trans (y1.t y5)) h2 (e2.trans (y1.t y5)) aA).mono ?_;rintro _ w7_ ⟨y7,rfl⟩;refine zab zeO<|zac ty3 (zbK I) (y5.t y7) λgz=>zai<|br (λc6=>?_) (λc6=>?_)
 . refine zc1 (by unfold I64;omega) ?_
   refine (zmf (by first | assumption | (unfold I64 at *;omega))).mono ?_;rintro _ w8_ ⟨y8,rfl⟩;refine ⟨(y1.t (y5.t (y7.t y8))),?_⟩;rw [zbf names C n t,if_neg c1,if_neg c2,D]
   dsimp only
   generalize workT names C m (t.kids.getD 0 zaW)=a at *;generalize workT names C m (t.kids.getD 1 zaW)=b at *
   simp_all
 refine zai<|br (λc7=>?_) (λc7=>?_)
 . refine zbc (by unfold I64;omega) ?_
   refine (zmf (by first | assumption | (unfold I64 at *;omega))).mono ?_;rintro _ w9_ ⟨y9,rfl⟩;refine ⟨(y1.t (y5.t (y7.t y9))),?_⟩;rw [zbf names C n t,if_neg c1,if_neg c2,D]
   dsimp only
   generalize workT names C m (t.kids.getD 0 zaW)=a at *;generalize workT names C m (t.kids.getD 1 zaW)=b at *
   simp_all
 refine zai<|br (λc8=>?_) (λc8=>?_)
 . refine znw (by unfold I64;have h1:=qcH g0.1 O.1;have h2:=qcI g0.2 O.2 O.1 (by omega:(0:Int)<=999);omega) ?_
   have gC:=qcH g0.1 O.1;have gb:=qcI g0.2 O.2 O.1 (by omega:(0:Int)<=999);refine (zmf (by first | assumption | (unfold I64 at *;omega))).mono ?_;rintro _ gD ⟨gE,rfl⟩;refine ⟨(y1.t (y5.t (y7.t gE))),?_⟩;rw [zbf names C n t,if_neg c1,if_neg c2,D]
   dsimp only
   generalize workT names C m (t.kids.getD 0 zaW)=a at *;generalize workT names C m (t.kids.getD 1 zaW)=b at *
   simp_all
 refine zai<|br (λc9=>?_) (λc9=>?_)
 . refine zag ?_
   refine (zja ).mono ?_;rintro _ gF ⟨gG,rfl⟩;refine ⟨(y1.t (y5.t (y7.t gG))),?_⟩;rw [zbf names C n t,if_neg c1,if_neg c2,D]
   dsimp only
   generalize workT names C m (t.kids.getD 0 zaW)=a at *;generalize workT names C m (t.kids.getD 1 zaW)=b at *
   simp_all
 refine zai<|br (λgH=>?_) (λgH=>?_)
 . refine zai ?_
   refine (zja ).mono ?_;rintro _ gI ⟨gJ,rfl⟩;refine ⟨(y1.t (y5.t (y7.t gJ))),?_⟩;rw [zbf names C n t,if_neg c1,if_neg c2,D]
   dsimp only
   generalize workT names C m (t.kids.getD 0 zaW)=a at *;generalize workT names C m (t.kids.getD 1 zaW)=b at *
   simp_all
 refine zaP<|br (λgK=>?_) (λgK=>?_)
 . refine zaP ?_
   refine (zja ).mono ?_;rintro _ gM ⟨gN,rfl⟩;refine ⟨(y1.t (y5.t (y7.t gN))),?_⟩;rw [zbf names C n t,if_neg c1,if_neg c2,D]
   dsimp only
   generalize workT names C m (t.kids.getD 0 zaW)=a at *;generalize workT names C m (t.kids.getD 1 zaW)=b at *
   simp_all
 refine (zja ).mono ?_;rintro _ gO ⟨gP,rfl⟩;refine ⟨(y1.t (y5.t (y7.t gP))),?_⟩;rw [zbf names C n t,if_neg c1,if_neg c2,D]
 dsimp only
 generalize workT names C m (t.kids.getD 0 zaW)=a at *;generalize workT names C m (t.kids.getD 1 zaW)=b at *
 simp_all
theorem znS (n:Nat):zz1 122 n:=by
 induction n with
 | zero=>intro w W W1 W2 v v1 v2 t names g0 h e h1 e1 h2 e2 g1;exact zkJ h e h1 e1 h2 e2 (λm hm=>oo) g1
 | succ n ih=>intro w W W1 W2 v v1 v2 t names g0 h e h1 e1 h2 e2 g1;exact zkJ h e h1 e1 h2 e2 (λm hm=>Nat.succ.inj hm▸ih) g1
def zkK {t:DTerm} {names:(List ByteArray)} {C:(List Int)} (h0:Is W0 v0 t) (e0:Ext W0 w) (h1:Is W1 v1 names) (e1:Ext W1 w) (h2:Is W2 v2 C) (e2:Ext W2 w) (ih:∀ m,n=m+1->zz1 201 m) (gt:zbk n t=true) :
   CALL tp 201 [v0,v1,v2] w λr w'=>Ext w w'/\(r=.int .i64 (workT names C n t)):=by
 refine co (g:=kf [] [(6,2199022731456,[7])] [(8,[0,1,2,3,4,5,6],0)]) Tryz.func201 ?_;refine zat zdj rfl h0 e0 λM y1 O hV3=>zab zeO<|zac ty3 (zbK O) (xrf M) λgd=>zai<|br (λc1=>?_) (λc1=>?_)
 . refine zab zf7 ?_
   refine zac ty3 (zci O) (xrf M) λgf=>?_;refine (zhm (by first | assumption | (unfold I64 at *;omega))).mono ?_;rintro _ w2_ ⟨y2,rfl⟩;refine ⟨(y1.t y2),?_⟩;rw [zbf names C n t,if_pos c1]
 refine zai<|br (λc2=>?_) (λc2=>?_)
 . refine zao (names.length) (λk us w'=>us=[.int .i64 (k:Int)]/\Ext M w'/\(t.name∉names.take k)) (0) oo ⟨sS,xrf M,sS⟩ ?_
   rintro k m6 uu6 gg hk6 ⟨hu,y3,D⟩;try replace hu:=zbt hu
   try rw [hu]
   try clear hu
   have hnl:=zaj h1;have g2:=zaj h1;refine zae u24 h1<|zag<|br (λc3=>?_) (λc3=>?_)
   . have y4:=zah gg
     refine zad u24 ty9 h1 oo λb27 o27 gh=>zaB ty9 gh (e1.trans (y1.t (y3.t y4))) λgi=>zab zfi<|zaB ty9 (zbS O) (y3.t y4) λgj=>zbe<|br (λc4=>?_) (λc4=>?_)
     . have g3:=zaj h2
       refine zae u33 h2<|zag<|br (λc5=>?_) (λc5=>?_)
       . refine zad u33 ty3 h2 oo λb38 o38 gl=>?_
         refine zac ty3 gl (e2.trans (y1.t (y3.t y4))) λgp=>?_;refine (zhm (by first | assumption | (unfold I64 at *;omega))).mono ?_;rintro _ w5_ ⟨y5,rfl⟩;refine ⟨(y1.t (y3.t (y4.t y5))),?_⟩;have hp:=znI (s:=t.name) (l:=names) (k:=k) oo D c4;rw [zbf names C n t,if_neg c1,if_pos c2,hp,if_pos oo];congr 1;rw [qah,List.getD_eq_getElem?_getD,List.getElem?_eq_getElem oo];rfl
       refine ⟨(y1.t (y3.t y4)),?_⟩;have hp:=znI (s:=t.name) (l:=names) (k:=k) oo D c4;rw [zbf names C n t,if_neg c1,if_pos c2,hp,if_neg oo]
     refine zau<|⟨m6-1,oo,k+1,oo,sS,(y3.t y4),?_⟩;exact zc7 oo D c4
   refine ⟨(y1.t y3),?_⟩;rw [qaf oo] at D;rw [zbf names C n t,if_neg c1,if_pos c2,zk7 D,if_neg oo]
 refine zab zcp<|zaa ziH (zaZ O) (xrf M) λv42 gq=>?_;obtain ⟨m,I,g4,gr,gs⟩:=zxS gt c1 c2;have g0:=zdG names C m (t.kids.getD 0 zaW);have U:=zdG names C m (t.kids.getD 1 zaW);refine zaL u51 zdj gq oo oo λb43 o43 g5=>?_;have gx:t.kids[(0:Int).toNat]'(by simpa using g4)=t.kids.getD 0 zaW:=by rw [List.getD_eq_getElem?_getD,List.getElem?_eq_getElem g4];rfl
 rw [gx] at g5;refine zaa zdj g5 (xrf M) λv44 gy=>?_;refine (ih m I gy (xrf M) h1 (e1.trans y1) h2 (e2.trans y1) aA).mono ?_;rintro _ w6_ ⟨y6,rfl⟩;refine zab zeO<|zac ty3 (zbK O) y6 λgz=>zai<|br (λc6=>?_) (λc6=>?_)
 . refine zai ?_
   refine (zhl ).mono ?_;rintro _ w7_ ⟨y7,rfl⟩;refine ⟨(y1.t (y6.t y7)),?_⟩;rw [zbf names C n t,if_neg c1,if_neg c2,I];simp only [c6,if_true,decide_eq_true_eq]
 refine zab zcp<|zaa ziH (zaZ O) y6 λv55 gC=>?_;obtain ⟨g9,gD⟩:=gs c6;refine zaL u51 zdj gC oo oo λb56 o56 gb=>?_;have g1:t.kids[(1:Int).toNat]'(by simpa using g9)=t.kids.getD 1 zaW:=by rw [List.getD_eq_getElem?_getD,List.getElem?_eq_getElem g9];rfl
 rw [g1] at gb;refine zaa zdj gb y6 λv57 gE=>?_;refine (ih m I gE y6 h1 (e1.trans (y1.t y6)) h2 (e2.trans (y1.t y6)) aA).mono ?_;rintro _ w8_ ⟨y8,rfl⟩;refine zab zeO<|zac ty3 (zbK O) (y6.t y8) λgF=>zai<|br (λc7=>?_) (λc7=>?_)
 . refine zc1 (by unfold I64;omega) ?_
   refine (zhm (by first | assumption | (unfold I64 at *;omega))).mono ?_;rintro _ w9_ ⟨y9,rfl⟩;refine ⟨(y1.t (y6.t (y8.t y9))),?_⟩;rw [zbf names C n t,if_neg c1,if_neg c2,I]
   dsimp only
   generalize workT names C m (t.kids.getD 0 zaW)=a at *;generalize workT names C m (t.kids.getD 1 zaW)=b at *
   simp_all
 refine zai<|br (λc8=>?_) (λc8=>?_)
 . refine zbc (by unfold I64;omega) ?_
   refine (zhm (by first | assumption | (unfold I64 at *;omega))).mono ?_;rintro _ gG ⟨gH,rfl⟩;refine ⟨(y1.t (y6.t (y8.t gH))),?_⟩;rw [zbf names C n t,if_neg c1,if_neg c2,I]
   dsimp only
   generalize workT names C m (t.kids.getD 0 zaW)=a at *;generalize workT names C m (t.kids.getD 1 zaW)=b at *
   simp_all
 refine zai<|br (λc9=>?_) (λc9=>?_)
 . refine znw (by unfold I64;have h1:=qcH g0.1 U.1;have h2:=qcI g0.2 U.2 U.1 (by omega:(0:Int)<=999);omega) ?_
   have gI:=qcH g0.1 U.1;have gc:=qcI g0.2 U.2 U.1 (by omega:(0:Int)<=999);refine (zhm (by first | assumption | (unfold I64 at *;omega))).mono ?_;rintro _ gJ ⟨gK,rfl⟩;refine ⟨(y1.t (y6.t (y8.t gK))),?_⟩;rw [zbf names C n t,if_neg c1,if_neg c2,I]
   dsimp only
   generalize workT names C m (t.kids.getD 0 zaW)=a at *;generalize workT names C m (t.kids.getD 1 zaW)=b at *
   simp_all
 refine zai<|br (λgM=>?_) (λgM=>?_)
 . refine zag ?_
   refine (zhl ).mono ?_;rintro _ gN ⟨gO,rfl⟩;refine ⟨(y1.t (y6.t (y8.t gO))),?_⟩;rw [zbf names C n t,if_neg c1,if_neg c2,I]
   dsimp only
   generalize workT names C m (t.kids.getD 0 zaW)=a at *;generalize workT names C m (t.kids.getD 1 zaW)=b at *
   simp_all
 refine zai<|br (λgP=>?_) (λgP=>?_)
 . refine zai ?_
   refine (zhl ).mono ?_;rintro _ gQ ⟨gR,rfl⟩;refine ⟨(y1.t (y6.t (y8.t gR))),?_⟩;rw [zbf names C n t,if_neg c1,if_neg c2,I]
   dsimp only
   generalize workT names C m (t.kids.getD 0 zaW)=a at *;generalize workT names C m (t.kids.getD 1 zaW)=b at *
   simp_all
 refine zaP<|br (λgS=>?_) (λgS=>?_)
 . refine zaP ?_
   refine (zhl ).mono ?_;rintro _ gU ⟨gV,rfl⟩;refine ⟨(y1.t (y6.t (y8.t gV))),?_⟩;rw [zbf names C n t,if_neg c1,if_neg c2,I]
   dsimp only
   generalize workT names C m (t.kids.getD 0 zaW)=a at *;generalize workT names C m (t.kids.getD 1 zaW)=b at *
   simp_all
 refine (zhl ).mono ?_;rintro _ gW ⟨gX,rfl⟩;refine ⟨(y1.t (y6.t (y8.t gX))),?_⟩;rw [zbf names C n t,if_neg c1,if_neg c2,I]
 dsimp only
 generalize workT names C m (t.kids.getD 0 zaW)=a at *;generalize workT names C m (t.kids.getD 1 zaW)=b at *
 simp_all
theorem zvh (n:Nat):zz1 201 n:=by
 induction n with
 | zero=>intro w W W1 W2 v v1 v2 t names g0 h e h1 e1 h2 e2 g1;exact zkK h e h1 e1 h2 e2 (λm hm=>oo) g1
 | succ n ih=>intro w W W1 W2 v v1 v2 t names g0 h e h1 e1 h2 e2 g1;exact zkK h e h1 e1 h2 e2 (λm hm=>Nat.succ.inj hm▸ih) g1
def zjb {t:DTerm} {names:(List ByteArray)} {g0:(List Int)}  (h0:Is W0 v0 t) (e0:Ext W0 w) (h1:Is W1 v1 names) (e1:Ext W1 w) (h2:Is W2 v2 g0) (e2:Ext W2 w) (g3:zbk 6 t=true) :
   CALL tp 127 [v0,v1,v2] w λr w'=>Ext w w'/\(r=.int .i64 (workT names g0 6 t)):=by
 refine co (g:=kf [] [] []) Tryz.func127 ?_;refine zat zdj rfl h0 e0 λg2 y1 hA3 g1=>zaF g1 (xrf g2) ?_;refine (zcU h0 (e0.t y1)).mono ?_;rintro _ w2_ ⟨y2,rfl⟩;refine zaV<|zbz (λc1=>?_) (λc1=>?_)
 . refine ⟨(y1.t y2),?_⟩
   simp [g3] at c1
 refine zaF g1 y2 ?_;refine (zvh 6 h0 (e0.t (y1.t y2)) h1 (e1.trans (y1.t y2)) h2 (e2.trans (y1.t y2)) aA).mono ?_;rintro _ w3_ ⟨y3,rfl⟩;refine ⟨(y1.t (y2.t y3)),?_⟩;rfl
def zcy (c:DCode) (s:DState) (t:Int):Int:=
 if (atI c s t).op=2 then (if workT c.globals s.vars 6 (atI c s t).term=0 then (atI c s t).to else zbu s t+1) else if (atI c s t).op=3 then (atI c s t).to else zbu s t+1
def zaQ (c:DCode) (s:DState) (t:Int):DState:=
 if (atI c s t).op=1 then ⟨s.vars.set (atI c s t).arg.toNat (workT c.globals s.vars 6 (atI c s t).term),s.owner,s.stacks⟩
 else if (atI c s t).op=5 then (if s.stacks.length<6 then ⟨s.vars,s.owner,s.stacks++[[en c (atI c s t).arg.toNat]]⟩ else s)
 else if (atI c s t).op=6 then ⟨s.vars,s.owner.set (atI c s t).arg.toNat t,s.stacks⟩
 else if (atI c s t).op=7 then (if ow s (atI c s t).arg=t then ⟨s.vars,s.owner.set (atI c s t).arg.toNat (-1),s.stacks⟩ else s)
 else s
def zeR (l:List Int):List Int:=if l.length-1=0 then [] else (l.take (l.length-1)).set (l.length-2) (st l (l.length-2)+1)
def zba (c:DCode) (s:DState) (t:Int):DState:=
 if (atI c s t).op=4 then ⟨s.vars,s.owner,s.stacks.set t.toNat (stk s t++[en c (atI c s t).arg.toNat])⟩
 else if (atI c s t).op=9 then ⟨s.vars,s.owner,s.stacks.set t.toNat (zeR (stk s t))⟩
 else ⟨(zaQ c s t).vars,(zaQ c s t).owner,(zaQ c s t).stacks.set t.toNat ((stk s t).set ((stk s t).length-1) (zcy c s t))⟩
def zxT {z:DStV} (h:OwnI lo hi w v z):OwnI lo hi w v z.er:=by
 obtain ⟨F,⟨⟨cs,hr,hv⟩,hn,hw⟩,hF⟩:=h;obtain ⟨F0,c0,F1,c1,F2,c2,rfl,rfl,h0,h1,h2⟩:=ztR hr;exact ⟨_,⟨⟨_,zny (x:=z.er) h0 h1 (zBN h2),hv⟩,hn,hw⟩,hF⟩
def zfF {t:Int} (hs:zaE c s) (hg:0<=zbu s t):∃ tn:Nat,t=tn/\tn<s.stacks.length/\stk s t≠[]/\(stk s t).length<=8/\zbu s t=st (stk s t) ((stk s t).length-1):=by
 obtain ⟨h0,h1⟩:=zd0 hg;have h2:=zgQ h0 h1;have g0:stk s t≠[]:=λe=>by rw [h2,e] at hg;simp [List.getLastD] at hg
 have hm:=hs.2.2.2.2.2 (stk s t) (by rw [<-zdZ h1];exact qab _);exact ⟨t.toNat,oo,h1,g0,hm.1,by rw [h2,zo9 g0]⟩
def zpb (hc:CodeR c) (hs:zaE c s):zCV s:=by
 have h1:=hc.1.globals6;have h2:=hc.1.locks6;have h3:=hs.1;have h4:=hs.2.1;have h5:=hs.2.2.1;exact ⟨oo,oo,oo,λx hx=>by have:=(hs.2.2.2.2.2 x hx).1;omega⟩
def zdd {t e:TypeId} {b a n cap sz by_ k:Nat} (ht:P.underlying t=some (.slice e)) (he:tyI P e=some (sz,by_,ag)) (hu:u=.slice (some ⟨b,a,none⟩) n cap) (hk:k<n) (kk:K (.pointer (some ⟨b,a+k*sz,none⟩))) :
   RD P (Instr.indexAt t u (.int .i64 (k:Int))) w K:=by
 subst hu;exact zbb (λw' _=>by rw [zch ht he oo oo];simp) kk
def zjc {z:DStV} (h:VarI lo hi w g z) (hg:lo<=g/\g<hi) (hk:k<z.owner.length):∃ u b a cap,w.rangeAt g (0+1) [u]/\Is w u z.owner/\u=.slice (some ⟨b,a,none⟩) z.owner.length cap /\
   ∀ w1,Ext w w1->∀ (g0:Int),I64 g0->∀ K:World->Prop,(∀ w2,ChgI lo hi w1 w2->VarI lo hi w2 g (⟨z.vars,z.owner.set k g0,z.stacks⟩:DStV)->K w2)->OPU tp (Instr.storeAt 3 (.pointer (some ⟨b,a+k*1,none⟩)) (.int .i64 g0)) w1 K:=by
 obtain ⟨F,hO,hF⟩:=h;obtain ⟨G1,g1⟩:=zsj (Lens.var hO);obtain ⟨u,b,a,cap,G2,hr,g2,hu,g3⟩:=g1.elem hk;exact ⟨u,b,a,cap,hr,g2,hu,λw1 hx g0 hI K kk=>zhM ty3 (g3.ext hx) hF hg (zbA hI) kk⟩
def ztX {z:DStV} (h:VarI lo hi w g z) (hg:lo<=g/\g<hi) (hk:k<z.vars.length):∃ u b a cap,w.rangeAt g (0+0) [u]/\Is w u z.vars/\u=.slice (some ⟨b,a,none⟩) z.vars.length cap /\
   ∀ w1,Ext w w1->∀ (g0:Int),I64 g0->∀ K:World->Prop,(∀ w2,ChgI lo hi w1 w2->VarI lo hi w2 g (⟨z.vars.set k g0,z.owner,z.stacks⟩:DStV)->K w2)->OPU tp (Instr.storeAt 3 (.pointer (some ⟨b,a+k*1,none⟩)) (.int .i64 g0)) w1 K:=by
 obtain ⟨F,hO,hF⟩:=h;obtain ⟨G1,g1⟩:=zsi (Lens.var hO);obtain ⟨u,b,a,cap,G2,hr,g2,hu,g3⟩:=g1.elem hk;exact ⟨u,b,a,cap,hr,g2,hu,λw1 hx g0 hI K kk=>zhM ty3 (g3.ext hx) hF hg (zbA hI) kk⟩
def zdo (h:w.rangeAt b o [u]) (h':w.rangeAt b o [u']):u=u':=by
 have h1:=h 0 u rfl;have h2:=h' 0 u' rfl;rw [h1] at h2;exact qaW h2
def zxU {z:DStV} (h:OAt F w g 0 z):OAt F w g 0 z.er:=by
 obtain ⟨cs,hr,g0⟩:=h;obtain ⟨F0,c0,F1,c1,F2,c2,rfl,rfl,h0,h1,h2⟩:=ztR hr;exact ⟨_,zny (x:=z.er) h0 h1 (zBN h2),g0⟩
def zEs {t e:TypeId} {l:List Int} (ht:P.underlying t=some (.slice e)) (he:tyI P e=some (1,by_,false)) (hm:Mine G w u l) (hk:k<=l.length) (g4:l≠[])
   (kk:∀ b a cap v G',u=.slice (some ⟨b,a,none⟩) l.length cap->Mine G' w v (l.take k)->(∀ c∈G',c∈G)->(0<k->v=.slice (some ⟨b,a,none⟩) k k)->K v):RD P (Instr.sliceAt t u none (some (.int .i64 (k:Int))) (some (.int .i64 (k:Int)))) w K:=by
 obtain ⟨⟨cs,⟨a,cap,Fi,xs,rfl,h1,h2,hc,h4⟩,rfl⟩,hn,hw⟩:=hm;rcases h4 with ⟨h4,_⟩ | ⟨b,o,rfl,rfl,hr,hb⟩
 . exact absurd h4 g4
 have g5:=Cells.flat (xs:=xs) hc;subst g5
 have g9:∀ w',(Instr.sliceBounds true l.length cap none (some (.int .i64 (k:Int))) (some (.int .i64 (k:Int)))).run P w'=.ok (0,k,k) w':=λw'=>by
   have h5:(k:Int)<=(cap:Int):=oo
   simp [Instr.sliceBounds,Instr.sliceBound,asIntOf,h5]
 have e0:l=l.take k++l.drop k:=by simp
 have g2:=hc;rw [e0] at g2;obtain ⟨F1,F2,x1,x2,gb,rfl,c1,c2⟩:=Cells.split g2;obtain ⟨rfl,rfl⟩:=qbK.1 gb.symm;have g3:(l.take k).length=k:=by simp;omega
 have g0:∃ v:Value,(∀ w',(Instr.sliceAt t (.slice (some ⟨b,o,none⟩) l.length cap) none (some (.int .i64 (k:Int))) (some (.int .i64 (k:Int)))).run P w'=.ok v w')/\v=.slice (some ⟨b,o,none⟩) k k:=by
   refine ⟨_,λw'=>?_,rfl⟩;simp only [Instr.sliceAt,Instr.slice,Sem.run_bind,run_underlying ht,Result.andThen_ok,g9,zaS he];simp [Addr.add_mid]
 obtain ⟨v,g1,rfl⟩:=g0;refine zbb (λw' _=>g1 w') ?_;by_cases h0:k=0
 . subst h0
   refine kk b o cap _ [] rfl ?_ sS (λh=>oo);have:l.take 0=[]:=by simp
   rw [this];exact ⟨⟨_,⟨some ⟨b,o,none⟩,0,[],[],rfl,lr _,z0 _,⟨rfl,rfl⟩,.inl ⟨rfl,rfl⟩⟩,rfl⟩,qaq,Wr.nil w⟩
 refine kk b o cap _ [b] rfl ?_ sS (λ_=>rfl);refine ⟨⟨_,⟨some ⟨b,o,none⟩,k,[],x1,rfl,by rw [g3];exact qas _,oo,c1,.inr ⟨b,o,rfl,rfl,(zaO hr).1,hb⟩⟩,by rw [g3];rfl⟩,sS,hw.sub sS⟩
def zpc {z:DStV} (h:VarI lo hi w g z):VarI lo hi w g z.er:=by
 obtain ⟨F,h,hF⟩:=h;exact ⟨F,zxU h,hF⟩
def zEt {z:DState} (h:OwnI lo hi w v z):∃ a b c,v=.agg #[a,b,c]:=by
 obtain ⟨F,⟨⟨cs,hr,rfl⟩,_⟩,_⟩:=h;obtain ⟨F0,c0,F1,c1,F2,c2,rfl,rfl,⟨_,_,_,_,rfl,_⟩,⟨_,_,_,_,rfl,_⟩,⟨_,_,_,_,rfl,_⟩⟩:=znz hr;exact ⟨_,_,_,rfl⟩
def zxV {t:Int} (hc:CodeR c) (hs:zaE c s) (h:0<=zbu s t) (ho:(atI c s t).op=1):0<=(atI c s t).arg/\(atI c s t).arg.toNat<s.vars.length:=by
 have h1:=(zi8 hc hs h).2.1;have h2:=hs.1;unfold zcl at h1;rw [if_pos ho] at h1;omega
def zhQ {t:Int} (hc:CodeR c) (hs:zaE c s) (h:0<=zbu s t) (ho:(atI c s t).op=4\/(atI c s t).op=5):0<=(atI c s t).arg/\(atI c s t).arg.toNat<c.entry.length:=by
 have h1:=(zi8 hc hs h).2.1;have h2:=hc.2.1.1;unfold zcl at h1;rw [if_neg oo,if_pos ho] at h1;omega
def zvi {t:Int} (h0:Is W0 v0 c) (e0:Ext W0 w) (h1:Is W1 v1 s) (e1:Ext W1 w) (hc:CodeR c) (hs:zaE c s) (j0:GoR c s t) :
   CALL tp 55 [v0,v1,.int .i64 t] w λr w'=>Ext w w'/\Own w.heap.size w' r (zba c s t):=by
 obtain ⟨tn,rfl,gW,jN,hl8,d7⟩:=zfF hs j0.1;have h4:=zh7 hs tn;have gd:0<=zbu s tn:=j0.1;have d8:=qaN.2 jN;refine co (g:=⟨extL,[(30,22300745198530623141535718272648327146244096,[11])],[],[(4,[0,1,2,3,4,5,6,7,8,9],256),(8,[0,1,2,3,4,5,6,7,8,9,10,11,12],1024),(15,[0,1,2,3,4,5,6,7,8,9,10,11,12,13],3072),(19,[0,1,2,3,4,5,6,7,8,9,10,11,12],768),(26,[0,1,2,3,4,5,6,7,8],0)],[],[15],[]⟩) Tryz.func55 ?_;refine za9 h0 e0 λw1 jb h5=>za9 h1 (e1.trans jb) λw2 h6 jc=>zb5 zxL λw3 gN jO=>?_;have hg3:=jO.lt;have hs1:=jb.size;have hs2:=h6.size;refine zaa zc0 jc gN λv12 d9=>?_;refine (zkH d9 gN (zpb hc hs)).mono ?_;rintro r13 w4 ⟨jP,z,da,hz⟩;have hs4:=jP.size;refine zee (α:=DStV) zxL λw5 jd jQ=>?_;have hs5:=jd.size;have hg5:=jQ.lt;refine zbn zc0 jQ (da.ext jd) oo λw6 jR j1=>?_;have hs6:=jR.size;have gO:Ext w3 w6:=Ext.chgI (jP.t jd) jR oo;have gh:z.stacks.l.map RV.l=s.stacks:=congrArg DState.stacks hz;have gP:tn<z.stacks.l.length:=by have:=congrArg List.length gh;simp at this;omega
 refine zab zbj<|zaa (α:=RIntss) zeN (zfq j1.at) (xrf w6) λv15 db=>?_;obtain ⟨rfl,dc⟩:=znb db;refine zad (α:=RInts) u44 za4 dc gP λb17 o17 je=>zaa (α:=RInts) za4 je (xrf w6) λv18 dd=>?_;obtain ⟨rfl,j2⟩:=znb dd;obtain ⟨x,hx⟩:∃ x,x=z.stacks.l[tn]:=⟨_,rfl⟩
 have gc:x.l=stk s tn:=by
   have e1:(z.stacks.l.map RV.l)[tn]?=s.stacks[tn]?:=by rw [gh]
   rw [List.getElem?_map,List.getElem?_eq_getElem gP,List.getElem?_eq_getElem gW] at e1;have e2:=qaW e1;rw [hx,e2];exact zdZ (t:=(tn:Int)) (by simpa using gW)
 rw [<-hx] at j2 ⊢;refine zae u33 j2<|zbc (by unfold I64;rw [gc];omega) ?_;obtain ⟨top,h8⟩:∃ top:Nat,(x.l.length:Int)-1=top:=⟨x.l.length-1,by rw [gc];omega⟩;have j3:top<x.l.length:=oo
 rw [h8];have gQ:=zah w6;have hs7:=gQ.size;have g1:Ext w1 w6:=h6.t (gN.t gO);have gs:Ext w2 w6:=gN.t gO;refine zab zaM<|zaa zcQ (zak h5) (g1.t gQ) λv23 de=>zad u33 ty3 j2 j3 λb26 o26 h9=>?_
 have ha:x.l[top]=zbu s tn:=by
   rw [zfE,d7,gc];congr 1;rw [gc] at h8;omega
 rw [ha] at h9;refine zac ty3 h9 gQ λdf=>zaL u34 zcL de j0.1 oo λb28 o28 hb=>?_;rw [zaz] at hb;refine zaa zcL hb (g1.t gQ) λv29 dg=>zrV zqd rfl zcL rfl dg (g1.t gQ) λw8 jf X dh=>?_;have hs8:=jf.size;refine zad u33 ty3 j2 j3 λb32 o32 hd=>?_;rw [ha] at hd;refine zac ty3 hd (gQ.t jf) λdi=>?_;have dj:=hc.f.ins;refine zc1 (by unfold I64;omega) ?_;have hR:=zi8 hc hs j0.1;obtain ⟨I,hI⟩:∃ I,I=atI c s tn:=⟨_,rfl⟩;have X:At w8 (World.drew1 w6).heap.size 0 I:=by rw [hI];exact X
 have U:=gQ.t jf;have g5:VarI w3.heap.size w8.heap.size w8 w4.heap.size z:=(j1.ext U).mono (lr _) oo;have Y:Ext w3 w8:=gO.t U
 have gt:∀ (zz:DState) (w9:World),Ext w3 w9->VarI w3.heap.size w9.heap.size w9 w4.heap.size zz->zz=zba c s tn ->
     RD tp (Instr.loadAt 46 (.pointer (some ⟨w4.heap.size,0,none⟩))) w9 λjg=>OPU tp (Instr.storeAt 46 (.pointer (some ⟨w2.heap.size,0,none⟩)) jg) w9 λw'=>
       RD tp (zfN 46 (.pointer (some ⟨w2.heap.size,0,none⟩))) w' λr6=>Ext w w'/\Own w.heap.size w' r6 (zba c s tn):=by
   intro zz w9 D j4 he;have hf:=D.size;refine zdb zc0 j4 (xrf w9) λdk gR=>?_;obtain ⟨a,b,c',rfl⟩:=zEt gR;refine zcg (α:=DState) zc0 rfl (jO.ext D) rfl gR λg0 gi jh=>zeI jh zc0<|⟨Ext.chgI (jb.t (h6.t (gN.t D))) gi oo,?_⟩;have:=gR.chg gi oo;rw [he] at this;exact this.own.mono oo
 refine JOIN.mk (λus w'=>us=[.int .i64 (zcy c s tn)]/\Ext w3 w'/\∃ z':DStV,VarI w3.heap.size w'.heap.size w' w4.heap.size z'/\z'.vars=(zaQ c s tn).vars/\z'.owner=(zaQ c s tn).owner/\z'.stacks.l.map RV.l=(zaQ c s tn).stacks/\z'.stacks.l[tn]?=some x/\(I.op≠4/\I.op≠9)) ?_ ?_
 . refine zab zbp ?_
   refine zac ty3 (zaw X) (xrf w8) λ_=>?_;have gx:z.vars=s.vars:=congrArg DState.vars hz;have gj:z.owner=s.owner:=congrArg DState.owner hz;have gS:z.stacks.l[tn]?=some x:=by rw [List.getElem?_eq_getElem gP,hx]
   have gy:∀ w9,Ext w8 w9->(I.op≠1/\I.op≠4/\I.op≠5/\I.op≠6/\I.op≠7/\I.op≠9)->∃ z':DStV,VarI w3.heap.size w9.heap.size w9 w4.heap.size z'/\z'.vars=(zaQ c s tn).vars/\z'.owner=(zaQ c s tn).owner/\z'.stacks.l.map RV.l=(zaQ c s tn).stacks/\z'.stacks.l[tn]?=some x/\(I.op≠4/\I.op≠9):=by
     rintro w9 D ⟨q1,q4,q5,q6,q7,q9⟩;have he:zaQ c s tn=s:=by unfold zaQ;rw [<-hI,if_neg q1,if_neg q5,if_neg q6,if_neg q7]
     rw [he];exact ⟨z,(g5.ext D).mono (lr _) D.size,gx,gj,gh,gS,q4,q9⟩
   have gG:I.op≠2->I.op≠3->zcy c s tn=zbu s tn+1:=λq2 q3=>by unfold zcy;rw [<-hI,if_neg q2,if_neg q3]
   refine zai<|br (λq1=>?_) (λq1=>?_)
   . have D:=zah w8
     have hf:=D.size;have gH:=g5.lt;obtain ⟨g2,g3⟩:=zxV hc hs gd (hI▸q1);rw [<-hI] at g2 g3;obtain ⟨ar,g4⟩:∃ ar:Nat,I.arg=ar:=⟨I.arg.toNat,oo⟩;have Z:ar<z.vars.length:=by rw [gx];omega
     obtain ⟨u,b,a,cap,hr,ji,hu,hh⟩:=ztX (g5.ext D) oo Z;refine zab zfh<|zcD za4 hr<|zab za8<|zac ty3 (zaq X) D λ_=>zab zeP<|zaa zdj (zcd X) D λdl jj=>zab zdI<|zaa zcv (zbm h5) (g1.t (U.t D)) λdm jk=>zab zfh<|zaa za4 (zbQ jc) (gs.t (U.t D)) λdn jl=>?_
     have jm:zbk 6 I.term=true:=by
       have:=hR.2.2.1;rw [<-hI,if_pos (.inl q1)] at this;exact this.1
     refine (znS 6 jj D jk (g1.t (U.t D)) jl (gs.t (U.t D)) jm).mono ?_;rintro _ g0 ⟨V,rfl⟩;refine ⟨V,?_⟩;have gz:=V.size;rw [g4];refine zdd u33 ty3 hu Z ?_;have hwr:=zdG c.globals s.vars 6 I.term;refine hh g0 V _ (by unfold I64;omega) _ λgC O g9=>?_;have gl:=O.size;have C:zaQ c s tn=⟨s.vars.set I.arg.toNat (workT c.globals s.vars 6 I.term),s.owner,s.stacks⟩:=by unfold zaQ;rw [<-hI,if_pos q1]
     refine ⟨by rw [gG oo oo],Ext.chgI ((Y.t D).trans V) O oo,_,g9.mono (lr _) oo,?_,?_,?_,gS,oo,oo⟩
     . rw [C,gx,g4];rfl
     . rw [C];exact gj
     rw [C];exact gh
   refine zai<|br (λq2=>?_) (λq2=>?_)
   . refine zab zeP ?_
     refine zaa zdj (zcd X) (xrf w8) λdl jj=>zab zdI<|zaa zcv (zbm h5) (g1.t U) λdm jk=>zab zfh<|zaa za4 (zbQ jc) (gs.t U) λdn jl=>?_
     have jm:zbk 6 I.term=true:=by
       have:=hR.2.2.1;rw [<-hI,if_pos (.inr q2)] at this;exact this.1
     refine (znS 6 jj (xrf w8) jk (g1.t U) jl (gs.t U) jm).mono ?_;rintro _ w9 ⟨D,rfl⟩;refine zai<|br (λq=>?_) (λq=>?_)
     . refine zab zea ?_
       refine zac ty3 (zb3 X) D λ_=>⟨by unfold zcy;rw [<-hI,if_pos q2,if_pos q],Y.t D,gy w9 D oo⟩
     exact ⟨by unfold zcy;rw [<-hI,if_pos q2,if_neg q],Y.t D,gy w9 D oo⟩
   refine zai<|br (λq3=>?_) (λq3=>?_)
   . refine zab zea ?_
     refine zac ty3 (zb3 X) (xrf w8) λ_=>⟨by unfold zcy;rw [<-hI,if_neg q2,if_pos q3],Y,gy w8 (xrf w8) oo⟩
   have hn:=gG q2 q3;refine zai<|br (λq4=>?_) (λq4=>?_)
   . have D:=zah w8
     have hf:=D.size;have gH:=g5.lt;obtain ⟨g2,g3⟩:=zhQ hc hs gd (.inl (hI▸q4));rw [<-hI] at g2 g3;obtain ⟨ar,g4⟩:∃ ar:Nat,I.arg=ar:=⟨I.arg.toNat,oo⟩;obtain ⟨F,hO,hF⟩:=j1.ext (U.t D);have gX:=hO.lts;obtain ⟨G1,gg⟩:=zdn (Lens.var hO);obtain ⟨b2,a2,hj,G2,jS,jn,gf⟩:=gg.elemV gP;rw [<-hx] at gf;obtain ⟨dp,⟨rfl,_⟩,hk,_,_,dq,_⟩:=gg.here;obtain ⟨cs,⟨rfl,gU⟩,_,jo,_,hb2,_⟩:=gf.here
     have jp:∀ c∈G2,c∈F:=λc M=>by
       rcases qaa.1 (gf.sub c (by simp [M])) with rfl | h
       . exact absurd (jn _ (by simp [M])) dq
       exact h
     have j5:∀ c∈G2,w3.heap.size<=c/\c<w4.heap.size:=λc M=>hF c (jp c M);have j6:∀ c,c∈G2->w3.heap.size<=c:=λc M=>(j5 c M).1;have gb:=Y.t D;refine XR.mk (λc=>c∈G2)<|zfp zbj<|zfD zeN hk (λh=>by have:=j5 _ h;omega)<|zfp zbi<|zdY (w0:=w3) j6 gb<|zaa za4 (zar h5) (h6.t gN) λv74 dr=>zfp za8<|zfD ty3 (zbI (zxx (zaq X)) D) (λh=>by have:=j5 _ h;omega) ?_;rw [g4];refine zdY (w0:=w3) j6 gb<|zad u33 ty3 dr oo λb77 o77 hl=>?_;rw [zbx] at hl;refine zdY (w0:=w3) j6 gb<|zac ty3 hl (h6.t gN) λjq=>zdD (β:=Int) (G:=G2) u33 ty3 z3 zc3 qd gU jo (zbA jq) sS (by rw [zal,gc];omega) (by rw [gc];omega) (λg0 v80 gC G' V O jr js gl=>?_) λsv g0 V jt=>⟨V.toX,jt⟩;refine ⟨O.toX (λc h=>h),?_⟩;have gz:=V.size;have jT:=O.size;have gI:Chg G2 (World.drew1 w8) gC:=(V.chg G2).trans O;have hq:Ext w3 gC:=Ext.chgI gb (gI.toI (lo:=w3.heap.size) (hi:=w4.heap.size) j5) (lr _);refine zdY (w0:=w3) j6 hq<|zdd u44 za4 jS gP<|zhN za4 gf gX gI jr js (λc M=>?_) λj7 gD ⟨F',gp,ht⟩=>?_
     . rcases gl c M with h | h | h
       . exact .inl h
       . simp at h
       exact .inr h
     have hv:=gD.size
     have hw:ChgI w3.heap.size w8.heap.size (World.drew1 w8) j7:=gD.toI λc M=>by
       have:=gf.sub c M;rcases qaa.1 this with rfl | h
       . exact ⟨oo,gH⟩
       have:=hF c h;omega
     refine gt _ j7 (Ext.chgI gb hw (lr _)) (zpc ⟨F',gp,λc M=>?_⟩) ?_
     . have h1:=gp.lts c (by simp [M])
       rcases ht c M with h | h
       . rcases qaa.1 h with rfl | h
         . obtain ⟨_,_,_,_,_,hy,_⟩:=gp;exact absurd M hy
         have:=hF c h;omega
       omega
     unfold zba DStV.er;have e1:((tn:Int)).toNat=tn:=oo
     rw [<-hI,if_pos q4];simp only [DState.mk.injEq,gx,gj,true_and];rw [qcg,gh,gc,e1,g4,qah]
   refine zai<|br (λq5=>?_) (λq5=>?_)
   . have gH:=g5.lt
     obtain ⟨g2,g3⟩:=zhQ hc hs gd (.inr (hI▸q5));rw [<-hI] at g2 g3;obtain ⟨ar,g4⟩:∃ ar:Nat,I.arg=ar:=⟨I.arg.toNat,oo⟩;have gq:z.stacks.l.length=s.stacks.length:=by have:=congrArg List.length gh;simpa using this
     refine zab zbj<|zaa (α:=RIntss) zeN (zfq g5.at) (xrf w8) λv86 ds=>?_;obtain ⟨rfl,dt⟩:=znb ds;refine zae u44 dt ?_;rw [gq];refine zag<|br (λqq=>?_) (λqq=>?_)
     . have D:=zah w8
       have hf:=D.size;obtain ⟨F,hO,hF⟩:=g5.ext D;have gX:=hO.lts;obtain ⟨G1,gg⟩:=zdn (Lens.var hO);refine zab zbj<|zla zeN (zfq g5.at) D<|zab zbi<|zaa za4 (zar h5) (g1.t (U.t D)) λv92 du=>zab za8<|zac ty3 (zaq X) D λ_=>?_;rw [g4];refine zad u33 ty3 du oo λb95 o95 hB=>?_;rw [zbx] at hB;refine zac ty3 hB (g1.t (U.t D)) λju=>zb7 (β:=Int) u33 ty3 z3 qd (zbA ju) λv97 g0 V dv=>⟨V,?_⟩;have gz:=V.size;obtain ⟨GX,dw,jU⟩:=zjY dv;obtain ⟨cs,⟨rfl,gU⟩,_,jo,_⟩:=gg.here;have hC:∀ c∈G1,c<(World.drew1 w8).heap.size:=λc M=>gX c (gg.sub c (by simp [M]));refine zdD (β:=RInts) (G:=G1) (w:=g0) u44 za4 z33 zBG qd (gU.keep λc M=>V.heap (hC c M)) jo dw (λc M hg=>by have:=jU c M;have:=hC c hg;omega) (by rw [zal,gq];omega) (by rw [gq];omega) (λgC v99 j7 G' gV hD jv jw hv=>?_) λsv gC gV jt=>⟨gV,jt⟩;have gD:Chg G1 g0 j7:=(gV.chg G1).trans hD;refine zab zbj<|zhN zeN gg gX ((V.chg G1).trans gD) jv jw (λc M=>?_) λdx hG ⟨F',gp,ht⟩=>?_
       . rcases hv c M with h | h | h
         . exact .inl h
         . exact .inr (jU c h).1
         exact .inr oo
       have dz:=hG.size
       have hw:ChgI w3.heap.size w8.heap.size (World.drew1 w8) dx:=hG.toI λc M=>by
         have:=gg.sub c M;rcases qaa.1 this with rfl | h
         . exact ⟨oo,gH⟩
         exact hF c h
       have C:zaQ c s tn=⟨s.vars,s.owner,s.stacks++[[en c I.arg.toNat]]⟩:=by unfold zaQ;rw [<-hI,if_neg q1,if_pos q5,if_pos oo]
       refine ⟨by rw [hn],Ext.chgI (Y.t D) hw (lr _),_,⟨F',gp,λc M=>?_⟩,?_,?_,?_,?_,oo,oo⟩
       . have h1:=gp.lts c (by simp [M])
         rcases ht c M with h | h
         . rcases qaa.1 h with rfl | h
           . obtain ⟨_,_,_,_,_,hy,_⟩:=gp;exact absurd M hy
           have:=hF c h;omega
         omega
       . rw [C];exact gx
       . rw [C];exact gj
       . rw [C]
         simp only [qa6,qbC,qb4,gh,g4,qah]
       show (z.stacks.l++_)[tn]?=some x;rw [List.getElem?_append_left gP];exact gS
     have C:zaQ c s tn=s:=by unfold zaQ;rw [<-hI,if_neg q1,if_pos q5,if_neg oo]
     refine ⟨by rw [hn],Y,z,g5,?_,?_,?_,gS,oo,oo⟩
     . rw [C];exact gx
     . rw [C];exact gj
     rw [C];exact gh
   refine zai<|br (λq6=>?_) (λq6=>?_)
   . have gH:=g5.lt
     obtain ⟨g2,g3⟩:=zdv hc hs gd (.inl (hI▸q6));rw [<-hI] at g2 g3;obtain ⟨ar,g4⟩:∃ ar:Nat,I.arg=ar:=⟨I.arg.toNat,oo⟩;have Z:ar<z.owner.length:=by rw [gj];omega
     obtain ⟨u,b,a,cap,hr,ji,hu,hh⟩:=zjc g5 oo Z;refine zab zdy<|zcD za4 hr<|zab za8<|zac ty3 (zaq X) (xrf w8) λ_=>?_;rw [g4];refine zdd u33 ty3 hu Z ?_;have jV:=hs.2.2.1;refine hh w8 (xrf w8) _ (by unfold I64;omega) _ λgC O g9=>?_;have gl:=O.size;have C:zaQ c s tn=⟨s.vars,s.owner.set I.arg.toNat tn,s.stacks⟩:=by unfold zaQ;rw [<-hI,if_neg q1,if_neg q5,if_pos q6]
     refine ⟨by rw [hn],Ext.chgI Y O oo,_,g9.mono (lr _) oo,?_,?_,?_,gS,oo,oo⟩
     . rw [C];exact gx
     . rw [C,gj,g4];rfl
     rw [C];exact gh
   refine zai<|br (λq7=>?_) (λq7=>?_)
   . have gH:=g5.lt
     obtain ⟨g2,g3⟩:=zdv hc hs gd (.inr (hI▸q7));rw [<-hI] at g2 g3;obtain ⟨ar,g4⟩:∃ ar:Nat,I.arg=ar:=⟨I.arg.toNat,oo⟩;have Z:ar<z.owner.length:=by rw [gj];omega
     obtain ⟨u,b,a,cap,hr,ji,hu,hh⟩:=zjc g5 oo Z;refine zab zdy<|zcD za4 hr<|zab za8<|zac ty3 (zaq X) (xrf w8) λ_=>?_;rw [g4];refine zad u33 ty3 ji Z λdA dB hH=>zac ty3 hH (xrf w8) λ_=>?_
     have dC:z.owner[ar]=ow s I.arg:=by
       have:ar<s.owner.length:=by rw [<-gj];exact Z
       rw [g4,<-zqI this];congr 1
     rw [dC];refine zai<|br (λqq=>?_) (λqq=>?_)
     . refine zab zdy ?_
       refine zcD za4 hr<|zab za8<|zac ty3 (zaq X) (xrf w8) λ_=>?_;rw [g4];refine zdd u33 ty3 hu Z<|hh w8 (xrf w8) _ (by unfold I64;omega) _ λgC O g9=>?_;have gl:=O.size;have C:zaQ c s tn=⟨s.vars,s.owner.set I.arg.toNat (-1),s.stacks⟩:=by unfold zaQ;rw [<-hI,if_neg q1,if_neg q5,if_neg q6,if_pos q7,if_pos qq]
       refine ⟨by rw [hn],Ext.chgI Y O oo,_,g9.mono (lr _) oo,?_,?_,?_,gS,oo,oo⟩
       . rw [C];exact gx
       . rw [C,gj,g4];rfl
       rw [C];exact gh
     have C:zaQ c s tn=s:=by unfold zaQ;rw [<-hI,if_neg q1,if_neg q5,if_neg q6,if_pos q7,if_neg qq]
     refine ⟨by rw [hn],Y,z,g5,?_,?_,?_,gS,oo,oo⟩
     . rw [C];exact gx
     . rw [C];exact gj
     rw [C];exact gh
   refine zai<|br (λq9=>?_) (λq9=>?_)
   . have D:=zah w8
     have hf:=D.size;have gH:=g5.lt;have gb:=Y.t D;obtain ⟨F,hO,hF⟩:=j1.ext (U.t D);have gX:=hO.lts;obtain ⟨G1v,hJ⟩:=zdn (Lens.var hO);obtain ⟨dD,dE,jW,G2v,jx,hK,hL⟩:=hJ.elemV gP;rw [<-hx] at hL;obtain ⟨dp,⟨rfl,_⟩,jy,_,_,jz,_⟩:=hJ.here;obtain ⟨cs2,⟨rfl,hM⟩,hN,_,_,_,hP⟩:=hL.here;have dF:OAt F (World.drew1 w8) w4.heap.size 0 s:=by have:=zxU hO;rwa [hz] at this
     obtain ⟨G1,gg⟩:=zeU (Lens.var dF);obtain ⟨_,_,_,_,_,dG,_⟩:=gg.here;obtain ⟨u1,b2,a2,hj,G2,hk,dH,gY,gf⟩:=gg.elem gW;have hu:u1=z.stacks.v:=zdo hk jy;refine zab zbj<|zcD zeN hk ?_
     have dI:b2=dD/\a2=dE:=by
       rw [hu,jx] at gY;simp only [Value.slice.injEq,qak,Addr.mk.injEq] at gY;exact ⟨gY.1.1.symm,gY.1.2.1.symm⟩
     obtain ⟨rfl,rfl⟩:=dI;obtain ⟨ux,jX,dJ,dK,_⟩:=gf.row;obtain ⟨_,_,_,_,_,hQ,_⟩:=gf.here;have dL:ux=x.v:=zdo dJ hN;have jY:s.stacks[tn]=x.l:=by rw [gc];exact zdZ (t:=(tn:Int)) (by simpa using gW)
     rw [dL,jY] at jX;refine zEs u33 ty3 jX oo (by rw [gc];exact jN) λbx ax dM gE G' jZ j8 jA dN=>zdd u44 za4 gY gW ?_;have gJ:b2∉G':=λh=>hQ (jA _ h);have jB:b2≠w4.heap.size:=λe=>jz (e▸hK b2 sS);have gK:=zb2 rfl j8.own;have hS:gE.oneCell'=true:=Rep.one gK gE sS;refine zlb za4 hP hN hM.one hS λg0 gZ hV=>?_;have gr:∀ c∈G',g0.heap[c]?=(World.drew1 w8).heap[c]?:=λc M=>gZ.chg.block c (j8.lt c M) (by simp;exact λe=>gJ (e▸M));obtain ⟨cb,eb,dO⟩:=hP;obtain ⟨dP,jC,_⟩:=gZ.cell cb eb dO;have dQ:OAt G' g0 b2 (a2+tn*Rep.size (List Int)) (x.l.take top):=⟨[gE],Rep.keep gK gr,hV,j8.nodup,j8.wr.keep gr,gJ,dP,eb,jC⟩;have jD:g0.heap[w4.heap.size]?=(World.drew1 w8).heap[w4.heap.size]?:=gZ.chg.block _ (gX _ sS) (by simp;exact λe=>jB e.symm);obtain ⟨F',gp,ht⟩:=gf.back g0 G' (x.l.take top) (gZ.mono (lr _) (lr _) sS) dQ (λc M=>.inl (jA c M));have gz:=gZ.chg.size
     have d0:∀ c∈F',w3.heap.size<=c/\c<w4.heap.size:=λc M=>by
       have dR:c∈w4.heap.size :: F:=by
         rcases ht c M with h | h
         . exact h
         exact dK c (jA c h)
       rcases qaa.1 dR with rfl | h
       . obtain ⟨_,_,_,_,_,hy,_⟩:=gp;exact absurd M hy
       exact hF c h
     have jE:b2∈w4.heap.size :: F:=gf.sub b2 sS
     have hw:ChgI w3.heap.size w8.heap.size (World.drew1 w8) g0:=gZ.chg.toI λc M=>by
       simp only [qaa,qac,or_false] at M;subst M;rcases qaa.1 jE with h | h
       . rw [h];exact ⟨oo,gH⟩
       have:=hF _ h;omega
     have gM:Ext w3 g0:=Ext.chgI gb hw (lr _);have e1:((tn:Int)).toNat=tn:=oo
     have hW:x.l.length=top+1:=oo
     have d1:top<8:=by have h:=j3;rw [gc] at h;omega
     refine zcK<|br (λhp=>?_) (λhp=>?_)
     . refine zbc (by unfold I64;omega) ?_
       obtain ⟨tp,dT⟩:∃ tp:Nat,(top:Int)-1=tp:=⟨top-1,oo⟩;rw [dT];obtain ⟨G1',jF⟩:=zeU (Lens.var gp);have j9:tn<(s.stacks.set tn (x.l.take top)).length:=by simpa using gW
       obtain ⟨dU,dV,dW,d2,G2',jG,_,gF,hX⟩:=jF.elem j9;have dX:dU=u1:=zdo jG (zbo hk jD)
       have jH:dV=b2/\dW=a2:=by
         rw [dX,gY] at gF;simp only [Value.slice.injEq,qak,Addr.mk.injEq] at gF;exact ⟨gF.1.1.symm,gF.1.2.1.symm⟩
       obtain ⟨rfl,rfl⟩:=jH;have dY:(s.stacks.set tn (x.l.take top))[tn]'j9=x.l.take top:=qcw ..;simp only [dY] at hX;obtain ⟨uy,dZ,z1,d3,G3',z6,z7,ja,hY⟩:=hX.elem (k:=tp) (by simp;omega);have jI:uy=gE:=zdo z6 hV;have hZ:=dN oo
       have z8:dZ=bx/\z1=ax:=by
         rw [jI,hZ] at ja;simp only [Value.slice.injEq,qak,Addr.mk.injEq] at ja;exact ⟨ja.1.1.symm,ja.1.2.1.symm⟩
       obtain ⟨rfl,rfl⟩:=z8;refine zdd u33 ty3 jZ (k:=tp) oo ?_
       have jJ:(x.l.take top)[tp]'(by simp;omega)=st x.l tp:=by
         rw [qcr,zfE]
       refine zac ty3 hY.here.at (xrf g0) λd4=>?_;rw [jJ]
       have za:0<=st x.l tp/\st x.l tp<c.ins.length:=by
         have jK:=hs.2.2.2.2.2 x.l (by rw [<-jY];exact qab _);exact jK.2.1 tp oo
       refine zc1 (by unfold I64;omega)<|zdd u33 ty3 jZ (k:=tp) oo ?_;have d5:w4.heap.size<g0.heap.size:=oo
       refine zhM (α:=DState) (lo:=w3.heap.size) (hi:=g0.heap.size) ty3 hY (λc M=>by have:=d0 c M;omega) oo (zbA (x:=st x.l tp+1) (by unfold I64;omega)) λgC O g9=>?_;have gl:=O.size;refine gt _ gC (Ext.chgI gM O (lr _)) (g9.mono (lr _) oo) ?_;unfold zba;rw [<-hI,if_neg q4,if_pos q9];simp only [DState.mk.injEq,true_and,e1,qda];congr 1;unfold zeR;rw [<-gc,hW,if_neg oo,show top+1-1=top by omega,show top+1-2=tp by omega]
     refine gt _ g0 gM ⟨F',gp,λc M=>by have:=d0 c M;omega⟩ ?_;unfold zba;rw [<-hI,if_neg q4,if_pos q9];simp only [DState.mk.injEq,true_and,e1];congr 1;unfold zeR;have zb:top=0:=oo
     subst zb;rw [<-gc,hW];simp
   exact ⟨by rw [hn],Y,gy w8 (xrf w8) oo⟩
 rintro uj w9 ⟨hu,D,z',j4,zc,zd,ze,zf,zg,zh⟩;try replace hu:=zbt hu
 rw [hu];have hf:=D.size;obtain ⟨j9,zi⟩:=List.getElem?_eq_some_iff.1 zf;have hg9:=j4.lt;obtain ⟨F,hO,hF⟩:=j4;obtain ⟨G1,gg⟩:=zdn (Lens.var hO);obtain ⟨b2,a2,hj,G2,jS,_,gf⟩:=gg.elemV j9;rw [zi] at gf;refine ztK (e:=3) u33 ty3 gf j3 λb3 o3 G3 zj=>?_
 have jL:I64 (zcy c s tn):=by
   have d6:I.op=2\/I.op=3->I64 I.to:=λh=>by
     have:=hR.2.2.2;rw [<-hI,if_pos h] at this;obtain ⟨i,hi,_,_,zk⟩:=hc.f.find hc.1.procs8.2 gd h4.2;have h1:=hc.f.nonneg hi;have h2:=(hc.f.lt i hi).2;rw [zk,zdU,qah] at this;unfold I64;omega
   unfold zcy;rw [<-hI];split
   . split
     . exact d6 (.inl aA)
     unfold I64;omega
   split
   . exact d6 (.inr aA)
   unfold I64;omega
 refine zhM ty3 zj hF oo (zbA jL) λg0 gi jM=>?_;have gz:=gi.size;refine gt _ g0 (Ext.chgI D gi (lr _)) (zpc (jM.mono (lr _) oo)) ?_;unfold zba DStV.er;rw [<-hI,if_neg zg,if_neg zh];simp only [DState.mk.injEq,zc,zd,true_and];have e1:((tn:Int)).toNat=tn:=oo
 have e2:(stk s tn).length-1=top:=by rw [<-gc];omega
 rw [qcg,ze,gc,e1,e2]
def zdp (c:DCode):DState:=⟨List.replicate c.globals.length 0,List.replicate c.locks.length (-1),[[en c (plc zh6 c.procs).toNat]]⟩
def zmg (c:DCode):DState:=if CodeR c then zdp c else ⟨[],[],[]⟩
def zlI:zcz tp 3=some [.int .i64 0]:=by kernel_rfl
def zsq (hc:CodeR c):0<=plc zh6 c.procs/\(plc zh6 c.procs).toNat<c.entry.length:=by
 have h1:=zfR.2 hc.1.2.2.2.2.2.2;have h2:=zlL (s:=zh6) (l:=c.procs);have h3:=hc.2.1.1;omega
def ztY:OwnI lo hi w (.agg #[.slice none 0 0,.slice none 0 0,.slice none 0 0]) (⟨[],[],[]⟩:DState):=
 (zgb (s:=⟨[],[],[]⟩) (lo:=lo) (hi:=lo) (l0:=lo) (h0:=lo) (l1:=lo) (h1:=lo) (l2:=lo) (h2:=lo) (zdz none) (zdz none) (zdz none) oo oo oo oo oo oo).elim λF h=>⟨F,h.1,λb hb=>by have:=h.2 b hb;omega⟩
def zhR  (h0:Is W0 v0 c) (e0:Ext W0 w)  :
   CALL tp 123 [v0] w λr w'=>Ext w w'/\(r=.int .i64 (plc zh6 c.procs)):=by
 refine co (g:=kf [] [] []) Tryz.func123 ?_;refine zat zbq rfl h0 e0 λg0 y1 g1 hV1=>zab zbG<|zaa zcv (zaC g1) (xrf g0) λv4 h4=>?_;refine (zcC h4 (xrf g0)).mono ?_;rintro _ w2_ ⟨y2,rfl⟩;refine ⟨(y1.t y2),?_⟩;rfl
def stQ (c:DCode) (g1:Nat) (w0:World):ParQ:=λi u T w=>match i with
 | 0=>u 5=.pointer (some ⟨g1,0+0,none⟩)
 | 1=>Is w0 (u 6) c.globals
 | 2=>u 7=.int .i64 (c.globals.length:Int)
 | 3=>∃ a cap,u 8=.slice a c.globals.length cap/\RowI (T 3).1 (T 3).2 3 w (u 8) (List.replicate c.globals.length (0:Int))
 | 4=>u 9=.pointer (some ⟨g1,0+1,none⟩)
 | 5=>Is w0 (u 10) c.locks
 | 6=>u 11=.int .i64 (c.locks.length:Int)
 | 7=>∃ a cap,u 12=.slice a c.locks.length cap/\RowI (T 7).1 (T 7).2 3 w (u 12) (List.replicate c.locks.length (0:Int))
 | 8=>u 13=.agg #[u 8,u 12,.slice none 0 0]
 | 9=>∃ g,u 3=.pointer (some ⟨g,0,none⟩)/\(T 9).1<=g/\g<(T 9).2/\Blk g 46 w [.slice none 0 0,.slice none 0 0,.slice none 0 0]
 | _=>True
def zvj (h:Is W v c) (e:Ext W w) (hw:zu1 c<=1048576) (hc:CodeR c) :
   CALL tp 53 [v] w λr w'=>Ext w w'/\Own w.heap.size w' r (zdp c):=by
 have hsz:c.globals.length<=1048576/\c.locks.length<=1048576:=by unfold zu1 zzn at hw;omega
 refine co (g:=⟨extL,[],[(3,33423376,[17])],[(7,[0,1,2,3,4,5,6,7,8,9,10],16)],[(1,16360,10)],[],[]⟩) Tryz.func53 ?_;refine za9 h e λw1 gj hA=>zb5 zxL λw2 Y gl=>?_;have hg2:=gl.lt;have hs1:=gj.size;have M:=zah w2;have hs3:=M.size;refine PAR.mk (stQ c w.heap.size (World.drew1 w2)) ?_ ?_ ?_
 . intro i u u' T T' wa wb hxa gb hd hq
   match i,hd,hq with
   | 0,hd,hq=>exact (hd (0,5) qd).1.trans hq
   | 1,hd,hq=>have:=(hd (1,6) qd).1;show Is _ (u' 6) _;simp only [this];exact hq
   | 2,hd,hq=>exact (hd (2,7) qd).1.trans hq
   | 3,hd,⟨a,cap,q1,q2⟩=>
     obtain ⟨e1,e2⟩:=hd (3,8) qd;simp only at e1 e2;refine ⟨a,cap,e1.trans q1,?_⟩;simp only [e1,e2];exact q2.ext gb
   | 4,hd,hq=>exact (hd (4,9) qd).1.trans hq
   | 5,hd,hq=>have:=(hd (5,10) qd).1;show Is _ (u' 10) _;simp only [this];exact hq
   | 6,hd,hq=>exact (hd (6,11) qd).1.trans hq
   | 7,hd,⟨a,cap,q1,q2⟩=>
     obtain ⟨e1,e2⟩:=hd (7,12) qd;simp only at e1 e2;refine ⟨a,cap,e1.trans q1,?_⟩;simp only [e1,e2];exact q2.ext gb
   | 8,hd,hq=>
     have e1:=(hd (8,13) qd).1;have e2:=(hd (3,8) qd).1;have e3:=(hd (7,12) qd).1;simp only at e1 e2 e3;show u' 13=.agg #[u' 8,u' 12,.slice none 0 0];rw [e1,e2,e3];exact hq
   | 9,hd,⟨g,q1,q2,q3,q4⟩=>
     obtain ⟨e1,e2⟩:=hd (9,3) qd;simp only at e1 e2;exact ⟨g,e1.trans q1,by rw [e2];exact q2,by rw [e2];exact q3,q4.ext gb⟩
   | n+10,_,_=>trivial
 . refine ⟨λu T w' hx _ _=>?_,λu T w' hx _ hp=>?_,λu T w' hx _ hp=>?_,λu T w' hx _ hp=>?_,λu T w' hx _ _=>?_,λu T w' hx _ hp=>?_,λu T w' hx _ hp=>?_,λu T w' hx _ hp=>?_,λu T w' hx _ hp=>?_,λu T w' hx _ _=>?_,trivial⟩
   . exact zab zdI ⟨xrf _,rfl⟩
   . have q0:u 5=_:=hp.1
     rw [q0];exact zaa zcv (zbm hA) (Y.t (M.t hx)) λv6 h6=>⟨xrf _,(h6.ext (Y.t M))⟩
   . have q1:Is _ (u 6) c.globals:=hp.1
     exact zae u24 q1 ⟨xrf _,rfl⟩
   . have q2:u 7=_:=hp.1
     rw [q2];exact ze0 (α:=Int) u33 ty3 rfl rfl zlI oo oo λw4 I r=>⟨I,_,_,rfl,r⟩
   . exact zab zd8 ⟨xrf _,rfl⟩
   . have q0:u 9=_:=hp.1
     rw [q0];exact zaa zcv (zbw hA) (Y.t (M.t hx)) λv6 h6=>⟨xrf _,(h6.ext (Y.t M))⟩
   . have q1:Is _ (u 10) c.locks:=hp.1
     exact zae u24 q1 ⟨xrf _,rfl⟩
   . have q2:u 11=_:=hp.1
     rw [q2];exact ze0 (α:=Int) u33 ty3 rfl rfl zlI oo oo λw4 I r=>⟨I,_,_,rfl,r⟩
   . obtain ⟨a,cap,q1,_⟩:∃ a cap,u 8=.slice a c.globals.length cap/\_:=hp.1
     obtain ⟨a',g0,gp,_⟩:∃ a cap,u 12=.slice a c.locks.length cap/\_:=hp.2.1;rw [q1,gp];refine zaX (cells:=#[.slice a c.globals.length cap,.slice a' c.locks.length g0,.slice none 0 0]) kK ⟨xrf _,?_⟩;show _=Value.agg #[u 8,u 12,.slice none 0 0];rw [q1,gp];rfl
   exact zb5 zxL λw4 I hB=>⟨I,w'.heap.size,rfl,lr _,hB.lt,hB⟩
 rintro u T w4 I U ⟨-,-,-,⟨a,cap,-,r8⟩,-,-,-,⟨a',g0,-,gq⟩,gc,⟨g,q3,hg0,hg1,gz⟩,-⟩;have gc:u 13=.agg #[u 8,u 12,.slice none 0 0]:=gc;have t3:=U.1 3 qd;have t7:=U.1 7 qd;have t9:=U.1 9 qd;have d37:=U.2 3 qd 7 qd qd;have d39:=U.2 3 qd 9 qd qd;have d79:=U.2 7 qd 9 qd qd;generalize u 8=v8 at *;generalize u 12=v12 at *;have hs4:=I.size;rw [gc,q3]
 refine zcg (x:=(⟨List.replicate c.globals.length 0,List.replicate c.locks.length 0,[]⟩:DState)) (lo:=0) (hi:=w4.heap.size) zc0 rfl gz rfl
   (zgb (l2:=0) (h2:=0) r8.own gq.own (zdz none) oo oo oo oo oo oo) λw5 Z gr=>?_
 have hs5:=Z.size;have gd:Ext w1 w5:=Ext.chgI (Y.t (M.t I)) Z oo;have o8:=r8.own.chg Z oo;have g4:=gq.own.chg Z oo;have gf:=((gl.ext M).ext I).chgI Z oo;refine zab zdy<|zax za4 gr rfl<|zae u33 g4.is ?_;rw [qbD]
 refine zao c.locks.length (λk us w'=>us=[.int .i64 (k:Int)]/\w5.heap.size<=w'.heap.size/\Ext w1 w'/\Blk g 46 w' [v8,v12,.slice none 0 0]/\OwnI (T 3).1 (T 3).2 w' v8 (List.replicate c.globals.length (0:Int)) /\
   OwnI (T 7).1 (T 7).2 w' v12 (List.replicate k (-1)++List.replicate (c.locks.length-k) (0:Int))/\Blk w1.heap.size 46 w' [.slice none 0 0,.slice none 0 0,.slice none 0 0]) 0 (z0 _)
   ⟨rfl,lr _,gd,gr,o8,by simpa using g4,gf⟩ ?_
 rintro k m uu w7 hkm ⟨hu,hs7,V,gg,o8,⟨F,hM,hF⟩,g1⟩;try replace hu:=zbt hu
 rw [hu];refine zag<|br (λhlt=>?_) (λhge=>?_)
 . refine zab zdy ?_
   refine zax za4 gg rfl<|zte (α:=Int) u33 ty3 hM (by simp;omega) (zbA (w:=w7) (x:=-1) (by unfold I64;omega)).own λw8 gs gC=>?_;have g5:=gs.toI hF;have gD:=gs.size;refine zau<|⟨m-1,oo,k+1,oo,rfl,oo,Ext.chgI V g5 oo,gg.chgI g5 oo,o8.chg g5 oo,⟨F,?_,hF⟩,g1.chgI g5 oo⟩
   have:(List.replicate k (-1)++List.replicate (c.locks.length-k) (0:Int)).set k (-1)=List.replicate (k+1) (-1)++List.replicate (c.locks.length-(k+1)) 0:=by
     rw [show c.locks.length-k=(c.locks.length-(k+1))+1 by omega,List.replicate_succ (n:=c.locks.length-(k+1)),qba _ _ sS,qbD,qc0,List.set_cons_zero,qcx (n:=k)];simp
   rw [<-this];exact gC
 have hk:k=c.locks.length:=oo
 subst hk;have g4:OwnI (T 7).1 (T 7).2 w7 v12 (List.replicate c.locks.length (-1)):=⟨F,by simpa using hM,hF⟩;clear hM;have X:=zah w7;have gD:=X.size;refine zab zbi<|zaa za4 (zar hA) (V.t X) λv26 gE=>zab zbG<|zaa zcv (zaC hA) (V.t X) λv28 gF=>?_;refine (zgI gF (V.t X)).mono ?_;rintro _ w9 ⟨g9,rfl⟩;have hs9:=g9.size;refine ⟨g9,?_⟩;obtain ⟨gG,gH⟩:0<=plc (ByteArray.mk #[109,97,105,110]) c.procs/\(plc (ByteArray.mk #[109,97,105,110]) c.procs).toNat<c.entry.length:=zsq hc;refine zaL u33 ty3 gE gG gH λb o gI=>zac ty3 gI (V.t (X.t g9)) λhI=>zhI (α:=Int) (lo:=w9.heap.size) (hi:=w9.heap.size) u33 ty3 z3 qd (ownI_int hI) oo λv32 w10 g2 gJ=>?_;have gK:=g2.size;refine zhI (α:=List Int) u44 za4 z33 qd gJ oo λgM gt g3 gx=>?_;have gN:=g3.size;have C:=X.t (g9.t (g2.t g3));refine zab zbj<|zbW (α:=List (List Int)) zeN rfl rfl (gg.ext C) sS gx λgO D gh=>?_;have gP:=D.size;refine ziq gh zc0 ?_
 have gy:OwnI w2.heap.size gt.heap.size gO (.agg #[v8,v12,gM]) (zdp c):=by
   refine zgb (l2:=w9.heap.size) (h2:=gt.heap.size) ((o8.ext C).chg D oo) ((g4.ext C).chg D oo) ?_ oo oo oo oo oo oo;have:=(gx.chg D oo);rw [zbx] at this;exact this
 refine zcg zc0 rfl ((g1.ext C).chgI D oo) rfl gy λw13 O gi=>?_;have gQ:=O.size;refine zeI gi zc0<|⟨Ext.chgI (Ext.chgI (gj.t (V.t C)) D oo) O oo,?_⟩;exact (gy.chg O oo).own.mono oo
def znf (h:Is W v c) (e:Ext W w) (hw:zu1 c<=1048576) :
   CALL tp 27 [v] w λr w'=>Ext w w'/\Own w.heap.size w' r (zmg c):=by
 refine co (g:=kf [] [] []) Tryz.func27 ?_;refine za9 h e λw1 g0 hA=>zb5 zxL λw2 D g1=>?_;have hg2:=g1.lt;have hs1:=g0.size;refine zaa zbq hA D λv5 h5=>?_;refine (zgK h5 D).mono ?_;rintro _ w3 ⟨C,rfl⟩;have hs3:=C.size;refine zav<|br (λhn=>?_) (λhc=>?_)
 . refine zaX (cells:=#[.slice none 0 0,.slice none 0 0,.slice none 0 0]) kK ?_
   refine zcg (lo:=w3.heap.size) (hi:=w3.heap.size) zc0 rfl (g1.ext C) rfl ztY λw4 g4 g5=>zeI g5 zc0<|⟨Ext.chgI (g0.t (D.t C)) g4 oo,?_⟩;unfold zmg;rw [if_neg hn];exact (ztY (lo:=w4.heap.size) (hi:=w4.heap.size)).own.mono (by have:=g4.size;omega)
 have hc:=qad.1 hc;refine zaa zbq hA (D.t C) λv7 h7=>?_;refine (zvj h7 (D.t C) hw hc).mono ?_;rintro r8 w4 ⟨g2,o8⟩;have o8:=o8.toI;have hs4:=g2.size
 obtain ⟨a0,a1,a2,F0,F1,F2,rfl⟩:∃ (a0 a1 a2:Value) (F0 F1 F2:List Nat),r8=.agg #[a0,a1,a2]:=by
   obtain ⟨F,hM,_⟩:=o8;obtain ⟨⟨cs,hr,rfl⟩,_⟩:=hM;obtain ⟨F0,c0,F1,c1,F2,c2,rfl,rfl,⟨_,_,_,_,rfl,_⟩,⟨_,_,_,_,rfl,_⟩,⟨_,_,_,_,rfl,_⟩⟩:=znz hr;exact ⟨_,_,_,[],[],[],rfl⟩
 refine zcg zc0 rfl ((g1.ext C).ext g2) rfl o8 λw5 g3 g9=>?_;have hs5:=g3.size;refine zeI g9 zc0<|⟨Ext.chgI (g0.t (D.t (C.t g2))) g3 oo,?_⟩;unfold zmg;rw [if_pos hc];exact (o8.chg g3 oo).own.mono oo
def zdq {α:Type} {l:List α} {x y:α} (h:y∈l.set i x):y=x\/y∈l:=by
 rcases List.mem_or_eq_of_mem_set h with h | h
 . exact .inr h
 exact .inl h
def zsr (hc:CodeR c):zaE c (zdp c):=by
 obtain ⟨hp0,g0⟩:=zsq hc;have hl:=hc.f.lt _ g0;have h0:=hc.f.nonneg g0;refine ⟨by simp [zdp],by simp [zdp],by simp [zdp],λv hv=>?_,λo ho=>?_,λl g1=>?_⟩
 . have:=qcQ hv;omega
 . have:=qcQ ho;simp only [zdp,qaj,qay];omega
 simp only [zdp,qaa,qac,or_false] at g1;subst g1;refine ⟨sS,λi hi=>?_,λi hi=>by simp at hi⟩;have:i=0:=by simp at hi;omega
 subst this;simp only [st,List.getD_cons_zero];omega
def zEu {l:List Int} (hi:i<l.length):st (l.set i x) j=if i=j then x else st l j:=by
 unfold st;rw [List.getD_eq_getElem?_getD,List.getD_eq_getElem?_getD,List.getElem?_set];by_cases h:i=j
 . subst h;simp [hi]
 simp [h]
def zpd {l:List Int} (hj:j<k):st (l.take k) j=st l j:=by
 unfold st;rw [List.getD_eq_getElem?_getD,List.getD_eq_getElem?_getD,List.getElem?_take,if_pos hj]
def zss {l:List Int}:st (l++[x]) j=if j=l.length then x else st l j:=by
 unfold st;rw [List.getD_eq_getElem?_getD,List.getD_eq_getElem?_getD,List.getElem?_append];by_cases h:j<l.length
 . rw [if_pos h,if_neg oo]
 by_cases h2:j=l.length
 . subst h2;simp
 rw [if_neg h,if_neg h2,List.getElem?_eq_none (by simp;omega),List.getElem?_eq_none oo]
def zmh (hc:CodeR c) {a:Int} (h0:0<=a) (h1:a<c.ins.length) (ho:(zam c a.toNat).op≠9):a+1<c.ins.length/\zas c (a+1)=zas c a:=by
 obtain ⟨i,hi,h2,h3,h4⟩:=hc.f.find hc.1.procs8.2 h0 h1;have h5:=(hc.2.1.2.2.2 a.toNat oo);rw [qaz h0,h4,zdU] at h5;have h6:zep c i-1≠a:=λe=>ho (h5.2 e);have h7:=(hc.f.lt i hi).2;exact ⟨oo,by rw [h4];exact hc.f.proc hi oo oo⟩
def ziu (hc:CodeR c) {a:Int} (h0:0<=a) (h1:a<c.ins.length) (ho:(zam c a.toNat).op=2\/(zam c a.toNat).op=3) :
   0<=(zam c a.toNat).to/\(zam c a.toNat).to<c.ins.length/\zas c (zam c a.toNat).to=zas c a:=by
 obtain ⟨i,hi,h2,h3,h4⟩:=hc.f.find hc.1.procs8.2 h0 h1;have h5:=(zhk hc (j:=a.toNat) oo).2.2.2;rw [if_pos ho,qaz h0,h4,zdU,qah] at h5;have h6:=hc.f.nonneg hi;have h7:=(hc.f.lt i hi).2;exact ⟨oo,oo,by rw [h4];exact hc.f.proc hi h5.1 oo⟩
def zpe (hc:CodeR c) {i:Nat} (hi:i<c.entry.length):0<=en c i/\en c i<c.ins.length/\zas c (en c i)=i:=by
 have h6:=hc.f.nonneg hi;have h7:=hc.f.lt i hi;exact ⟨h6,oo,hc.f.proc hi (qc5 _) h7.1⟩
def zvk (c:DCode):zcq c []:=⟨sS,λi hi=>by simp at hi,λi hi=>by simp at hi⟩
def zvl {n:Int} (h0:0<=n) (h1:n<c.ins.length):zcq c [n]:=by
 refine ⟨sS,λi hi=>?_,λi hi=>by simp at hi⟩;have:i=0:=by simp at hi;omega
 subst this;exact ⟨h0,h1⟩
def znT {l:List Int} {n:Int} (h:zcq c l) (hl:0<l.length) (h0:0<=n) (h1:n<c.ins.length) (hp:zas c n=zas c (st l (l.length-1))):zcq c (l.set (l.length-1) n):=by
 have hs:∀ j,st (l.set (l.length-1) n) j=if l.length-1=j then n else st l j:=λj=>zEu oo;refine ⟨by rw [qaL];exact h.1,λi hi=>?_,λi hi=>?_⟩
 . rw [qaL] at hi
   rw [hs];split
   . exact ⟨h0,h1⟩
   exact h.2.1 i hi
 rw [qaL] at hi;have h2:=h.2.2 i hi;rw [hs i,if_neg oo];refine ⟨h2.1,?_⟩;rw [hs (i+1)];split
 . rename_i he
   rw [hp,he];exact h2.2
 exact h2.2
def zst {l:List Int} {n:Int} (h:zcq c l) (hl:l.length<8) (h0:0<=n) (h1:n<c.ins.length) (hp:0<l.length->(zam c (st l (l.length-1)).toNat).op=4/\zas c n=(zam c (st l (l.length-1)).toNat).arg):zcq c (l++[n]):=by
 refine ⟨by simp;omega,λi hi=>?_,λi hi=>?_⟩
 . rw [zss]
   split
   . exact ⟨h0,h1⟩
   exact h.2.1 i (by simp at hi;omega)
 simp only [qag,qaj,qay] at hi;rw [zss,zss,if_neg oo];by_cases e:i+1=l.length
 . rw [if_pos e]
   have:i=l.length-1:=oo
   subst this;exact hp oo
 rw [if_neg e];exact h.2.2 i oo
def zsu {l:List Int} (h:zcq c l) (k:Nat):zcq c (l.take k):=by
 refine ⟨by rw [qai];have:=h.1;omega,λi hi=>?_,λi hi=>?_⟩
 . rw [qai] at hi
   rw [zpd oo];exact h.2.1 i oo
 rw [qai] at hi;rw [zpd oo,zpd oo];exact h.2.2 i oo
def zvm (hc:CodeR c) {l:List Int} (h:zcq c l) (hl:0<l.length):zcq c (zeR l):=by
 unfold zeR;split
 . exact zvk c
 rename_i h1
 have h2:=h.2.2 (l.length-2) oo;have h3:=h.2.1 (l.length-2) oo;obtain ⟨h4,h5⟩:=zmh hc h3.1 h3.2 oo
 have h6:=znT (n:=st l (l.length-2)+1) (zsu h (l.length-1)) (by rw [qai];omega) oo h4 (by
   rw [qai,zpd oo,h5];congr 2;omega)
 rw [qai] at h6;rw [show min (l.length-1) l.length-1=l.length-2 by omega] at h6;exact h6
def zj5 (hs:zaE c s) {k:Nat} {l:List Int} (hl:zcq c l):zaE c ⟨s.vars,s.owner,s.stacks.set k l⟩:=by
 refine ⟨hs.1,hs.2.1,by simp only [qaL];exact hs.2.2.1,hs.2.2.2.1,by simp only [qaL];exact hs.2.2.2.2.1,λx hx=>?_⟩;rcases zdq hx with rfl | hx
 . exact hl
 exact hs.2.2.2.2.2 x hx
def zqL {t:Int} (hc:CodeR c) (hs:zaE c s) (g0:GoR c s t):zaE c (zaQ c s t):=by
 have hth:=zd0 g0.1;unfold zaQ;split
 . refine ⟨by simp only [qaL];exact hs.1,hs.2.1,hs.2.2.1,λv hv=>?_,hs.2.2.2.2.1,hs.2.2.2.2.2⟩
   rcases zdq hv with rfl | hv
   . exact zdG _ _ _ _
   exact hs.2.2.2.1 v hv
 split
 . split
   . rename_i h1 h5 h6
     have hp:=zhQ hc hs g0.1 (.inr h5);refine ⟨hs.1,hs.2.1,by simp only [qag,qaj,qay];omega,hs.2.2.2.1,λo ho=>?_,λx hx=>?_⟩
     . have:=hs.2.2.2.2.1 o ho
       simp only [qag,qaj,qay];omega
     rcases qae.1 hx with hx | hx
     . exact hs.2.2.2.2.2 x hx
     simp only [qaa,qac,or_false] at hx;subst hx;obtain ⟨h7,h8,_⟩:=zpe hc hp.2;exact zvl h7 h8
   exact hs
 split
 . refine ⟨hs.1,by simp only [qaL];exact hs.2.1,hs.2.2.1,hs.2.2.2.1,λo ho=>?_,hs.2.2.2.2.2⟩
   rcases zdq ho with rfl | ho
   . simp only;omega
   exact hs.2.2.2.2.1 o ho
 split
 . split
   . refine ⟨hs.1,by simp only [qaL];exact hs.2.1,hs.2.2.1,hs.2.2.2.1,λo ho=>?_,hs.2.2.2.2.2⟩
     rcases zdq ho with rfl | ho
     . simp only;omega
     exact hs.2.2.2.2.1 o ho
   exact hs
 exact hs
def znU {t:Int} (hc:CodeR c) (hs:zaE c s) (r:GoR c s t):zaE c (zba c s t):=by
 have hth:=zd0 r.1;obtain ⟨tn,rfl,htn,g5,hl8,g3⟩:=zfF hs r.1;have g0:=qaN.2 g5;have hk:=hs.2.2.2.2.2 (stk s tn) (by rw [<-zdZ oo];exact qab _);have g1:=zh7 hs tn;unfold zba;split
 . rename_i h4
   have hp:=zhQ hc hs r.1 (.inl h4);obtain ⟨h7,h8,h9⟩:=zpe hc hp.2;have h10:=r.2.2 h4;refine zj5 hs (zst hk oo h7 h8 λ_=>?_);rw [<-g3];refine ⟨h4,?_⟩;rw [h9];have:=hp.1;unfold atI at this ⊢;omega
 split
 . exact zj5 hs (zvm hc hk g0)
 rename_i h4 h9
 have hn:=zmh hc r.1 g1.2 h9
 have g2:0<=zcy c s tn/\zcy c s tn<c.ins.length/\zas c (zcy c s tn)=zas c (zbu s tn):=by
   unfold zcy;have g4:0<=zbu s tn+1/\zbu s tn+1<c.ins.length/\zas c (zbu s tn+1)=zas c (zbu s tn):=⟨by have:=r.1;omega,hn.1,hn.2⟩;split
   . rename_i h2
     split
     . exact ziu hc r.1 g1.2 (.inl h2)
     exact g4
   split
   . rename_i h3
     exact ziu hc r.1 g1.2 (.inr h3)
   exact g4
 refine zj5 (zqL hc hs r) (znT hk g0 g2.1 g2.2.1 ?_);rw [g2.2.2,g3]
end Go.Proofs.YtcnglfeoglgebaaGreat
namespace Go.Sh
variable {i j n:Nat} {x:Int}
def zaT (l:List Nat):List Int:=l.map λx:Nat=>(x:Int)
def zaf (l:List Nat):(zaT l).length=l.length:=by simp [zaT]
def za3 {l:List Nat} (h:i<(zaT l).length):(zaT l)[i]=((l[i]'(by rw [<-zaf];exact h):Nat):Int):=by simp [zaT]
def zcF (l m:List Nat):zaT (l++m)=zaT l++zaT m:=by simp [zaT]
def zxW (l:List Nat) (k:Nat):zaT (l.take k)=(zaT l).take k:=by simp [zaT]
def zz2 {l:List Nat}:x∈zaT l↔∃ i∈l,x=(i:Int):=by
 simp only [zaT,qaZ];exact ⟨λ⟨i,h,e⟩=>⟨i,h,e.symm⟩,λ⟨i,h,e⟩=>⟨i,h,e.symm⟩⟩
def mkd (ms:List Bool) (i:Nat):Prop:=ms.getD i false=true
def za5 {ms:List Bool} (h:i<ms.length):mkd ms i↔ms[i]=true:=by
 unfold mkd;rw [List.getD_eq_getElem?_getD,List.getElem?_eq_getElem h];rfl
def ztZ {ms:List Bool} (h:mkd ms i):i<ms.length:=by
 rcases qaA i ms.length with h' | h'
 . exact h'
 unfold mkd at h;rw [List.getD_eq_getElem?_getD,List.getElem?_eq_none h'] at h;cases h
def zde {ms:List Bool} (hi:i<ms.length):mkd (ms.set i true) j↔mkd ms j\/j=i:=by
 unfold mkd;rw [List.getD_eq_getElem?_getD,List.getD_eq_getElem?_getD,List.getElem?_set];by_cases h:i=j
 . subst h;simp [hi]
 have:¬j=i:=λe=>h e.symm;simp [h,this]
def zbX:¬mkd (List.replicate n false) i:=by
 unfold mkd;rw [List.getD_eq_getElem?_getD,List.getElem?_replicate];split<;>simp
def zxX {ms ns:List Bool} (hl:ms.length=ns.length) (h:∀ i,i<ms.length->(mkd ms i↔mkd ns i)):ms=ns:=by
 refine qaO hl λi h1 h2=>?_;have:=h i h1;rw [za5 h1,za5 h2] at this;cases e1:ms[i]<;>cases e2:ns[i]<;>simp_all
def zlf (ms:List Bool):Nat:=ms.count true
def zhn (ms:List Bool):zlf ms<=ms.length:=List.count_le_length
theorem zjd:∀ {ms:List Bool} {i:Nat},i<ms.length->¬mkd ms i->zlf (ms.set i true)=zlf ms+1
 | b :: ms,0,_,h=>by
   have:b=false:=by cases b<;>simp_all [mkd]
   subst this;simp [zlf]
 | b :: ms,i+1,hi,h=>by
   have ih:=zjd (ms:=ms) (i:=i) (by simpa using hi) (by simpa [mkd] using h);simp only [zlf,List.set_cons_succ,List.count_cons] at ih ⊢;omega
inductive RP (nx:Nat->List Nat) (a:Nat):Nat->Prop
 | one {b:Nat} (h:b∈nx a):RP nx a b
 | more {b d:Nat} (h:RP nx a b) (k:d∈nx b):RP nx a d
theorem RP.trans {nx:Nat->List Nat} {a b d:Nat} (h:RP nx a b) (k:RP nx b d):RP nx a d:=by
 induction k with
 | one h1=>exact .more h h1
 | more _ h2 ih=>exact .more ih h2
theorem RP.keeps {nx:Nat->List Nat} {p:Nat->Prop} {a b:Nat} (h:RP nx a b) (ha:p a) (hp:∀ i j,p i->j∈nx i->p j):p b:=by
 induction h with
 | one h=>exact hp _ _ ha h
 | more _ h ih=>exact hp _ _ ih h
structure SInv (nx:Nat->List Nat) (n a:Nat) (M0 ms:List Bool) (td:List Nat) (k:Nat):Prop where
 len:ms.length=n
 sub:∀ i,mkd M0 i->mkd ms i
 src:∀ i,mkd ms i->mkd M0 i\/RP nx a i
 tdo:∀ i∈td,(i=a\/RP nx a i)/\i<n
 clo:∀ i,(i=a\/(mkd ms i/\¬mkd M0 i))->i∈td\/∀ j∈nx i,mkd ms j
 cnt:td.length+k+zlf M0=1+zlf ms
structure SIn2 (nx:Nat->List Nat) (n a:Nat) (M0 ms:List Bool) (td:List Nat) (k x q:Nat):Prop where
 len:ms.length=n
 sub:∀ i,mkd M0 i->mkd ms i
 src:∀ i,mkd ms i->mkd M0 i\/RP nx a i
 tdo:∀ i∈td,(i=a\/RP nx a i)/\i<n
 clo:∀ i,(i=a\/(mkd ms i/\¬mkd M0 i))->i∈td\/(i=x/\∀ j∈(nx x).take q,mkd ms j)\/∀ j∈nx i,mkd ms j
 cnt:td.length+k+1+zlf M0=1+zlf ms
 met:x=a\/RP nx a x
section
variable {nx:Nat->List Nat} {n a k x q:Nat} {M0 ms:List Bool} {td td':List Nat}
def SInv.start (hl:M0.length=n) (ha:a<n):SInv nx n a M0 M0 [a] 0:=
 ⟨hl,λ_ h=>h,λ_ h=>.inl h,λi hi=>by simp only [qaa,qac,or_false] at hi;exact ⟨.inl hi,hi▸ha⟩,λi hi=>by
   rcases hi with rfl | ⟨h1,h2⟩
   . exact .inl sS
   exact absurd h1 h2,sS⟩
def SInv.bound (h:SInv nx n a M0 ms td k):td.length+k<=1+n:=by
 have h1:=h.cnt;have h2:=zhn ms;rw [h.len] at h2;omega
def SInv.pop (h:SInv nx n a M0 ms td k) (hm:∀ i,i∈td↔i∈td'\/i=x) (hl:td.length=td'.length+1):SIn2 nx n a M0 ms td' k x 0:=
 ⟨h.len,h.sub,h.src,λi hi=>h.tdo i ((hm i).2 (.inl hi)),λi hi=>by
   rcases h.clo i hi with h1 | h1
   . rcases (hm i).1 h1 with h1 | rfl
     . exact .inl h1
     exact .inr (.inl ⟨rfl,sS⟩)
   exact .inr (.inr h1),by have:=h.cnt;omega,(h.tdo x ((hm x).2 (.inr rfl))).1⟩
def SIn2.skip (h:SIn2 nx n a M0 ms td k x q) (hq:q<(nx x).length) (hmk:mkd ms (nx x)[q]):SIn2 nx n a M0 ms td k x (q+1):=
 ⟨h.len,h.sub,h.src,h.tdo,λi hi=>by
   rcases h.clo i hi with h1 | ⟨rfl,h1⟩ | h1
   . exact .inl h1
   . refine .inr (.inl ⟨rfl,λj hj=>?_⟩)
     rw [tk hq] at hj;rcases qae.1 hj with hj | hj
     . exact h1 j hj
     simp only [qaa,qac,or_false] at hj;rw [hj];exact hmk
   exact .inr (.inr h1),h.cnt,h.met⟩
def SIn2.push (h:SIn2 nx n a M0 ms td k x q) (hq:q<(nx x).length) (hn:(nx x)[q]<n) (g1:¬mkd ms (nx x)[q]):SIn2 nx n a M0 (ms.set (nx x)[q] true) (td++[(nx x)[q]]) k x (q+1):=by
 have hs:=λj=>zde (ms:=ms) (i:=(nx x)[q]) (j:=j) (by rw [h.len];exact hn)
 have hr:RP nx a (nx x)[q]:=by
   rcases h.met with e | e
   . exact .one (e▸qab hq)
   exact .more e (qab hq)
 refine ⟨by simp [h.len],λi hi=>(hs i).2 (.inl (h.sub i hi)),λi hi=>?_,λi hi=>?_,λi hi=>?_,?_,h.met⟩
 . rcases (hs i).1 hi with h1 | h1
   . exact h.src i h1
   exact .inr (h1▸hr)
 . rcases qae.1 hi with h1 | h1
   . exact h.tdo i h1
   simp only [qaa,qac,or_false] at h1;exact ⟨.inr (h1▸hr),h1▸hn⟩
 . have g0:i=(nx x)[q]\/(i=a\/(mkd ms i/\¬mkd M0 i)):=by
     rcases hi with h1 | ⟨h1,h2⟩
     . exact .inr (.inl h1)
     rcases (hs i).1 h1 with h1 | h1
     . exact .inr (.inr ⟨h1,h2⟩)
     exact .inl h1
   rcases g0 with h1 | h1
   . exact .inl (qa8 _ (by simp [h1]))
   rcases h.clo i h1 with h1 | ⟨rfl,h1⟩ | h1
   . exact .inl (qaQ _ h1)
   . refine .inr (.inl ⟨rfl,λj hj=>?_⟩)
     rw [tk hq] at hj;rcases qae.1 hj with hj | hj
     . exact (hs j).2 (.inl (h1 j hj))
     simp only [qaa,qac,or_false] at hj;exact (hs j).2 (.inr hj)
   exact .inr (.inr λj hj=>(hs j).2 (.inl (h1 j hj)))
 have:=h.cnt;rw [zjd (by rw [h.len];exact hn) g1,qag];simp only [qaj,qay];omega
def SIn2.done (h:SIn2 nx n a M0 ms td k x q) (hq:(nx x).length<=q):SInv nx n a M0 ms td (k+1):=
 ⟨h.len,h.sub,h.src,h.tdo,λi hi=>by
   rcases h.clo i hi with h1 | ⟨rfl,h1⟩ | h1
   . exact .inl h1
   . rw [qaf hq] at h1;exact .inr h1
   exact .inr h1,by have:=h.cnt;omega⟩
theorem SInv.fin (h:SInv nx n a M0 ms [] k) (hc:∀ i,mkd M0 i->i≠a->∀ j∈nx i,mkd M0 j) (i:Nat):mkd ms i↔mkd M0 i\/RP nx a i:=by
 refine ⟨h.src i,λhi=>?_⟩;rcases hi with hi | hi
 . exact h.sub i hi
 have g0:∀ b,(b=a\/mkd ms b)->∀ j∈nx b,mkd ms j:=λb hb=>by
   by_cases hba:b=a
   . rcases h.clo b (.inl hba) with h1 | h1
     . cases h1
     exact h1
   have hb:=hb.resolve_left hba;by_cases hm:mkd M0 b
   . exact λj hj=>h.sub j (hc b hm hba j hj)
   rcases h.clo b (.inr ⟨hb,hm⟩) with h1 | h1
   . cases h1
   exact h1
 induction hi with
 | one h1=>exact g0 a (.inl rfl) _ h1
 | more _ h2 ih=>exact g0 _ (.inr ih) _ h2
end
noncomputable def zbZ (n:Nat) (p:Nat->Prop):List Bool:=(List.range n).map λi=>@decide (p i) (Classical.propDecidable _)
noncomputable def zbd (n:Nat) (p:Nat->Prop):List Nat:=(List.range n).filter λi=>@decide (p i) (Classical.propDecidable _)
noncomputable def zcR (p:Nat->Prop):Nat->Nat
 | 0=>0
 | n+1=>zcR p n ||| (if @decide (p n) (Classical.propDecidable _) then 2^n else 0)
section
variable {n:Nat} {p q:Nat->Prop}
def zan:(zbZ n p).length=n:=by simp [zbZ]
def zaU {i:Nat}:mkd (zbZ n p) i↔i<n/\p i:=by
 constructor
 . intro h
   have hl:=ztZ h;rw [za5 hl] at h;rw [zan] at hl;refine ⟨hl,?_⟩;simpa [zbZ] using h
 rintro ⟨h1,h2⟩;rw [za5 (by rw [zan];exact h1)];simpa [zbZ] using h2
def zcu {ms:List Bool} (hl:ms.length=n) (h:∀ i,i<n->(mkd ms i↔p i)):ms=zbZ n p:=
 zxX (by rw [hl,zan]) λi hi=>by
   rw [zaU,h i (hl▸hi)];exact ⟨λh=>⟨hl▸hi,h⟩,λh=>h.2⟩
def za0 (h:∀ i,i<n->(p i↔q i)):zbZ n p=zbZ n q:=zcu zan λi hi=>by rw [zaU,<-h i hi];exact ⟨λh=>h.2,λh=>⟨hi,h⟩⟩
def zaH {i:Nat}:i∈zbd n p↔i<n/\p i:=by simp [zbd]
def zhS (h:∀ i,i<n->(p i↔q i)):zbd n p=zbd n q:=by
 refine List.filter_congr λi hi=>?_;have:=h i (qaw.1 hi);by_cases hp:p i
 . simp [hp,this.1 hp]
 have hq:¬q i:=λhq=>hp (this.2 hq);simp [hp,hq]
def zqM:zbd (n+1) p=zbd n p++(if @decide (p n) (Classical.propDecidable _) then [n] else []):=by
 simp only [zbd,qbz,qa7,List.filter_cons,List.filter_nil]
def zdf (h:p n):zbd (n+1) p=zbd n p++[n]:=by rw [zqM];simp [h]
def zdw (h:¬p n):zbd (n+1) p=zbd n p:=by rw [zqM];simp [h]
def zbg:(zbd n p).length<=n:=qan (qbt _ _) sS
theorem za7 {i:Nat}:(zcR p n).testBit i=true↔i<n/\p i:=by
 induction n with
 | zero=>simp [zcR]
 | succ n ih=>
   rw [zcR,qaH,qaK,ih];by_cases hp:p n
   . simp only [hp,decide_true,if_true,qaG,decide_eq_true_eq]
     constructor
     . rintro (⟨h1,h2⟩ | rfl)
       . exact ⟨oo,h2⟩
       exact ⟨oo,hp⟩
     rintro ⟨h1,h2⟩;rcases qa2 (qbg.1 h1) with h | h
     . exact .inl ⟨h,h2⟩
     exact .inr h.symm
   simp only [hp,decide_false,qa1,if_false,qcb,or_false];constructor
   . rintro ⟨h1,h2⟩;exact ⟨oo,h2⟩
   rintro ⟨h1,h2⟩;rcases qa2 (qbg.1 h1) with h | h
   . exact ⟨h,h2⟩
   exact absurd (h▸h2) hp
def zj6:zcR p n<2^n:=by
 refine qcJ _ λi hi=>?_;cases h:(zcR p n).testBit i
 . rfl
 have:=(za7.1 h).1;omega
def zem {m:Nat} (h:∀ i,m.testBit i=true↔i<n/\p i):m=zcR p n:=
 qbd λi=>by
   have h1:=h i;rw [<-za7] at h1;cases e1:m.testBit i<;>cases e2:(zcR p n).testBit i<;>simp_all
def zbC (h:∀ i,i<n->(p i↔q i)):zcR p n=zcR q n:=zem λi=>by
 rw [za7];exact ⟨λ⟨h1,h2⟩=>⟨h1,(h i h1).1 h2⟩,λ⟨h1,h2⟩=>⟨h1,(h i h1).2 h2⟩⟩
end
end Go.Sh
namespace Go.Proofs.YtcnglfeoglgebaaGreat
open Go Go.Sh Go.Proofs
open Rep (rep)
variable {W0 w w':World} {b i n p q:Nat} {c:DCode} {op x:Int} {v0:Value}
def zaA (c:DCode) (i:Nat):List Nat:=
 if (zam c i).op=9 then [] else if (zam c i).op=3 then [(zam c i).to.toNat] else if (zam c i).op=2/\(zam c i).to≠(i:Int)+1 then [i+1,(zam c i).to.toNat] else [i+1]
def zcX (hc:CodeR c) {i j:Nat} (hi:i<c.ins.length) (h:j∈zaA c i):j<c.ins.length/\zas c j=zas c i:=by
 have h9:=zmh hc (a:=(i:Int)) oo oo;have g0:=ziu hc (a:=(i:Int)) oo oo;simp only [qah] at h9 g0;unfold zaA at h;split at h
 . cases h
 rename_i ho
 have h1:=h9 ho;have e1:((i+1:Nat):Int)=(i:Int)+1:=oo
 split at h
 . rename_i h3
   simp only [qaa,qac,or_false] at h;subst h;have h2:=g0 (.inr h3);rw [qaz h2.1];exact ⟨oo,h2.2.2⟩
 split at h
 . rename_i h2
   simp only [qaa,qac,or_false] at h;rcases h with rfl | rfl
   . exact ⟨oo,by rw [e1];exact h1.2⟩
   have h2:=g0 (.inl h2.1);rw [qaz h2.1];exact ⟨oo,h2.2.2⟩
 simp only [qaa,qac,or_false] at h;subst h;exact ⟨oo,by rw [e1];exact h1.2⟩
def zfs (c:DCode) (i:Nat):(zaA c i).length<=2:=by
 unfold zaA;split
 . simp
 split
 . simp
 split<;>simp
section
variable {P:Program} {w:World} {K:VW}
def vsI (l:List Int):List Value:=l.map λx=>.int .i64 x
theorem zqN {w:World}:∀ {l:List Int},(∀ x∈l,I64 x)->Cells [] w (vsI l) l
 | [],_=>⟨rfl,rfl⟩
 | x :: l,h=>⟨[],[],[.int .i64 x],vsI l,rfl,rfl,⟨rfl,rfl,h x sS⟩,zqN λy hy=>h y (by simp [hy])⟩
def zCY {l:List Int} {e:Nat} (hl:∀ x∈l,I64 x) (hm:l.length<=maxLen):Own w.heap.size (w.alloc (.cells (vsI l).toArray e)) (.slice (some ⟨w.heap.size,0,none⟩) l.length l.length) l:=by
 have hB:Blk w.heap.size e (w.alloc (.cells (vsI l).toArray e)) (vsI l):=heap_alloc_new w _;refine ⟨[w.heap.size],⟨⟨_,⟨some ⟨w.heap.size,0,none⟩,l.length,[],vsI l,rfl,lr _,hm,zqN hl,.inr ⟨_,_,rfl,rfl,hB.range,?_⟩⟩,rfl⟩,sS,λi hi=>?_⟩,sS⟩
 . exact (Array.getElem?_eq_some_iff.1 hB).1
 simp only [qaa,qac,or_false] at hi;subst hi;exact ⟨_,_,hB⟩
theorem znV {t e:TypeId} {by_:Nat} {x y:Int} (ht:P.underlying t=some (.slice e)) (he:tyI P e=some (1,by_,false)) (hz:zcz P e=some [.int .i64 0]) (hx:I64 x) (hy:I64 y)
   (k:∀ v w',Ext w w'->Own w.heap.size w' v [x,y]->K v w'):OP P (Instr.buildSlice t 2 #[(0,.int .i64 x),(1,.int .i64 y)]) w K:=by
 unfold zcz at hz;cases hi:P.info? e with
 | none=>simp [hi] at hz
 | some i=>
   simp only [hi] at hz;obtain ⟨v,hv,g1⟩:=qaU.1 hz;refine ⟨_,w.alloc (.cells (vsI [x,y]).toArray e),?_,k _ _ (za6 w _) (zCY (l:=[x,y]) (e:=e) (by simp [hx,hy]) (by simp [maxLen]))⟩;have g0:v.cells=#[.int .i64 0]:=qce (by simpa using g1);have e1:∀ n:Int,(Value.int .i64 n).cells=#[.int .i64 n]:=λ_=>rfl;simp only [Instr.buildSlice,Sem.run_bind,run_underlying ht,Result.andThen_ok,zaS he];have e2:Array.range 2=#[0,1]:=by decide
   simp [zeroValue,typeInfo,hi,hv,newRow,Instr.fill,g0,vsI,e1,e2]
end
def zE8:zcz tp 3=some [.int .i64 0]:=by kernel_rfl
def zje (hA:At W0 b 0 c) (e0:Ext W0 w) (hc:CodeR c) (hi:i<c.ins.length) :
   CALL tp 153 [.pointer (some ⟨b,0,none⟩),.int .i64 (i:Int)] w λr w'=>Ext w w'/\Own w.heap.size w' r (zaT (zaA c i)):=by
 refine co (g:=kf [] [] []) Tryz.func153 ?_;have hil:=hc.f.ins;have g1:=ziu hc (a:=(i:Int)) oo oo;simp only [qah] at g1;refine NIL.mk rfl<|zab zbM<|zab zaM<|zaa zcQ (zak hA) e0 λv10 g3=>zad u34 zcL g3 hi λb12 o12 g2=>?_;rw [zaz] at g2;have C:zaA c i=if (zam c i).op=9 then [] else if (zam c i).op=3 then [(zam c i).to.toNat] else if (zam c i).op=2/\(zam c i).to≠(i:Int)+1 then [i+1,(zam c i).to.toNat] else [i+1]:=rfl;generalize zam c i=I at *;refine zaa zcL g2 e0 λv13 g4=>zck zqd rfl zcL rfl g4 e0 λw1 D g0 hV5=>zab zbp<|zac ty3 (zaw g0) (xrf _) λ_=>zai<|br (λc9=>?_) (λc9=>?_)
 . rw [C,if_pos c9]
   exact ⟨D,zfP rfl⟩
 rw [if_neg c9] at C;refine zai<|br (λc3=>?_) (λc3=>?_)
 . rw [if_pos c3] at C
   have ht:=g1 (.inr c3);refine zab zea<|zac ty3 (zb3 g0) (xrf _) λhI=>zb7 (x:=I.to) u33 ty3 z3 qd (zbA hI) λv w2 M hr=>⟨D.t M,?_⟩;rw [C];have e:zaT [I.to.toNat]=[I.to]:=by simp [zaT,qaz ht.1]
   rw [e];have:=D.size;exact hr.own.own.mono oo
 rw [if_neg c3] at C;have e1:zaT [i+1]=[((i+1:Nat):Int)]:=by simp [zaT]
 refine zai<|br (λc2=>?_) (λc2=>?_)
 . have ht:=g1 (.inl c2)
   refine zab zea<|zac ty3 (zb3 g0) (xrf _) λhI=>zau<|zaP<|br (λcn=>?_) (λcn=>?_)
   . rw [if_pos ⟨c2,oo⟩] at C
     refine zau<|zab zea<|zac ty3 (zb3 g0) (xrf _) λ_=>znV u33 ty3 zE8 (by unfold I64;omega) hI λv w2 M hr=>⟨D.t M,?_⟩;have e:zaT [i+1,I.to.toNat]=[((i+1:Nat):Int),I.to]:=by simp [zaT,qaz ht.1]
     rw [C,e];have:=D.size;exact hr.mono oo
   rw [if_neg (λh=>cn (by have:=h.2;omega))] at C;refine zau<|zb7 (x:=((i+1:Nat):Int)) u33 ty3 z3 qd (zbA (by unfold I64;omega)) λv w2 M hr=>⟨D.t M,?_⟩;rw [C,e1];have:=D.size;exact hr.own.own.mono oo
 rw [if_neg (λh=>c2 h.1)] at C;refine zau<|zb7 (x:=((i+1:Nat):Int)) u33 ty3 z3 qd (zbA (by unfold I64;omega)) λv w2 M hr=>⟨D.t M,?_⟩;rw [C,e1];have:=D.size;exact hr.own.own.mono oo
def zj7 (h0:Is W0 v0 c) (e0:Ext W0 w) (hc:CodeR c) (hi:i<c.ins.length) :
   CALL tp 279 [v0,.int .i64 (i:Int)] w λr w'=>Ext w w'/\Own w.heap.size w' r (zaT (zaA c i)):=by
 refine co (g:=kf [] [] []) Tryz.func279 ?_;have hil:=hc.f.ins;have g1:=ziu hc (a:=(i:Int)) oo oo;simp only [qah] at g1;refine za9 h0 e0 λw0 g2 hA=>zab zaM<|zaa zcQ (zak hA) (xrf _) λv10 g5=>zad u34 zcL g5 hi λb12 o12 g3=>?_;rw [zaz] at g3;have C:zaA c i=if (zam c i).op=9 then [] else if (zam c i).op=3 then [(zam c i).to.toNat] else if (zam c i).op=2/\(zam c i).to≠(i:Int)+1 then [i+1,(zam c i).to.toNat] else [i+1]:=rfl;generalize zam c i=I at *;refine zaa zcL g3 (xrf _) λv13 g9=>zck zqd rfl zcL rfl g9 (xrf _) λw1 g4 g0 hV5=>?_;have hs0:=g2.size;have hs1:=g4.size;have D:=g2.t g4;have e1:zaT [i+1]=[((i+1:Nat):Int)]:=by simp [zaT]
 refine zab zbp<|zac ty3 (zaw g0) (xrf _) λ_=>zai<|br (λc2=>?_) (λc2=>?_)
 . have ht:=g1 (.inl c2)
   rw [if_neg oo,if_neg oo] at C;refine zab zea<|zac ty3 (zb3 g0) (xrf _) λhI=>zau<|zai<|br (λcn=>?_) (λcn=>?_)
   . rw [if_neg (λh=>h.2 oo)] at C
     refine zau<|zb7 (x:=((i+1:Nat):Int)) u33 ty3 z3 qd (zbA (by unfold I64;omega)) λv w2 M hr=>⟨D.t M,?_⟩;rw [C,e1];exact hr.own.own.mono oo
   rw [if_pos ⟨c2,oo⟩] at C;refine zau<|zab zea<|zac ty3 (zb3 g0) (xrf _) λ_=>znV u33 ty3 zE8 (by unfold I64;omega) hI λv w2 M hr=>⟨D.t M,?_⟩;have e:zaT [i+1,I.to.toNat]=[((i+1:Nat):Int),I.to]:=by simp [zaT,qaz ht.1]
   rw [C,e];exact hr.mono oo
 refine zai<|br (λc3=>?_) (λc3=>?_)
 . rw [if_neg oo,if_pos c3] at C
   have ht:=g1 (.inr c3);refine zab zea<|zac ty3 (zb3 g0) (xrf _) λhI=>zb7 (x:=I.to) u33 ty3 z3 qd (zbA hI) λv w2 M hr=>⟨D.t M,?_⟩;rw [C];have e:zaT [I.to.toNat]=[I.to]:=by simp [zaT,qaz ht.1]
   rw [e];exact hr.own.own.mono oo
 refine zai<|br (λc9=>?_) (λc9=>?_)
 . rw [if_pos c9] at C
   rw [C];refine zaK (α:=Int) u33 ty3 λa w2 M hr=>?_;have hs2:=M.size;exact ⟨D.t M,hr.own.own.mono oo⟩
 rw [if_neg c9,if_neg c3,if_neg (λh=>c2 h.1)] at C;refine zau<|zb7 (x:=((i+1:Nat):Int)) u33 ty3 z3 qd (zbA (by unfold I64;omega)) λv w2 M hr=>⟨D.t M,?_⟩;rw [C,e1];exact hr.own.own.mono oo
section
variable {P:Program} {w w':World}
def zfG {α:Type} [Rep α] [Flat α] {F:List Nat} {v:Value} {l:List α} (hm:Mine F w v l) (hl:l≠[]):∃ b o cap,v=.slice (some ⟨b,o,none⟩) l.length cap/\F=[b]:=by
 obtain ⟨⟨cs,⟨a,cap,Fi,xs,rfl,h1,h2,hc,h4⟩,rfl⟩,hn,hw⟩:=hm;rcases h4 with ⟨h4,_⟩ | ⟨b,o,rfl,rfl,hr,hb⟩
 . exact absurd h4 hl
 have g0:=Cells.flat (xs:=xs) hc;subst g0;exact ⟨b,o,cap,rfl,rfl⟩
def zbr {α:Type} [Rep α] [Flat α] (h1:Rep.size α=1) {t by_ m n i:Nat} {l:List α} {y:α} {u:Value} {K:World->Prop} (ht:tyI P t=some (1,by_,Rep.agg α)) (hm:Mine [m] w (.slice (some ⟨m,0,none⟩) n n) l) (hl:l.length=n) (hi:i<n) (hu:Mine [] w u y)
   (k:∀ w',Chg [m] w w'->Mine [m] w' (.slice (some ⟨m,0,none⟩) n n) (l.set i y)->K w'):OPU P (Instr.storeAt t (.pointer (some ⟨m,i*1,none⟩)) u) w K:=by
 obtain ⟨b,a,cap,G,hv,hL⟩:=zwu hm (k:=i) oo;simp only [Value.slice.injEq,qak,Addr.mk.injEq,and_true] at hv;obtain ⟨⟨rfl,rfl⟩,_⟩:=hv;rw [h1,qa9] at hL;refine zdX (y':=y) (by rw [h1];exact ht) hL hu λw8 F' g1 g0 g2=>?_
 have g3:F'=[m]:=by
   obtain ⟨b,o,cap,hv,g4⟩:=zfG g0 (by intro e;have h:=congrArg List.length e;rw [qaL,hl] at h;simp only [qay] at h;omega);subst g4;have:=g2 b sS;simpa using this
 subst g3;exact k w8 g1 g0
def zb8 {α:Type} [Rep α] {t e by_ m n i:Nat} {K:Value->Prop} (h1:Rep.size α=1) (ht:P.underlying t=some (.slice e)) (he:tyI P e=some (1,by_,Rep.agg α)) (hi:i<n) (kk:K (.pointer (some ⟨m,i*1,none⟩))) :
   RD P (Instr.indexAt t (.slice (some ⟨m,0,none⟩) n n) (.int .i64 (i:Int))) w K:=ziP ht he hi kk
end
structure WI (w1 w:World) (m n lo hi:Nat) (tv:Value) (L:List Nat) (ms:List Bool):Prop where
 chg:ChgI m (m+1) w1 w
 row:RowI lo hi 3 w tv (zaT L)
 mks:Mine [m] w (.slice (some ⟨m,0,none⟩) n n) ms
 l0:w1.heap.size<=lo
 m1:m<lo
 h2:lo<=hi
 h3:hi<=w.heap.size
section
variable {w1 w w':World} {m n lo hi:Nat} {tv:Value} {L:List Nat} {ms:List Bool}
def WI.step (h:WI w1 w m n lo hi tv L ms) (hx:Ext w w'):WI w1 w' m n lo hi tv L ms:=
 ⟨h.chg.trans hx.toI,h.row.ext hx,h.mks.ext hx,h.l0,h.m1,h.h2,qan h.h3 hx.size⟩
def WI.push {g2:Value} {x:Nat} {g0 g1:Nat} (h:WI w1 w m n lo hi tv L ms) (hc:ChgI lo hi w w') (hr:RowI g0 g1 3 w' g2 (zaT L++[(x:Int)])) (hd:g0=lo/\g1=hi\/g0=w.heap.size/\g1=w'.heap.size) :
   WI w1 w' m n g0 g1 g2 (L++[x]) ms:=by
 have hs:=hc.size;have h1:=h.l0;have h2:=h.h2;have h3:=h.h3;have h4:=h.chg.size;have h5:=h.m1;have g3:=h.mks.lt m sS;refine ⟨⟨hc.os.trans h.chg.os,hc.tape.trans h.chg.tape,hc.output.trans h.chg.output,qan h4 hs,λb hb ho=>(hc.block b (qal hb h4) oo).trans (h.chg.block b hb ho)⟩,by rw [zcF];exact hr,h.mks.keep λb hb=>?_,oo,oo,oo,oo⟩;simp only [qaa,qac,or_false] at hb;subst hb;exact hc.block b g3 oo
def WI.mark {g1:List Bool} (h:WI w1 w m n lo hi tv L ms) (hc:Chg [m] w w') (hm:Mine [m] w' (.slice (some ⟨m,0,none⟩) n n) g1):WI w1 w' m n lo hi tv L g1:=by
 have g0:ChgI m (m+1) w w':=hc.toI λb hb=>by simp only [qaa,qac,or_false] at hb;omega
 have h5:=h.m1;exact ⟨h.chg.trans g0,h.row.chg g0 oo,hm,h.l0,h5,h.h2,qan h.h3 g0.size⟩
end
def zDF:zcz tp 4=some [.bool false]:=by kernel_rfl
def zc2 (lo hi:Nat) (h:I64 x):OwnI lo hi w (.int .i64 x) x:=⟨[],zbA h,sS⟩
def zbU {b:Bool}:Mine [] w (.bool b) b:=⟨⟨[.bool b],⟨rfl,rfl⟩,rfl⟩,qaq,Wr.nil w⟩
def zkL {a:Nat} (h0:Is W0 v0 c) (e0:Ext W0 w) (hc:CodeR c) (ha:a<c.ins.length) :
   CALL tp 282 [v0,.int .i64 (a:Int)] w λr w'=>Ext w w'/\∃ m,r=.slice (some ⟨m,0,none⟩) c.ins.length c.ins.length/\w.heap.size<=m/\Mine [m] w' (.slice (some ⟨m,0,none⟩) c.ins.length c.ins.length) (zbZ c.ins.length (RP (zaA c) a)):=by
 refine co (g:=kf [] [(4,36028797018899392,[6,7]),(8,36028796750529088,[6,9])] [(6,[0,1,2,3,4,5,6],0)]) Tryz.func282 ?_;have hil:=hc.f.ins;have gE:=λ{i j:Nat}=>zcX hc (i:=i) (j:=j);refine za9 h0 e0 λw1 gi hA=>zab zaM<|zaa zcQ (zak hA) (xrf _) λv11 gF=>zae u34 gF ?_;generalize hn:c.ins.length=n at *;refine ze0 (α:=Bool) u90 ty4 rfl rfl zDF oo oo λw2 gj gG=>?_;have hs1:=gi.size;have hs2:=gj.size
 have g3:Mine [w1.heap.size] w2 (.slice (some ⟨w1.heap.size,0,none⟩) n n) (List.replicate n (RepZ.zv:Bool)):=by
   obtain ⟨F,hM,hF⟩:=gG.own;obtain ⟨b,o,cap,hv,gl⟩:=zfG hM (by intro e;have:=congrArg List.length e;simp at this;omega);simp only [Value.slice.injEq,qak,Addr.mk.injEq,qbf,and_true] at hv;obtain ⟨⟨hb,ho⟩,_⟩:=hv;rw [<-hb] at gl
   rwa [gl] at hM
 have gH:(List.replicate n (RepZ.zv:Bool))=List.replicate n false:=rfl;rw [gH] at g3;refine zb7 (x:=(a:Int)) u33 ty3 z3 qd (zbA (by unfold I64;omega)) λgp w3 g4 gI=>?_;have gJ:=g4.size;generalize hm:w1.heap.size=m at *;have gK:WI w1 w3 m n w2.heap.size w3.heap.size gp [a] (List.replicate n false):=⟨(gj.t g4).toI,gI,g3.ext g4,oo,by have:=g3.lt m sS;omega,gJ,qas _⟩;refine zao (1+n) (λh us w'=>∃ (tv:Value) (lo hi:Nat) (L:List Nat) (ms:List Bool),us=[tv,.int .i64 (h:Int)]/\h<=L.length/\WI w1 w' m n lo hi tv L ms/\SInv (zaA c) n a (List.replicate n false) ms (L.drop h) h) 0 (z0 _) ⟨gp,_,_,[a],_,rfl,sS,gK,SInv.start sS ha⟩ ?_;rintro h mk u w4 hkm ⟨tv,lo,hi,L,ms,hu,hhL,g2,D⟩;obtain ⟨gM,gN⟩:=zcB hu;rw [gM,gN];have gO:=D.bound;rw [qa0] at gO;refine zae u33 g2.row.is ?_;rw [zaf];refine zag<|br (λhlt=>?_) (λhge=>?_)
 case refine_2=>
   have gP:h=L.length:=oo
   rw [gP,qbo] at D;have g5:=D.fin λi hi=>absurd hi zbX
   have gQ:ms=zbZ n (RP (zaA c) a):=zcu D.len λi hi=>by
     rw [g5 i];exact ⟨λh=>h.resolve_left zbX,.inr⟩
   rw [<-gQ];have gR:Ext w1 w4:=(xrf w1).chgI g2.chg oo;exact ⟨gi.t gR,m,rfl,oo,g2.mks⟩
 have hh:h<L.length:=oo
 have gS:=zah w4;have I:=g2.step gS;generalize World.drew1 w4=w5 at *;have gq:∀ {w:World} {lo hi tv L ms},WI w1 w m n lo hi tv L ms->Ext w1 w:=λh=>(xrf w1).chgI h.chg oo;refine zaa zbq hA (gq I) λv22 gU=>zad u33 ty3 (i:=h) I.row.is (by rw [zaf];exact hh) λb1 o1 U=>?_;rw [za3] at U;refine zac ty3 U (xrf _) λ_=>?_;generalize hx:L[h]=x at *;have g9:L.drop h=x :: L.drop (h+1):=by rw [qau hh,hx]
 have gr:x<n:=(D.tdo x (by rw [g9];simp)).2;refine (zj7 gU (gq I) hc (by rw [hn];exact gr)).mono ?_;rintro gb w6 ⟨gV,gW⟩;have gX:=I.step gV;have gY:=I.h3;have hm6:=I.mks.lt m sS;have gZ:SIn2 (zaA c) n a (List.replicate n false) ms (L.drop (h+1)) h x 0:=D.pop (λi=>by rw [g9];simp [or_comm]) (by rw [g9];simp);have hl2:=zfs c x;refine zao (zaA c x).length (λq us w'=>∃ (tv:Value) (lo hi:Nat) (L:List Nat) (ms:List Bool),us=[tv,.int .i64 (q:Int)]/\q<=(zaA c x).length/\h<L.length/\WI w1 w' m n lo hi tv L ms/\SIn2 (zaA c) n a (List.replicate n false) ms (L.drop (h+1)) h x q/\OwnI w5.heap.size w6.heap.size w' gb (zaT (zaA c x))/\(hi<=w5.heap.size\/w6.heap.size<=lo)/\w6.heap.size<=w'.heap.size) 0 (z0 _) ⟨tv,lo,hi,L,ms,rfl,z0 _,hh,gX,gZ,gW.toI,.inl gY,qas _⟩ ?_;rintro q gs u8 w7 h4 ⟨gt,gx,gy,L7,M,h5,hql,h6,V,X,O,h8,h9⟩;obtain ⟨gc,gd⟩:=zcB h5;rw [gc,gd];refine zae u33 O.is ?_;rw [zaf];refine zag<|br (λhd=>?_) (λhe=>?_)
 case refine_2=>refine zau<|⟨mk-1,oo,h+1,oo,gt,gx,gy,L7,M,rfl,oo,V,X.done oo⟩
 have hq:q<(zaA c x).length:=oo
 have gf:∀ {w:World} {K:Value->Prop} (ho:OwnI w5.heap.size w6.heap.size w gb (zaT (zaA c x))) (k:K (.int .i64 (((zaA c x)[q]:Nat):Int))),RD tp (Instr.indexAt 33 gb (.int .i64 (q:Int))) w λhg=>RD tp (Instr.loadAt 3 hg) w K:=λho k=>by
   refine zad u33 ty3 (i:=q) ho.is (by rw [zaf];exact hq) λb1 o1 U=>?_;rw [za3] at U;exact zac ty3 U (xrf _) λ_=>k
 have hy:=gE gr (qab hq);refine gf O ?_;have C:=X.len;refine zad u90 ty4 V.mks.is (by rw [C];exact hy.1) λb2 o2 hj=>zaG ty4 hj (xrf _)<|zaV ?_;have g0:=za5 (ms:=M) (i:=(zaA c x)[q]) (by rw [C];exact hy.1);refine zbz (λhf=>?_) (λhf=>?_)
 . have gg:¬mkd M (zaA c x)[q]:=by rw [g0];simpa using hf
   refine gf O<|zb8 (α:=Bool) rfl u90 ty4 hy.1<|zbr (α:=Bool) rfl ty4 V.mks C hy.1 zbU λw8 gz hk=>?_;have gC:=V.mark gz hk;have g1:ChgI m (m+1) w7 w8:=gz.toI λb hb=>by simp only [qaa,qac,or_false] at hb;omega
   have gD:=O.chg g1 oo;refine gf gD ?_;have hl:=X.push hq hy.1 gg;generalize (zaA c x)[q]=y at *
   have hLb:L7.length<=2+n:=by
     have h1:=X.cnt;have h2:=zhn M;rw [qa0] at h1;omega
   refine zdA (x:=(y:Int)) u33 ty3 z3 zc3 qd gC.row (zc2 0 0 (by unfold I64;omega)) (by rw [zal,zaf];omega) (by rw [zaf];omega) λhr w9 hs ht gh hw hz=>?_;have hB:=gC.push gh hw hz;have hC:=g1.size;have hD:=O.is;refine zau<|⟨gs-1,oo,q+1,oo,hr,hs,ht,L7++[y],_,rfl,oo,by simp;omega,hB,?_,gD.chg gh oo,oo,by have:=gh.size;omega⟩;rw [qbV oo];exact hl
 have gg:mkd M (zaA c x)[q]:=by rw [g0];simpa using hf
 refine zau<|⟨gs-1,oo,q+1,oo,gt,gx,gy,L7,M,rfl,oo,h6,V,X.skip hq gg,O,h8,h9⟩
section
variable {P:Program} {w:World} {α:Type} [Rep α] [Flat α] {lo hi e:Nat} {v:Value} {l:List α}
def zCZ {t e b o n cap k by_:Nat} {K:Value->Prop} (ht:P.underlying t=some (.slice e)) (he:tyI P e=some (Rep.size α,by_,Rep.agg α)) (hk:k<=n) (hn:n<=cap) (kk:K (.slice (some ⟨b,o,none⟩) k cap)) :
   RD P (Instr.sliceAt t (.slice (some ⟨b,o,none⟩) n cap) none (some (.int .i64 (k:Int))) none) w K:=by
 refine zbb (λw' _=>?_) kk
 have g0:(Instr.sliceBounds true n cap none (some (.int .i64 (k:Int))) none).run P w'=.ok (0,k,cap) w':=by
   have h5:(k:Int)<=(cap:Int):=oo
   simp [Instr.sliceBounds,Instr.sliceBound,asIntOf,h5];intro h6;omega
 simp only [Instr.sliceAt,Instr.slice,Sem.run_bind,run_underlying ht,Result.andThen_ok,g0,zaS he];simp [Addr.add_mid]
def zz3 (h:RowI lo hi e w v l) (hl:l≠[]) {k:Nat} (hk:k<=l.length):∃ g cap,v=.slice (some ⟨g,0,none⟩) l.length cap/\l.length<=cap/\RowI lo hi e w (.slice (some ⟨g,0,none⟩) k cap) (l.take k):=by
 rcases h with ⟨a,_,h⟩ | ⟨F,⟨xs,Fi,⟨g0,ho⟩,hc,hF,hw⟩,hn,hb⟩
 . exact absurd h hl
 rcases ho with ⟨_,h0⟩ | ⟨g,cap,cur,rfl,_,hg,h1,h2,h3,h4⟩
 . exact absurd (qam h0) hl
 refine ⟨g,cap,rfl,h1,.inr ⟨F,⟨xs.take (k*Rep.size α),[],⟨?_,.inr ⟨g,cap,cur,?_,z0 _,hg,by rw [qai];omega,h2,h3,?_⟩⟩,?_,?_,Wr.nil w⟩,hn,hb⟩⟩
 . rw [qai,qai,g0,qby hk]
   exact qby (qa5 _ hk)
 . rw [qai,qby hk]
 . rw [qai,qby hk,<-h4,List.take_take,qby (qa5 _ hk)]
 . have e1:l=l.take k++l.drop k:=by simp
   have g1:=Cells.flat (xs:=xs) hc;subst g1;rw [e1] at hc;obtain ⟨F1,F2,x1,x2,g4,g2,c1,c2⟩:=Cells.split hc;have g5:=Cells.flat (xs:=x1) c1;subst g5;have g3:=Cells.len c1;rw [qai,qby hk] at g3;rw [g2,List.take_left' g3];exact c1
 have g1:=Cells.flat (xs:=xs) hc;subst g1;rw [hF];rfl
end
def zsv {a:Nat} (h0:Is W0 v0 c) (e0:Ext W0 w) (hc:CodeR c) (ha:a<c.ins.length) :
   CALL tp 282 [v0,.int .i64 (a:Int)] w λr w'=>Ext w w'/\Own w.heap.size w' r (zbZ c.ins.length (RP (zaA c) a)):=
 (zkL h0 e0 hc ha).mono λr w' ⟨hx,m,hr,hm,hM⟩=>⟨hx,[m],by rw [hr];exact hM,λb hb=>by simp only [qaa,qac,or_false] at hb;omega⟩
def KAt (W0 w:World) (b:Nat) (c:DCode):Prop:=∃ F cs,Rep.rep F W0 cs c/\w.rangeAt b 0 cs/\b<w.heap.size
def KAt.at (h:KAt W0 w b c) (hx:Ext W0 w):At w b 0 c:=by
 obtain ⟨F,cs,hr,hc,_⟩:=h;exact ⟨F,cs,zcr hr hx,hc⟩
def KAt.keep (h:KAt W0 w b c) (hb:w'.heap[b]?=w.heap[b]?) (hs:w.heap.size<=w'.heap.size):KAt W0 w' b c:=by
 obtain ⟨F,cs,hr,hc,hl⟩:=h;exact ⟨F,cs,hr,zbo hc hb,oo⟩
def KAt.lt (h:KAt W0 w b c):b<w.heap.size:=by obtain ⟨_,_,_,_,h⟩:=h;exact h
def zqO {b m n a:Nat} {I:List Bool} (hk:KAt W0 w b c) (e0:Ext W0 w) (hc:CodeR c) (hn:c.ins.length=n) (ha:a<n) (hM:Mine [m] w (.slice (some ⟨m,0,none⟩) n n) I) (hl:I.length=n) (h0:W0.heap.size<=m) (hb:b≠m)
   (g9:∀ i,mkd I i->i≠a->∀ j∈zaA c i,mkd I j) :
   CALL tp 102 [.pointer (some ⟨b,0,none⟩),.slice (some ⟨m,0,none⟩) n n,.int .i64 (a:Int)] w λr w'=>r=.tuple #[]/\ChgI m (m+1) w w'/\Mine [m] w' (.slice (some ⟨m,0,none⟩) n n) (zbZ n λi=>mkd I i\/RP (zaA c) a i):=by
 refine co (g:=kf [] [(1,140737488351936,[6]),(5,140736414614080,[6,30])] []) Tryz.func102 ?_;have gG:=hc.f.ins;have gh:=λ{i j:Nat}=>zcX hc (i:=i) (j:=j);rw [hn] at gh gG;refine zb7 (x:=(a:Int)) u33 ty3 z3 qd (zbA (by unfold I64;omega)) λgi w1 g4 gH=>?_;have gI:WI w w1 m n w.heap.size w1.heap.size gi [a] I:=⟨g4.toI,gH,hM.ext g4,lr _,hM.lt m sS,g4.size,qas _⟩;have gJ:∀ {w':World} {lo hi tv L ms},WI w w' m n lo hi tv L ms->At w' b 0 c:=λh=>(hk.keep (h.chg.block b hk.lt oo) h.chg.size).at (e0.chgI h.chg h0);refine zao (1+n) (λh us w'=>∃ (tv:Value) (lo hi:Nat) (L:List Nat) (ms:List Bool),us=[tv]/\WI w w' m n lo hi tv L ms/\SInv (zaA c) n a I ms L h) 0 (z0 _) ⟨gi,_,_,[a],_,rfl,gI,SInv.start hl ha⟩ ?_;rintro h mk u w4 hkm ⟨tv,lo,hi,L,ms,hu,C,M⟩;try replace hu:=zbt hu
 rw [hu];have hb4:=M.bound;refine zae u33 C.row.is ?_;rw [zaf];refine zcK<|br (λhlt=>?_) (λhge=>?_)
 case refine_2=>have gK:L=[]:=qam oo;rw [gK] at M;have g5:=M.fin g9;have gM:ms=zbZ n (λi=>mkd I i\/RP (zaA c) a i):=zcu M.len λi hi=>g5 i;rw [<-gM];exact ⟨rfl,C.chg,C.mks⟩
 obtain ⟨z,hz⟩:∃ z,L.length=z+1:=⟨L.length-1,oo⟩;have gj:z<L.length:=oo
 have gN:zaT L≠[]:=λe=>by have:=congrArg List.length e;rw [zaf,hz] at this;cases this
 refine zae u33 C.row.is ?_;rw [zaf];refine zbc (by unfold I64;omega) ?_;have ez:(L.length:Int)-1=(z:Int):=oo
 rw [ez];refine zad u33 ty3 (i:=z) C.row.is (by rw [zaf];exact gj) λb1 o1 gl=>?_;rw [za3] at gl;refine zac ty3 gl (xrf _) λ_=>?_;generalize hx:L[z]=x at *;refine zae u33 C.row.is ?_;rw [zaf];refine zbc (by unfold I64;omega) ?_;rw [ez];obtain ⟨g,cap,gp,g0,gq⟩:=zz3 C.row gN (k:=z) (by rw [zaf];omega);rw [zaf] at gp g0;rw [gp];refine zCZ (α:=Int) u33 ty3 oo g0 ?_
 have gr:L=L.take z++[x]:=by
   have:=tk gj;rw [<-hz,qaD,hx] at this;exact this
 rw [<-zxW] at gq;have g3:WI w w4 m n lo hi (.slice (some ⟨g,0,none⟩) z cap) (L.take z) ms:=⟨C.chg,gq,C.mks,C.l0,C.m1,C.h2,C.h3⟩;have gs:x<n:=(M.tdo x (by rw [gr];simp)).2;refine (zje (gJ g3) (xrf _) hc (by rw [hn];exact gs)).mono ?_;rintro gO w6 ⟨gP,gt⟩;have gQ:=g3.step gP;have gR:=g3.h3;have hm6:=g3.mks.lt m sS
 have gS:∀ i,i∈L↔i∈L.take z\/i=x:=λi=>by
   have:i∈L↔i∈L.take z++[x]:=by rw [<-gr]
   rw [this];simp
 have gU:SIn2 (zaA c) n a I ms (L.take z) h x 0:=M.pop gS (by rw [qai];omega);have hl2:=zfs c x;refine zae u33 gt.is ?_;rw [zaf];refine zao (zaA c x).length (λq us w'=>∃ (tv:Value) (lo hi:Nat) (L:List Nat) (ms:List Bool),us=[tv,.int .i64 (q:Int)]/\q<=(zaA c x).length/\WI w w' m n lo hi tv L ms/\SIn2 (zaA c) n a I ms L h x q/\OwnI w4.heap.size w6.heap.size w' gO (zaT (zaA c x))/\(hi<=w4.heap.size\/w6.heap.size<=lo)/\w6.heap.size<=w'.heap.size) 0 (z0 _) ⟨_,lo,hi,_,ms,rfl,z0 _,gQ,gU,gt.toI,.inl gR,qas _⟩ ?_;rintro q gx u8 w7 gV ⟨gy,gz,gC,L7,O,gW,hql,U,V,gb,gX,gY⟩;obtain ⟨gc,gd⟩:=zcB gW;rw [gc,gd];refine zag<|br (λgZ=>?_) (λh4=>?_)
 case refine_2=>exact ⟨mk-1,oo,h+1,oo,gy,gz,gC,L7,O,rfl,U,V.done oo⟩
 have hq:q<(zaA c x).length:=oo
 have hy:=gh gs (qab hq);refine zad u33 ty3 (i:=q) gb.is (by rw [zaf];exact hq) λb3 o3 gD=>?_;rw [za3] at gD;refine zac ty3 gD (xrf _) λ_=>?_;have D:=V.len;refine zad u90 ty4 U.mks.is (by rw [D];exact hy.1) λb2 o2 h5=>zaG ty4 h5 (xrf _)<|zaV ?_;have g1:=za5 (ms:=O) (i:=(zaA c x)[q]) (by rw [D];exact hy.1);refine zbz (λhf=>?_) (λhf=>?_)
 . have gf:¬mkd O (zaA c x)[q]:=by rw [g1];simpa using hf
   refine zb8 (α:=Bool) rfl u90 ty4 hy.1<|zbr (α:=Bool) rfl ty4 U.mks D hy.1 zbU λw8 gE h6=>?_;have gF:=U.mark gE h6;have g2:ChgI m (m+1) w7 w8:=gE.toI λb hb=>by simp only [qaa,qac,or_false] at hb;omega
   have h8:=gb.chg g2 oo;have h9:=V.push hq hy.1 gf;generalize (zaA c x)[q]=y at *
   have hLb:L7.length<=2+n:=by
     have h1:=V.cnt;have h2:=zhn O;omega
   refine zdA (x:=(y:Int)) u33 ty3 z3 zc3 qd gF.row (zc2 0 0 (by unfold I64;omega)) (by rw [zal,zaf];omega) (by rw [zaf];omega) λhd w9 he hg gg hh hj=>?_;have hr:=gF.push gg hh hj;have hs:=g2.size;refine zau<|⟨gx-1,oo,q+1,oo,hd,he,hg,L7++[y],_,rfl,oo,hr,h9,h8.chg gg oo,oo,by have:=gg.size;omega⟩
 have gf:mkd O (zaA c x)[q]:=by rw [g1];simpa using hf
 refine zau<|⟨gx-1,oo,q+1,oo,gy,gz,gC,L7,O,rfl,oo,U,V.skip hq gf,gb,gX,gY⟩
def zz4 (ms:List Bool) (n:Nat):List Nat:=(List.range n).filter λi=>ms.getD i false
def zjf (ms:List Bool) (n:Nat):zz4 ms (n+1)=zz4 ms n++(if ms.getD n false then [n] else []):=by
 simp only [zz4,qbz,qa7,List.filter_cons,List.filter_nil]
def zt0 (ms:List Bool) (n:Nat):(zz4 ms n).length<=n:=qan (qbt _ _) sS
def zho (n:Nat) (p:Nat->Prop):zz4 (zbZ n p) n=zbd n p:=by
 refine List.filter_congr λi hi=>?_;have g0:=qaw.1 hi;have:=zaU (n:=n) (p:=p) (i:=i);unfold mkd at this;by_cases h:p i
 . rw [this.2 ⟨g0,h⟩];simp [h]
 have h2:(zbZ n p).getD i false≠true:=λe=>h (this.1 e).2;simp only [h,decide_false];cases hh:(zbZ n p).getD i false
 . rfl
 exact absurd hh h2
def zfH {ms:List Bool} (h0:Is W0 v0 ms) (e0:Ext W0 w) (hn:ms.length<=1000000) :
   CALL tp 276 [v0] w λr w'=>Ext w w'/\Own w.heap.size w' r (zaT (zz4 ms ms.length)):=by
 refine co (g:=kf [] [(3,1048536,[3,4])] []) Tryz.func276 ?_;refine zaK (α:=Int) u33 ty3 λa w1 g1 g3=>?_;have g4:=g1.size;refine zao ms.length (λk us w'=>∃ (v:Value),us=[v,.int .i64 (k:Int)]/\k<=ms.length/\Ext w w'/\RowI w.heap.size w'.heap.size 3 w' v (zaT (zz4 ms k))) 0 (z0 _) ⟨_,rfl,z0 _,g1,g3.mono g4 (lr _)⟩ ?_;rintro k mk u w2 hkm ⟨v,hu,hkl,C,g0⟩;obtain ⟨g5,g9⟩:=zcB hu;rw [g5,g9];refine zae u90 h0<|zag<|br (λhlt=>?_) (λhge=>?_)
 case refine_2=>
   have:k=ms.length:=oo
   rw [this] at g0;exact ⟨C,g0.own.own⟩
 have hk:k<ms.length:=oo
 have g2:=C.size;have hg:ms.getD k false=ms[k]:=by rw [List.getD_eq_getElem?_getD,List.getElem?_eq_getElem hk];rfl
 have hil:=zt0 ms k;refine zad u90 ty4 h0 hk λb2 o2 gb=>zaG ty4 gb (e0.t C)<|zbz (λhf=>?_) (λhf=>?_)
 . refine zbO (lo2:=w2.heap.size) (hi2:=w2.heap.size) (x:=(k:Int)) u33 ty3 z3 zc3 qd g0 g2 (zc2 _ _ (by unfold I64;omega)) (lr _) g2 (by rw [zal,zaf];omega) (by rw [zaf];omega) λgc w9 gd gf=>?_
   refine zau<|⟨mk-1,oo,k+1,oo,gc,rfl,oo,C.chgI gd (lr _),?_⟩;rw [zjf,hg,hf,if_pos rfl,zcF];exact gf
 refine zau<|⟨mk-1,oo,k+1,oo,v,rfl,oo,C,?_⟩;rw [zjf,hg,hf];simpa using g0
def zaN (c:DCode) (p:Nat) (i:Nat):Prop:=i=(en c p).toNat\/RP (zaA c) (en c p).toNat i
def zgf (h0:Is W0 v0 c) (e0:Ext W0 w) (hc:CodeR c) (hp:p<c.entry.length) :
   CALL tp 324 [v0,.int .i64 (p:Int)] w λr w'=>Ext w w'/\Own w.heap.size w' r (zbZ c.ins.length (zaN c p)):=by
 refine co (g:=kf [] [] [(1,[0,1,2,3,4,5,6,7],0)]) Tryz.func324 ?_;have hen:=zpe hc hp;refine za9 h0 e0 λw1 g4 hA=>?_;have C:=zah w1;generalize World.drew1 w1=w2 at *;have hs1:=g4.size;have hs2:=C.size;obtain ⟨a,g1⟩:∃ a:Nat,en c p=(a:Int):=⟨(en c p).toNat,oo⟩
 have gc:zaN c p=λi=>i=a\/RP (zaA c) a i:=by
   funext i;unfold zaN;rw [g1];rfl
 have ha:a<c.ins.length:=oo
 rw [gc];refine zaa zbq hA C λv6 h6=>zab zbi<|zaa za4 (zar hA) C λv8 h8=>zad u33 ty3 h8 hp λb1 o1 g5=>?_;rw [zbx hp,g1] at g5;refine zac ty3 g5 C λ_=>?_;refine (zkL h6 C hc ha).mono ?_;rintro _ w3 ⟨g0,m,rfl,hm,hM⟩;have hs3:=g0.size;refine zab zbi<|zaa za4 (zar hA) (C.t g0) λv15 gd=>zad u33 ty3 gd hp λb2 o2 g9=>?_;rw [zbx hp,g1] at g9;refine zac ty3 g9 (C.t g0) λ_=>zb8 (α:=Bool) rfl u90 ty4 ha<|zbr (α:=Bool) rfl ty4 hM zan ha zbU λw4 gf gb=>?_
 have g2:(zbZ c.ins.length (RP (zaA c) a)).set a true=zbZ c.ins.length (λi=>i=a\/RP (zaA c) a i):=zcu (by rw [qaL,zan]) λi hi=>by
   rw [zde (by rw [zan];exact ha),zaU];constructor
   . rintro (⟨_,h⟩ | h)
     . exact .inr h
     exact .inl h
   rintro (h | h)
   . exact .inr h
   exact .inl ⟨hi,h⟩
 rw [g2] at gb;have g3:ChgI m (m+1) w3 w4:=gf.toI λb hb=>by simp only [qaa,qac,or_false] at hb;omega
 exact ⟨((g4.t C).trans g0).chgI g3 oo,[m],gb,λb hb=>by simp only [qaa,qac,or_false] at hb;omega⟩
def ze1 {K:VW} (h0:0<n) (hn:n<=1000000)
   (k:∀ w',Ext w w'->Mine [w.heap.size] w' (.slice (some ⟨w.heap.size,0,none⟩) n n) (List.replicate n false)->K (.slice (some ⟨w.heap.size,0,none⟩) n n) w'):OP tp (Instr.makeSlice 90 (.int .i64 (n:Int)) (.int .i64 (n:Int))) w K:=
 ze0 (α:=Bool) u90 ty4 rfl rfl zDF oo oo λw2 hx2 hr2=>by
   refine k w2 hx2 ?_;obtain ⟨F,hM,hF⟩:=hr2.own;obtain ⟨b,o,cap,hv,hF2⟩:=zfG hM (by intro e;have:=congrArg List.length e;simp at this;omega);simp only [Value.slice.injEq,qak,Addr.mk.injEq,qbf,and_true] at hv;obtain ⟨⟨hb,ho⟩,_⟩:=hv;rw [<-hb] at hF2;rw [hF2] at hM;exact hM
def zdB (n:Nat) {p:Nat->Prop} (h:∀ i,¬p i):List.replicate n false=zbZ n p:=
 zcu sS λi _=>⟨λh=>absurd h zbX,λhp=>absurd hp (h i)⟩
def zt1 {p p':Nat->Prop} (hq:q<n) (h:∀ i,p' i↔p i\/i=q):(zbZ n p).set q true=zbZ n p':=
 zcu (by rw [qaL,zan]) λi hi=>by
   rw [zde (by rw [zan];exact hq),zaU,h];exact ⟨λh=>h.imp (·.2) id,λh=>h.imp (λh=>⟨hi,h⟩) id⟩
def zk0 (c:DCode) (p:Nat) (op:Int) (q:Nat):Prop:=∃ i,i<c.ins.length/\zaN c p i/\(zam c i).op=op/\(zam c i).arg=(q:Int)
def zmi (h0:Is W0 v0 c) (e0:Ext W0 w) (hc:CodeR c) (hp:p<c.entry.length) (hop:op=4\/op=5) :
   CALL tp 280 [v0,.int .i64 (p:Int),.int .i64 op] w λr w'=>Ext w w'/\Own w.heap.size w' r (zaT (zbd c.procs.length (zk0 c p op))):=by
 refine co (g:=kf [] [(4,70368744047104,[9])] []) Tryz.func280 ?_;have hil:=hc.f.ins;have h8:=hc.1.procs8;refine za9 h0 e0 λw1 gd hA=>zaa zbq hA (xrf _) λv10 gj=>?_;refine (zgf gj (xrf _) hc hp).mono ?_;rintro v12 w2 ⟨g2,gl⟩;refine zab zbG<|zaa zcv (zaC hA) g2 λv14 gp=>zae u24 gp ?_;have hs1:=gd.size;have hs2:=g2.size;refine ze1 h8.2 oo λw3 g3 g4=>?_;have hs3:=g3.size;have gq:=gl.toI.ext g3;have hm3:=g4.lt _ (qax.2 rfl);have g5:=g2.t g3;generalize hm:w2.heap.size=m at *;rw [zdB c.procs.length (p:=λq=>∃ i,i<0/\zaN c p i/\(zam c i).op=op/\(zam c i).arg=(q:Int)) (λi ⟨j,h,_⟩=>oo)] at g4;refine zao c.ins.length (λk us w'=>us=[.int .i64 (k:Int)]/\k<=c.ins.length/\ChgI m (m+1) w3 w'/\Mine [m] w' (.slice (some ⟨m,0,none⟩) c.procs.length c.procs.length) (zbZ c.procs.length λq=>∃ i,i<k/\zaN c p i/\(zam c i).op=op/\(zam c i).arg=(q:Int))) 0 (z0 _) ⟨rfl,z0 _,ChgI.refl _,g4⟩ ?_;rintro k mk u w4 hkm ⟨hu,hkl,D,I⟩;try replace hu:=zbt hu
 rw [hu];have C:Ext w1 w4:=g5.chgI D oo;have gr:=gq.chg D oo;refine zab zaM<|zaa zcQ (zak hA) C λv19 gs=>zae u34 gs<|zag<|br (λhlt=>?_) (λhge=>?_)
 case refine_2=>
   have gt:k=c.ins.length:=oo
   rw [gt] at I;refine (zfH I.is (xrf _) (by rw [zan];omega)).mono ?_;rintro r w5 ⟨gx,gf⟩;rw [zan,zho] at gf;have hsz:=C.size;exact ⟨(gd.t C).trans gx,gf.mono oo⟩
 have hk:k<c.ins.length:=oo
 have gg:¬(zaN c p k/\(zam c k).op=op)->(zbZ c.procs.length λq=>∃ i,i<k/\zaN c p i/\(zam c i).op=op/\(zam c i).arg=(q:Int))=zbZ c.procs.length λq=>∃ i,i<k+1/\zaN c p i/\(zam c i).op=op/\(zam c i).arg=(q:Int):=λhn=>za0 λq _=>by
   constructor
   . rintro ⟨i,h1,h2⟩
     exact ⟨i,oo,h2⟩
   rintro ⟨i,h1,h2,h3,h4⟩;by_cases h:i=k
   . subst h;exact absurd ⟨h2,h3⟩ hn
   exact ⟨i,oo,h2,h3,h4⟩
 refine zad u90 ty4 (i:=k) gr.is (by rw [zan];exact hk) λb2 o2 gy=>zaG ty4 gy (xrf _) ?_;have g9:=zaU (n:=c.ins.length) (p:=zaN c p) (i:=k);rw [za5 (by rw [zan];exact hk)] at g9;refine zbz (λhf=>?_) (λhf=>?_)
 case refine_2=>refine zau<|⟨mk-1,oo,k+1,oo,rfl,oo,D,?_⟩;rw [<-gg λh=>by rw [g9.2 ⟨hk,h.1⟩] at hf;cases hf];exact I
 have g0:=(g9.1 hf).2;refine zab zaM<|zaa zcQ (zak hA) C λv30 gz=>zad u34 zcL gz hk λb3 o3 gh=>?_;rw [zaz] at gh;refine zab zbp<|zac ty3 (zaw gh) C λ_=>zai<|br (λho=>?_) (λho=>?_)
 case refine_2=>refine zau<|⟨mk-1,oo,k+1,oo,rfl,oo,D,?_⟩;rw [<-gg λh=>ho h.2];exact I
 have g1:=(zhk hc hk).2.1;unfold zcl at g1;rw [if_neg oo,if_pos oo] at g1;obtain ⟨q,hq⟩:∃ q:Nat,(zam c k).arg=(q:Int):=⟨(zam c k).arg.toNat,oo⟩;have gb:q<c.procs.length:=oo
 refine zab zaM<|zaa zcQ (zak hA) C λv40 gC=>zad u34 zcL gC hk λb5 o5 gi=>?_;rw [zaz] at gi;refine zab za8<|zac ty3 (zaq gi) C λ_=>?_;rw [hq];refine zb8 (α:=Bool) rfl u90 ty4 gb<|zbr (α:=Bool) rfl ty4 I zan gb zbU λw5 gD gE=>?_;have gc:ChgI m (m+1) w4 w5:=gD.toI λb hb=>by simp only [qaa,qac,or_false] at hb;omega
 refine zau<|⟨mk-1,oo,k+1,oo,rfl,oo,D.trans gc,?_⟩;rw [<-zt1 (p:=λq=>∃ i,i<k/\zaN c p i/\(zam c i).op=op/\(zam c i).arg=(q:Int)) gb λr=>?_]
 . exact gE
 constructor
 . rintro ⟨i,h1,h2,h3,h4⟩
   by_cases h:i=k
   . subst h;right;omega
   exact .inl ⟨i,oo,h2,h3,h4⟩
 rintro (⟨i,h1,h2⟩ | rfl)
 . exact ⟨i,oo,h2⟩
 exact ⟨k,oo,g0,ho,hq⟩
end Go.Proofs.YtcnglfeoglgebaaGreat
namespace Go.Sh
variable {i k m:Nat}
def zlg (m n:Nat):Nat:=Nat.bitwise (λa b=>a&&!b) m n
def zdg (m n i:Nat):(zlg m n).testBit i=(m.testBit i&&!n.testBit i):=Nat.testBit_bitwise rfl m n i
def ziv (m n:Nat):zlg m n<=m:=Nat.le_of_testBit λi h=>by rw [zdg] at h;simp at h;exact h.1
section
variable {P:Program} {w:World} {K:Value->Prop} {t:TypeId} {x y:Operand}
def zeA {m n:Nat} (hm:m<4611686018427387904) (hn:n<4611686018427387904) (k:K (.int .i64 ((m &&& n:Nat):Int))):RD P (bin .and t x y (.int .i64 (m:Int)) (.int .i64 (n:Int))) w K:=by
 have hlt:m &&& n<=m:=qaX;refine zbb (λw' _=>?_) k;have e1:IntKind.i64.wrap ((m &&& n:Nat):Int)=((m &&& n:Nat):Int):=IntWalk.i64_in _ oo
 have e2:((BitVec.ofInt 64 (m:Int)) &&& (BitVec.ofInt 64 (n:Int))).toNat=m &&& n:=by
   simp only [BitVec.toNat_and,BitVec.ofInt_natCast,BitVec.toNat_ofNat];rw [qbn oo,qbn oo]
 show (do eqGuard .and t x y (.int .i64 (m:Int)) (.int .i64 (n:Int));binOp .and t (.int .i64 (m:Int)) (.int .i64 (n:Int)):Sem Value).run P w'=_;simp only [eqGuard,binOp,Op.intBits];show Result.ok (Value.int .i64 (IntKind.i64.wrap (((BitVec.ofInt 64 (m:Int)) &&& (BitVec.ofInt 64 (n:Int))).toNat:Nat))) w'=_;rw [e2,e1]
def zft {m n:Nat} (hm:m<4611686018427387904) (hn:n<4611686018427387904) (k:K (.int .i64 ((zlg m n:Nat):Int))):RD P (bin .andNot t x y (.int .i64 (m:Int)) (.int .i64 (n:Int))) w K:=by
 have hlt:zlg m n<=m:=ziv m n;refine zbb (λw' _=>?_) k;have e1:IntKind.i64.wrap ((zlg m n:Nat):Int)=((zlg m n:Nat):Int):=IntWalk.i64_in _ oo
 have e2:((BitVec.ofInt 64 (m:Int)) &&& ~~~(BitVec.ofInt 64 (n:Int))).toNat=zlg m n:=by
   apply qbd;intro i;have g0:m<2^64:=oo
   have g1:n<2^64:=oo
   simp only [BitVec.testBit_toNat,BitVec.getLsbD_and,BitVec.getLsbD_not,BitVec.ofInt_natCast,BitVec.getLsbD_ofNat,zdg];by_cases hi:i<64
   . simp [hi]
   have:m.testBit i=false:=qbj (qal g0 (qat oo oo));simp [hi,this]
 show (do eqGuard .andNot t x y (.int .i64 (m:Int)) (.int .i64 (n:Int));binOp .andNot t (.int .i64 (m:Int)) (.int .i64 (n:Int)):Sem Value).run P w'=_;simp only [eqGuard,binOp,Op.intBits];show Result.ok (Value.int .i64 (IntKind.i64.wrap (((BitVec.ofInt 64 (m:Int)) &&& ~~~(BitVec.ofInt 64 (n:Int))).toNat:Nat))) w'=_;rw [e2,e1]
def zBU {m n:Nat} {ku:IntKind} (hm:m<4611686018427387904) (k:K (.int .i64 ((m >>> n:Nat):Int))):RD P (bin .shr t x y (.int .i64 (m:Int)) (.int ku (n:Int))) w K:=by
 refine zbb (λw' _=>?_) k;have e0:¬((n:Int)<0):=oo
 have e1:(m:Int).fdiv (2^(min n 64))=((m >>> n:Nat):Int):=by
   rw [qbm];have h2:((2:Int)^(min n 64))=((2^(min n 64):Nat):Int):=by simp
   rw [h2,qcB _ (Int.natCast_nonneg _),<-Int.natCast_ediv];by_cases h:n<=64
   . rw [qby h]
   rw [Nat.min_eq_right oo,qca oo,qca (qal (by omega:m<2^64) (qat oo oo))]
 show (do eqGuard .shr t x y (.int .i64 (m:Int)) (.int ku (n:Int));binOp .shr t (.int .i64 (m:Int)) (.int ku (n:Int)):Sem Value).run P w'=_;simp only [eqGuard,binOp,Op.shift,e0,if_false,qah];show Result.ok (Value.int .i64 ((m:Int).fdiv (2^(min n 64)))) w'=_;rw [e1]
end
def zdM (m:Nat):Nat->List Int
 | 0=>[]
 | k+1=>if m.testBit k then zdM m k++[(k:Int)] else zdM m k
theorem zgg (m:Nat):∀ k,(zdM m k).length<=k
 | 0=>qas _
 | k+1=>by
   have:=zgg m k;rw [zdM];split
   . simp;omega
   omega
theorem zmj {m k:Nat} (h:m<2^k):∀ {j:Nat},k<=j->zdM m j=zdM m k
 | 0,hj=>by rw [Nat.le_zero.1 hj]
 | j+1,hj=>by
   by_cases e:k=j+1
   . rw [e]
   rw [zdM,if_neg,zmj h oo];rw [qbj (qal h (qat oo oo))];simp
def zbJ (m:Nat):List Int:=zdM m 64
def zlh (h:m<2^k) (hk:k<=64):zbJ m=zdM m k:=zmj h hk
theorem zdN {m:Nat} {x:Int}:∀ {k:Nat},x∈zdM m k↔∃ i,i<k/\x=(i:Int)/\m.testBit i=true
 | 0=>by simp [zdM]
 | k+1=>by
   rw [zdM];constructor
   . intro h
     split at h
     . rename_i hb
       rcases qae.1 h with h | h
       . obtain ⟨i,h1,h2,h3⟩:=zdN.1 h;exact ⟨i,oo,h2,h3⟩
       simp at h;exact ⟨k,oo,h,hb⟩
     obtain ⟨i,h1,h2,h3⟩:=zdN.1 h;exact ⟨i,oo,h2,h3⟩
   rintro ⟨i,h1,h2,h3⟩;by_cases e:i=k
   . subst e;rw [if_pos h3];simp [h2]
   have:=(zdN (m:=m) (x:=x) (k:=k)).2 ⟨i,oo,h2,h3⟩;split
   . simp [this]
   exact this
def zxY (m i:Nat):decide (((m >>> i &&& 1:Nat):Int)=1)=m.testBit i:=by
 have h:m >>> i &&& 1=(m.testBit i).toNat:=by
   rw [qcC,Nat.testBit_eq_decide_div_mod_eq,qbm];rcases qcA (m / 2^i) with h | h<;>simp [h]
 rw [h];cases m.testBit i<;>rfl
theorem zz5 (m i:Nat):decide (((m &&& 2^i:Nat):Int)≠0)=m.testBit i:=by
 have hp:0<2^i:=Nat.pow_pos oo;cases hb:m.testBit i with
 | false=>
   have:m &&& 2^i=0:=by
     apply qbd;intro j;rw [qaP,qaG];by_cases e:i=j
     . subst e;simp [hb]
     simp [e]
   simp [this]
 | true=>
   have:m &&& 2^i≠0:=λe=>by
     have:=congrArg (·.testBit i) e;simp [qaP,qaG,hb] at this
   simp only [ne_eq,decide_eq_true_eq];omega
def zt2:m >>> i=0↔m<2^i:=by
 rw [qbm,Nat.div_eq_zero_iff];have:¬(2^i=0):=by have:0<2^i:=Nat.pow_pos oo;omega
 simp [this]
end Go.Sh
namespace Go.Proofs.YtcnglfeoglgebaaGreat
open Go Go.Sh Go.Proofs
open Rep (rep)
variable {C out:List Nat} {W0 W1 w:World} {a:Int} {b h i j l m p q r:Nat} {c:DCode} {s:DState} {v0 v1:Value}
def zgh   (hm:m<4611686018427387904) (hi:i<4611686018427387904) :
   CALL tp 110 [.int .i64 (m:Int),.int .i64 (i:Int)] w λr w'=>Ext w w'/\(r=.bool (m.testBit i)):=by
 refine co (g:=kf [] [] []) Tryz.func110 ?_;refine zb0 kK zkA oo<|zBU oo<|zeA (n:=1) (qaF (Nat.shiftRight_le m i) hm) oo<|zai<|⟨xrf w,?_⟩;rw [zxY]
def zdr   (hm:m<4611686018427387904) :
   CALL tp 48 [.int .i64 (m:Int)] w λr w'=>Ext w w'/\(Own w.heap.size w' r (zbJ m)):=by
 refine co (g:=kf [] [(3,524280,[3,4])] []) Tryz.func48 ?_;refine zao (62) (λk us w'=>∃ v:Value,us=[v,.int .i64 (k:Int)]/\Ext w w'/\(RowI w.heap.size w'.heap.size 3 w' v (zdM m k))) (0) oo ⟨_,rfl,xrf w,zb6 _ _ _ _⟩ ?_;rintro k m3 uu3 w1_ hk3 ⟨v3,hu,y1,C⟩;have σ1:=y1.size;obtain ⟨g1,g2⟩:=zcB hu;try rw [g1]
 try rw [g2]
 try clear g1 g2
 have hrl:=zgg m k;refine zb0 kK zkA oo<|zBU oo<|zaP<|br (λc1=>?_) (λc1=>?_)
 . have g5:k<62:=by
     rcases qaA k 62 with h | h
     . exact h
     have h1:m<2^k:=qal (show m<2^62 by omega) (qat oo h);exact absurd (by rw [zt2.2 h1];rfl) c1
   refine (zgh oo oo).mono ?_;rintro _ g3 ⟨y2,rfl⟩;have σ2:=y2.size;refine zbz (λc2=>?_) (λc2=>?_)
   . refine zbO (α:=Int) u33 ty3 z3 zc3 qd (C.ext y2) oo (ownI_int (lo:=g3.heap.size) (hi:=g3.heap.size) (by first | assumption | (unfold I64 at *;omega))) oo oo (by rw [zal];omega) oo λv18 w3_ g0 g9=>?_
     have g4:=g0.size;refine zau<|⟨m3-1,oo,k+1,oo,_,rfl,(Ext.chgI (y1.t y2) g0 oo),?_⟩;rw [zdM,if_pos c2];exact g9
   refine zau<|⟨m3-1,oo,k+1,oo,_,rfl,(y1.t y2),?_⟩;rw [zdM,if_neg (by simp [c2])];exact (C.ext y2).mono oo oo
 refine ⟨y1,?_⟩;have h1:m >>> k=0:=by have:=qad.1 c1;omega
 rw [zlh (zt2.1 h1) oo];exact C.own.own
def zgi   (hi:i<62) :
   CALL tp 172 [.int .i64 (i:Int)] w λr w'=>Ext w w'/\(r=.int .i64 ((2^i:Nat):Int)):=by
 refine co (g:=kf [] [] []) Tryz.func172 ?_;refine zb0 kK zkA oo<|zdF oo<|⟨xrf w,?_⟩;rfl
def zz6   (hm:m<4611686018427387904) (hi:i<62) :
   CALL tp 239 [.int .i64 (m:Int),.int .i64 (i:Int)] w λr w'=>Ext w w'/\(r=.bool (m.testBit i)):=by
 refine co (g:=kf [] [] []) Tryz.func239 ?_;refine (zgi oo).mono ?_;rintro _ w1_ ⟨y1,rfl⟩;have hp:2^i<4611686018427387904:=qal (qaJ oo hi) (by omega:2^62<=4611686018427387904);refine zeA oo oo<|zaP<|⟨y1,?_⟩;rw [zz5]
def zt3    :
   CALL tp 238 [.int .i64 a] w λr w'=>Ext w w'/\(r=.bool (decide (0<=a/\a<=63))):=by
 refine co (g:=kf [] [] []) Tryz.func238 ?_;refine (l01In_ok ).mono ?_;rintro _ w1_ ⟨y1,rfl⟩;refine ⟨y1,?_⟩;rfl
def zjg (hc:CodeR c) (hs:zaE c s) (t:Int):-1<=za1 c s t/\za1 c s t<c.locks.length/\(0<=za1 c s t->(za1 c s t).toNat<s.owner.length/\0<=ow s (za1 c s t)/\ow s (za1 c s t)<s.stacks.length):=by
 unfold za1;split
 . rename_i h
   have h1:=zdv hc hs h.1 (.inl h.2.1);have h2:=zpa hs h1.1 h1.2;have h3:=hs.2.1;refine ⟨oo,oo,λ_=>⟨h1.2,h.2.2,h2.2⟩⟩
 exact ⟨oo,oo,λh=>oo⟩
def zjh (c:DCode) (s:DState) (t:Int):Nat->Nat->Int->Nat
 | 0,_,_=>0
 | n+1,m,u=>if za1 c s u<0 then 0 else if ow s (za1 c s u)=t then m ||| 2^(za1 c s u).toNat else zjh c s t n (m ||| 2^(za1 c s u).toNat) (ow s (za1 c s u))
def zhp (c:DCode) (s:DState) (t:Int):Nat:=zjh c s t s.stacks.length 0 t
def zqP (hm:m<64) (hi:i<6):m ||| 2^i<64:=qaT (n:=6) hm (qaJ oo hi)
theorem zt4 {c:DCode} {s:DState} (hc:CodeR c) (hs:zaE c s) (t:Int):∀ n m u,m<64->zjh c s t n m u<64
 | 0,_,_,_=>by rw [zjh];omega
 | n+1,m,u,hm=>by
   have h1:=zjg hc hs u;have h2:=hc.1.locks6;rw [zjh];split
   . omega
   have h3:=zqP hm (i:=(za1 c s u).toNat) oo;split
   . exact h3
   exact zt4 hc hs t n _ _ h3
def zmk (hc:CodeR c) (hs:zaE c s) (t:Int):zhp c s t<64:=zt4 hc hs t _ _ _ oo
def zxZ {t:Int}  (h0:Is W0 v0 c) (e0:Ext W0 w) (h1:Is W1 v1 s) (e1:Ext W1 w) (hc:CodeR c) (hs:zaE c s) :
   CALL tp 67 [v0,v1,.int .i64 t] w λr w'=>Ext w w'/\(r=.int .i64 (zhp c s t:Int)):=by
 refine co (g:=kf [] [(3,34359722944,[7,8,14])] []) Tryz.func67 ?_;refine zat zbq rfl h0 e0 λw1_ y1 hA3 gf=>zat zc0 rfl h1 (e1.trans y1) λg0 y2 gg g1=>zab zbj<|zaa zeN (zaJ gg) (xrf g0) λv12 g2=>?_;have g3:=zaj g2;refine zae u44 g2<|zao (s.stacks.length) (λk us w'=>∃ q:Nat×Int,us=[.int .i64 (q.1:Int),.int .i64 q.2,.int .i64 (k:Int)]/\Ext g0 w'/\(q.1<64/\zjh c s t (s.stacks.length-k) q.1 q.2=zhp c s t)) (0) oo ⟨(0,t),rfl,xrf g0,sS,rfl⟩ ?_;rintro k m3 uu3 w3_ hk3 ⟨q,hu,y3,g4,C⟩;obtain ⟨g5,g9,gb⟩:=zEN hu;try rw [g5]
 try rw [g9]
 try rw [gb]
 try clear g5 g9 gb
 obtain ⟨q,u⟩:=q;simp only at g4 C ⊢;have hw:=zjg hc hs u;have hl6:=hc.1.locks6;have gc:=hs.2.2.1;refine zag<|br (λc1=>?_) (λc1=>?_)
 . refine zaF gf (y2.t y3) ?_
   refine zaF g1 y3 ?_;refine (zz0 h0 (e0.t (y1.t (y2.t y3))) h1 (e1.trans (y1.t (y2.t y3))) aA aA).mono ?_;rintro _ w4_ ⟨y4,rfl⟩;refine zag<|br (λc2=>?_) (λc2=>?_)
   . refine ⟨(y1.t (y2.t (y3.t y4))),?_⟩
     rw [show s.stacks.length-k=(s.stacks.length-k-1)+1 by omega,zjh,if_pos oo] at C;rw [<-C];rfl
   rw [show s.stacks.length-k=(s.stacks.length-k-1)+1 by omega,zjh,if_neg oo] at C;obtain ⟨l,hl⟩:∃ l:Nat,za1 c s u=(l:Int):=⟨(za1 c s u).toNat,oo⟩;have gd:=hw.2.2 oo;rw [hl] at hw gd C ⊢;simp only [qah] at C gd;have gh:=zqP g4 (i:=l) oo;have hp:2^l<64:=qaJ (n:=6) oo oo;refine zb0 kK zkA oo<|zdF oo<|zgz oo oo<|zaF g1 (y3.t y4) ?_;refine (zit h1 (e1.trans (y1.t (y2.t (y3.t y4)))) oo oo).mono ?_;rintro _ w5_ ⟨y5,rfl⟩;refine zai<|br (λc3=>?_) (λc3=>?_)
   . refine ⟨(y1.t (y2.t (y3.t (y4.t y5)))),?_⟩
     rw [if_pos oo] at C;rw [C]
   refine zau<|⟨m3-1,oo,k+1,oo,(q ||| 2^l,max (ow s (l:Int)) (-1)),rfl,(y3.t (y4.t y5)),?_⟩;rw [if_neg oo] at C;refine ⟨gh,?_⟩;rw [<-C];simp only;rw [show max (ow s (l:Int)) (-1)=ow s (l:Int) by omega,Nat.sub_sub]
 refine ⟨(y1.t (y2.t y3)),?_⟩;rw [show s.stacks.length-k=0 by omega,zjh] at C;rw [<-C];rfl
def zx0 (c:DCode) (s:DState) (t:Int):List Int:=if CodeR c/\zaE c s then zbJ (zhp c s t) else []
def zvn:zbJ 0=[]:=by rw [zlh (k:=0) oo oo];rfl
def zpf {t:Int}  (h0:Is W0 v0 c) (e0:Ext W0 w) (h1:Is W1 v1 s) (e1:Ext W1 w)  :
   CALL tp 33 [v0,v1,.int .i64 t] w λr w'=>Ext w w'/\(Own w.heap.size w' r (zx0 c s t)):=by
 refine co (g:=kf [] [] []) Tryz.func33 ?_;have σe0:=e0.size;have σe1:=e1.size;refine zat zbq rfl h0 e0 λw1_ y1 hA3 g1=>?_;have σ1:=y1.size;refine zat zc0 rfl h1 (e1.trans y1) λg3 y2 hA4 g2=>?_;have σ2:=y2.size;refine zaF g1 y2<|zaF g2 (xrf g3) ?_;refine (zer h0 (e0.t (y1.t y2)) h1 (e1.trans (y1.t y2))).mono ?_;rintro _ w3_ ⟨y3,rfl⟩;have σ3:=y3.size;refine zav<|br (λc1=>?_) (λc1=>?_)
 . refine ⟨(y1.t (y2.t y3)),?_⟩
   unfold zx0;rw [if_neg c1];exact zfP rfl
 refine zaF g1 (y2.t y3)<|zaF g2 y3 ?_;refine (zxZ h0 (e0.t (y1.t (y2.t y3))) h1 (e1.trans (y1.t (y2.t y3))) (qad.1 c1).1 (qad.1 c1).2).mono ?_;rintro _ w4_ ⟨y4,rfl⟩;have σ4:=y4.size;have g4:=zmk (qad.1 c1).1 (qad.1 c1).2 t;refine (zdr oo).mono ?_;rintro r15 w5_ ⟨y5,g0⟩;have g0:=g0.toI;have σ5:=y5.size;refine ⟨(y1.t (y2.t (y3.t (y4.t y5)))),?_⟩;unfold zx0;rw [if_pos (qad.1 c1)];exact g0.own.mono oo
def zsw (c:DCode) (s:DState):Nat->Nat
 | 0=>0
 | k+1=>if zhp c s k≠0 then zsw c s k ||| 2^(za1 c s k).toNat else zsw c s k
def orL (sets:List Nat) (l:List Int):Nat:=l.foldl (λa i=>a ||| sets.getD i.toNat 0) 0
def zz7 (r:List Nat) (l:List Int) (i:Int):orL r (l++[i])=orL r l ||| r.getD i.toNat 0:=by simp [orL]
def zt5 {r:List Nat} (hs:∀ x∈r,x<256) (l:List Int):orL r l<256:=by
 have g0:∀ (l:List Int) (a:Nat),a<256->l.foldl (λa i=>a ||| r.getD i.toNat 0) a<256:=λl=>by
   induction l with
   | nil=>exact λa h=>h
   | cons i l ih=>
     intro a ha;rw [qbw];refine ih _ (qaT (n:=8) ha ?_);rw [List.getD_eq_getElem?_getD];cases h:r[i.toNat]? with
     | none=>simp
     | some x=>exact hs x (List.mem_of_getElem? h)
 exact g0 l 0 oo
def zhT (h0:Is W0 v0 (zaT C)) (e0:Ext W0 w) (hs:∀ x∈C,x<256) (hl:C.length<=8) (hm:m<2^C.length) :
   CALL tp 116 [v0,.int .i64 (m:Int)] w λr w'=>Ext w w'/\r=.int .i64 (orL C (zbJ m):Nat):=by
 refine co (g:=kf [] [(3,4192416,[5,11])] []) Tryz.func116 ?_;have gb:2^C.length<=2^8:=qat oo hl;refine (zdr (m:=m) oo).mono ?_;rintro v9 w1 ⟨g3,g4⟩;have hbl:(zbJ m).length<=64:=zgg m 64;refine zae u33 g4.is<|zao (zbJ m).length (λk us w'=>us=[.int .i64 ((orL C ((zbJ m).take k):Nat):Int),.int .i64 (k:Int)]/\k<=(zbJ m).length/\Ext w1 w') 0 (z0 _) ⟨rfl,z0 _,xrf _⟩ ?_;rintro k mk u w2 hkm ⟨hu,hkl,g0⟩;obtain ⟨gc,gd⟩:=zcB hu;rw [gc,gd];refine zag<|br (λhlt=>?_) (λhge=>?_)
 case refine_2=>
   have:k=(zbJ m).length:=oo
   rw [this,qaD];exact ⟨g3.t g0,rfl⟩
 have hk:k<(zbJ m).length:=oo
 have g1:(zbJ m)[k]∈zbJ m:=qab hk;obtain ⟨i,hi1,hi2,g5⟩:=zdN.1 g1
 have g2:i<C.length:=qbb λhc=>by
   have:=qbj (qal hm (qat oo (by omega:C.length<=i)));rw [this] at g5;cases g5
 refine zad u33 ty3 (i:=k) g4.is hk λb1 o1 gf=>zac ty3 gf g0 λ_=>?_;rw [hi2];refine zad u33 ty3 (i:=i) h0 (by rw [zaf];exact g2) λb2 o2 g9=>?_;rw [za3] at g9;refine zac ty3 g9 ((e0.t g3).trans g0) λ_=>?_;have h1:=zt5 hs ((zbJ m).take k);have h2:=hs C[i] (qab g2);refine zgz oo oo<|zau<|⟨mk-1,oo,k+1,oo,?_,oo,g0⟩;rw [tk hk,zz7,hi2,qah,List.getD_eq_getElem?_getD,List.getElem?_eq_getElem g2];rfl
noncomputable def zml (c:DCode) (p:Nat):List Nat:=zbd c.procs.length (zk0 c p 4)
def zgR {a:Nat} (h0:Is W0 v0 c) (e0:Ext W0 w) (hc:CodeR c) (ha:a<c.procs.length) :
   CALL tp 223 [v0,.int .i64 (a:Int)] w λr w'=>Ext w w'/\∃ m,r=.slice (some ⟨m,0,none⟩) c.procs.length c.procs.length/\w.heap.size<=m/\Mine [m] w' (.slice (some ⟨m,0,none⟩) c.procs.length c.procs.length) (zbZ c.procs.length λi=>i=a\/RP (zml c) a i):=by
 refine co (g:=kf [] [(5,288230376151188416,[6,7]),(9,288230374004228672,[6,9])] [(7,[0,1,2,3,4,5,6],0)]) Tryz.func223 ?_;have h8:=hc.1.procs8;have hep:=hc.2.1.1;have g5:∀ x,zml c x=zbd c.procs.length (zk0 c x 4):=λ_=>rfl;refine za9 h0 e0 λw1 gq hA=>zab zbG<|zaa zcv (zaC hA) (xrf _) λv11 gJ=>zae u24 gJ ?_;generalize hn:c.procs.length=n at *;have gK:∀ {i j:Nat},i<n->j∈zml c i->j<n/\True:=λ{i j} _ hj=>by rw [g5] at hj;exact ⟨(zaH.1 hj).1,trivial⟩
 have g9:∀ x,(zml c x).length<=n:=λx=>by rw [g5];exact zbg
 refine ze1 h8.2 oo λw2 gr gM=>?_;have hs1:=gq.size;have hs2:=gr.size;refine zb8 (α:=Bool) rfl u90 ty4 ha<|zbr (α:=Bool) rfl ty4 gM sS ha zbU λgs gN g0=>?_;have g1:ChgI w1.heap.size (w1.heap.size+1) w2 gs:=gN.toI λb hb=>by simp only [qaa,qac,or_false] at hb;omega
 have gO:=g1.size;have gb:((List.replicate n false).set a true).length=n:=by simp
 have gt:∀ i,mkd ((List.replicate n false).set a true) i↔i=a:=λi=>by
   rw [zde (by simp;exact ha)];exact ⟨λh=>h.resolve_left zbX,.inr⟩
 generalize (List.replicate n false).set a true=M0 at *;refine zb7 (x:=(a:Int)) u33 ty3 z3 qd (zbA (by unfold I64;omega)) λgx w3 gc gP=>?_;have gQ:=gc.size;generalize hm:w1.heap.size=m at *;have gR:WI w1 w3 m n gs.heap.size w3.heap.size gx [a] M0:=⟨(gr.toI.trans g1).trans gc.toI,gP,g0.ext gc,oo,by have:=g0.lt m sS;omega,gQ,qas _⟩;generalize zml c=nx at *;refine zao (1+n) (λh us w'=>∃ (tv:Value) (lo hi:Nat) (L:List Nat) (ms:List Bool),us=[tv,.int .i64 (h:Int)]/\h<=L.length/\WI w1 w' m n lo hi tv L ms/\SInv nx n a M0 ms (L.drop h) h) 0 (z0 _) ⟨gx,_,_,[a],_,rfl,sS,gR,SInv.start gb ha⟩ ?_;rintro h mk u w4 hkm ⟨tv,lo,hi,L,ms,hu,hhL,g4,D⟩;obtain ⟨gS,gU⟩:=zcB hu;rw [gS,gU];have gV:=D.bound;rw [qa0] at gV;refine zae u33 g4.row.is ?_;rw [zaf];refine zag<|br (λhlt=>?_) (λhge=>?_)
 case refine_2=>
   have gW:h=L.length:=oo
   rw [gW,qbo] at D;have gd:=D.fin λi hi gX=>absurd ((gt i).1 hi) gX;have gY:ms=zbZ n (λi=>i=a\/RP nx a i):=zcu D.len λi hi=>by rw [gd i,gt]
   rw [<-gY];have gZ:Ext w1 w4:=(xrf w1).chgI g4.chg oo;exact ⟨gq.t gZ,m,rfl,oo,g4.mks⟩
 have hh:h<L.length:=oo
 have h4:=zah w4;have I:=g4.step h4;generalize World.drew1 w4=w5 at *;have gy:∀ {w:World} {lo hi tv L ms},WI w1 w m n lo hi tv L ms->Ext w1 w:=λh=>(xrf w1).chgI h.chg oo;refine zaa zbq hA (gy I) λv22 h5=>zad u33 ty3 (i:=h) I.row.is (by rw [zaf];exact hh) λb1 o1 U=>?_;rw [za3] at U;refine zac ty3 U (xrf _) λ_=>?_;generalize hx:L[h]=x at *;have gf:L.drop h=x :: L.drop (h+1):=by rw [qau hh,hx]
 have h6:x<n:=(D.tdo x (by rw [gf];simp)).2;refine (zmi h5 (gy I) hc oo (.inl rfl)).mono ?_;rintro gg w6 ⟨h9,gz⟩;rw [hn,<-g5] at gz;have hd:=I.step h9;have he:=I.h3;have hm6:=I.mks.lt m sS;have hg:SIn2 nx n a M0 ms (L.drop (h+1)) h x 0:=D.pop (λi=>by rw [gf];simp [or_comm]) (by rw [gf];simp);have hl2:=g9 x;refine zao (nx x).length (λq us w'=>∃ (tv:Value) (lo hi:Nat) (L:List Nat) (ms:List Bool),us=[tv,.int .i64 (q:Int)]/\q<=(nx x).length/\h<L.length/\WI w1 w' m n lo hi tv L ms/\SIn2 nx n a M0 ms (L.drop (h+1)) h x q/\OwnI w5.heap.size w6.heap.size w' gg (zaT (nx x))/\(hi<=w5.heap.size\/w6.heap.size<=lo)/\w6.heap.size<=w'.heap.size) 0 (z0 _) ⟨tv,lo,hi,L,ms,rfl,z0 _,hh,hd,hg,gz.toI,.inl he,qas _⟩ ?_;rintro q gC u8 w7 hk ⟨gD,gE,gF,L7,M,hl,hql,hr,V,X,O,hs,ht⟩;obtain ⟨gh,gi⟩:=zcB hl;rw [gh,gi];refine zae u33 O.is ?_;rw [zaf];refine zag<|br (λhv=>?_) (λhw=>?_)
 case refine_2=>refine zau<|⟨mk-1,oo,h+1,oo,gD,gE,gF,L7,M,rfl,oo,V,X.done oo⟩
 have hq:q<(nx x).length:=oo
 have gj:∀ {w:World} {K:Value->Prop} (ho:OwnI w5.heap.size w6.heap.size w gg (zaT (nx x))) (k:K (.int .i64 (((nx x)[q]:Nat):Int))),RD tp (Instr.indexAt 33 gg (.int .i64 (q:Int))) w λhz=>RD tp (Instr.loadAt 3 hz) w K:=λho k=>by
   refine zad u33 ty3 (i:=q) ho.is (by rw [zaf];exact hq) λb1 o1 U=>?_;rw [za3] at U;exact zac ty3 U (xrf _) λ_=>k
 have hy:=gK h6 (qab hq);refine gj O ?_;have C:=X.len;refine zad u90 ty4 V.mks.is (by rw [C];exact hy.1) λb2 o2 hB=>zaG ty4 hB (xrf _)<|zaV ?_;have g2:=za5 (ms:=M) (i:=(nx x)[q]) (by rw [C];exact hy.1);refine zbz (λhf=>?_) (λhf=>?_)
 . have gl:¬mkd M (nx x)[q]:=by rw [g2];simpa using hf
   refine gj O<|zb8 (α:=Bool) rfl u90 ty4 hy.1<|zbr (α:=Bool) rfl ty4 V.mks C hy.1 zbU λw8 gG hC=>?_;have gH:=V.mark gG hC;have g3:ChgI m (m+1) w7 w8:=gG.toI λb hb=>by simp only [qaa,qac,or_false] at hb;omega
   have gI:=O.chg g3 oo;refine gj gI ?_;have hD:=X.push hq hy.1 gl;generalize (nx x)[q]=y at *
   have hLb:L7.length<=2+n:=by
     have h1:=X.cnt;have h2:=zhn M;rw [qa0] at h1;omega
   refine zdA (x:=(y:Int)) u33 ty3 z3 zc3 qd gH.row (zc2 0 0 (by unfold I64;omega)) (by rw [zal,zaf];omega) (by rw [zaf];omega) λhF w9 hG hH gp hI hJ=>?_;have hK:=gH.push gp hI hJ;have hL:=g3.size;have hM:=O.is;refine zau<|⟨gC-1,oo,q+1,oo,hF,hG,hH,L7++[y],_,rfl,oo,by simp;omega,hK,?_,gI.chg gp oo,oo,by have:=gp.size;omega⟩;rw [qbV oo];exact hD
 have gl:mkd M (nx x)[q]:=by rw [g2];simpa using hf
 refine zau<|⟨gC-1,oo,q+1,oo,gD,gE,gF,L7,M,rfl,oo,hr,V,X.skip hq gl,O,hs,ht⟩
noncomputable def m6 (p:Nat->Prop):Nat:=zcR p 6
def zgj {p:Nat->Prop}:(m6 p).testBit l=true↔l<6/\p l:=za7
def zmm {p:Nat->Prop}:m6 p<64:=zj6 (n:=6)
def zgS (h:m<64) (hb:m.testBit l=true):l<6:=qbb λhc=>by
 have:=qbj (qal (show m<2^6 from h) (qat oo (by omega:6<=l)));rw [this] at hb;cases hb
def zx1 {p:Nat->Prop} (h:m<64) (hb:∀ l,l<6->(m.testBit l=true↔p l)):m=m6 p:=
 zem λl=>⟨λe=>⟨zgS h e,(hb l (zgS h e)).1 e⟩,λe=>(hb l e.1).2 e.2⟩
def zt6 {p q:Nat->Prop} (h:∀ l,l<6->(p l↔q l)):m6 p=m6 q:=zbC h
def zgk (h:¬m.testBit l=false):m.testBit l=true:=by simpa using h
def zay (l:List Nat) (i:Nat):Nat:=l.getD i 0
def zbl {l:List Nat} (h:i<l.length):l[i]=zay l i:=by unfold zay;rw [List.getD_eq_getElem?_getD,List.getElem?_eq_getElem h];rfl
def zb9 {l:List Nat} {i j v:Nat} (hi:i<l.length):zay (l.set i v) j=if i=j then v else zay l j:=by
 unfold zay;rw [List.getD_eq_getElem?_getD,List.getD_eq_getElem?_getD,List.getElem?_set];by_cases h:i=j
 . subst h;simp [hi]
 simp [h]
theorem zj8:∀ {l:List Nat} {i v:Nat},i<l.length->(l.set i v).sum+zay l i=l.sum+v
 | x :: l,0,v,_=>by simp [zay];omega
 | x :: l,i+1,v,h=>by
   have:=zj8 (l:=l) (i:=i) (v:=v) (by simpa using h);simp only [zay,List.set_cons_succ,qcT,List.getD_cons_succ] at this ⊢;omega
def zgT (l:List Nat) (i v:Nat):zaT (l.set i v)=(zaT l).set i (v:Int):=by simp [zaT,qcg]
theorem sum_le {l:List Nat} (h:∀ x∈l,x<=b):l.sum<=l.length*b:=by
 induction l with
 | nil=>simp
 | cons x l ih=>
   have h1:=ih λy hy=>h y (by simp [hy]);have h2:=h x sS;rw [qcT,qaj,qbi];omega
def zpg {l:List Nat} (h:i<l.length):zay l i∈l:=by rw [<-zbl h];exact qab h
def zaR {l:List Nat} (h:i<(zaT l).length):(zaT l)[i]=(zay l i:Int):=by rw [za3,zbl]
def eN (c:DCode) (p:Nat):Nat:=(en c p).toNat
def zN (c:DCode) (p:Nat):Nat:=(zep c p-1).toNat
def agN (c:DCode) (i:Nat):Nat:=(zam c i).arg.toNat
def zfU (hc:CodeR c) {p:Nat} (hp:p<c.entry.length):en c p=(eN c p:Int)/\eN c p<c.ins.length/\zas c (eN c p)=p:=by
 have h:=zpe hc hp;unfold eN;rw [qaz h.1];exact ⟨rfl,oo,h.2.2⟩
def zng (hc:CodeR c) {p:Nat} (hp:p<c.entry.length):zep c p=(zN c p:Int)+1/\eN c p<=zN c p/\zN c p<c.ins.length:=by
 have h1:=hc.f.lt p hp;have h2:=hc.f.nonneg hp;have h4:=hc.f.lt p hp;have h5:zep c p<=c.ins.length:=h4.2;unfold zN eN;omega
def zbV (hc:CodeR c) {p i:Nat} (hp:p<c.entry.length) (h:zaN c p i):i<c.ins.length/\zas c i=p:=by
 have he:=zfU hc hp;rcases h with rfl | h
 . exact ⟨he.2.1,he.2.2⟩
 refine h.keeps (p:=λi=>i<c.ins.length/\zas c i=p) ⟨he.2.1,he.2.2⟩ λi j hi hj=>?_;have:=zcX hc hi.1 hj;exact ⟨this.1,this.2.trans hi.2⟩
def zx2 (h:zaN c p i) (hj:j∈zaA c i):zaN c p j:=by
 rcases h with rfl | h
 . exact .inr (.one hj)
 exact .inr (.more h hj)
def zsx (hc:CodeR c) {p i:Nat} (hi:i<c.ins.length) (hp:p<c.entry.length) (h:zas c i=p):eN c p<=i/\i<=zN c p:=by
 obtain ⟨q,hq,h1,h2,h3⟩:=hc.f.find hc.1.procs8.2 (a:=(i:Int)) oo oo;have:q=p:=oo
 subst this;have h4:=zng hc hp;have h5:=zfU hc hp;omega
def zph (hc:CodeR c) {p i:Nat} (hp:p<c.entry.length) (h1:eN c p<=i) (h2:i<=zN c p):zas c i=p:=by
 have h4:=zng hc hp;have h5:=zfU hc hp;exact hc.f.proc hp oo oo
def zby (hc:CodeR c) {i:Nat} (hi:i<c.ins.length) (ho:(zam c i).op=4\/(zam c i).op=5):(zam c i).arg=(agN c i:Int)/\agN c i<c.procs.length:=by
 have g0:=(zhk hc hi).2.1;unfold zcl at g0;rw [if_neg oo,if_pos oo] at g0;unfold agN;omega
def zcY (hc:CodeR c) {i:Nat} (hi:i<c.ins.length) (ho:(zam c i).op=6\/(zam c i).op=7):(zam c i).arg=(agN c i:Int)/\agN c i<c.locks.length/\agN c i<6:=by
 have h:=ztW hc hi ho;have h6:=hc.1.locks6;unfold agN;omega
def zEv (c:DCode) (K G:Nat->Nat->Prop) (i l:Nat):Prop:=((zam c i).op=7/\agN c i=l)\/((zam c i).op=4/\¬K (agN c i) l/\¬G (agN c i) l)
def zx3 (c:DCode) (G:Nat->Nat->Prop) (i l:Nat):Prop:=¬((zam c i).op=6/\agN c i=l)/\¬((zam c i).op=4/\G (agN c i) l)
inductive LostP (c:DCode) (K G:Nat->Nat->Prop) (p:Nat) (h:Nat->Prop):Nat->Nat->Prop
 | ent {l:Nat} (h0:¬h l):LostP c K G p h (eN c p) l
 | gen {i j l:Nat} (h0:zaN c p i) (hj:j∈zaA c i) (h1:zEv c K G i l):LostP c K G p h j l
 | pass {i j l:Nat} (h0:zaN c p i) (hj:j∈zaA c i) (h1:LostP c K G p h i l) (h2:zx3 c G i l):LostP c K G p h j l
theorem LostP.mono {K K' G G':Nat->Nat->Prop} {h h':Nat->Prop} (hK:∀ q l,K' q l->K q l) (hG:∀ q l,G' q l->G q l) (hh:∀ l,h' l->h l) {i l:Nat} (hl:LostP c K G p h i l):LostP c K' G' p h' i l:=by
 induction hl with
 | ent h0=>exact .ent λe=>h0 (hh _ e)
 | gen h0 hj h1=>exact .gen h0 hj (h1.imp id λ⟨a,b,d⟩=>⟨a,λe=>b (hK _ _ e),λe=>d (hG _ _ e)⟩)
 | pass h0 hj _ h2 ih=>exact .pass h0 hj ih ⟨h2.1,λ⟨a,b⟩=>h2.2 ⟨a,hG _ _ b⟩⟩
abbrev Tab:=List (Nat×Nat)
def tbl (T:Tab) (q:Nat):Nat×Nat:=T.getD q (0,0)
def tK (T:Tab) (q l:Nat):Prop:=(tbl T q).1.testBit l=true
def tG (T:Tab) (q l:Nat):Prop:=(tbl T q).2.testBit l=true
def zj9 {T:Tab} (h:q<T.length):T[q]=tbl T q:=by unfold tbl;rw [List.getD_eq_getElem?_getD,List.getElem?_eq_getElem h];rfl
def zC0 {T:Tab} {v:Nat×Nat} (h:q<T.length):tbl (T.set q v) r=if q=r then v else tbl T r:=by
 unfold tbl;rw [List.getD_eq_getElem?_getD,List.getD_eq_getElem?_getD,List.getElem?_set];by_cases e:q=r
 . subst e;simp [h]
 simp [e]
def zx4 (c:DCode) (T:Tab):Prop:=T.length=c.procs.length/\∀ q,(tbl T q).1<64/\(tbl T q).2<64
def aft (c:DCode) (T:Tab) (i m:Nat):Nat:=
 if (zam c i).op=6 then m ||| 2^agN c i else if (zam c i).op=7 then zlg m (2^agN c i) else if (zam c i).op=4 then (m &&& (tbl T (agN c i)).1) ||| (tbl T (agN c i)).2 else m
def zBV {T:Tab} (hc:CodeR c) (hT:zx4 c T) {i m:Nat} (hi:i<c.ins.length) (hm:m<64):aft c T i m<64:=by
 unfold aft;split
 . rename_i h
   exact zqP hm (zcY hc hi (.inl h)).2.2
 split
 . exact qaF (ziv _ _) hm
 split
 . exact qaT (n:=6) (qaF qaX hm) (hT.2 _).2
 exact hm
def zmn {T:Tab}:(aft c T i m).testBit l=false↔zEv c (tK T) (tG T) i l\/(zx3 c (tG T) i l/\m.testBit l=false):=by
 unfold aft zEv zx3 tK tG;split
 . rename_i h
   rw [qaH,qaG];have e6:((zam c i).op=6)=True:=eq_true h;have e4:((zam c i).op=4)=False:=eq_false oo;have e7:((zam c i).op=7)=False:=eq_false oo;simp only [e6,e4,e7,true_and,false_and,false_or,or_false,not_false_eq_true,and_true,Bool.or_eq_false_iff,decide_eq_false_iff_not];exact ⟨λ⟨a,b⟩=>⟨b,a⟩,λ⟨a,b⟩=>⟨b,a⟩⟩
 rename_i h6
 have e6:((zam c i).op=6)=False:=eq_false h6;split
 . rename_i h
   have e7:((zam c i).op=7)=True:=eq_true h;have e4:((zam c i).op=4)=False:=eq_false oo;rw [zdg,qaG];simp only [e6,e4,e7,true_and,false_and,false_or,or_false,not_false_eq_true,and_true,qbE,qb2,decide_eq_true_eq];exact ⟨λh=>h.elim .inr .inl,λh=>h.elim .inr .inl⟩
 rename_i h7
 have e7:((zam c i).op=7)=False:=eq_false h7;split
 . rename_i h
   have e4:((zam c i).op=4)=True:=eq_true h;rw [qaH,qaP];simp only [e6,e4,e7,true_and,false_and,false_or,not_false_eq_true];cases (tbl T (agN c i)).1.testBit l<;>cases (tbl T (agN c i)).2.testBit l<;>cases m.testBit l<;>simp
 rename_i h4
 simp [h6,h7,h4]
noncomputable def zcI (c:DCode) (T:Tab) (p h:Nat):List Nat:=(List.range c.ins.length).map λi=>m6 λl=>¬LostP c (tK T) (tG T) p (λl=>h.testBit l=true) i l
def zeB (c:DCode) (T:Tab) (p h:Nat):(zcI c T p h).length=c.ins.length:=by simp [zcI]
def zji {T:Tab} (hi:i<c.ins.length):zay (zcI c T p h) i=m6 λl=>¬LostP c (tK T) (tG T) p (λl=>h.testBit l=true) i l:=by
 rw [<-zbl (by rw [zeB];exact hi)];simp [zcI]
def zjj {T:Tab}:∀ x∈zcI c T p h,x<64:=λx hx=>by
 unfold zcI at hx;obtain ⟨i,_,rfl⟩:=qaZ.1 hx;exact zmm
structure FL (c:DCode) (T:Tab) (p h:Nat) (out:List Nat):Prop where
 len:out.length=c.ins.length
 lt:∀ x∈out,x<64
 snd:∀ i l,i<c.ins.length->l<6->(zay out i).testBit l=false->LostP c (tK T) (tG T) p (λl=>h.testBit l=true) i l
 ent:∀ l,l<6->h.testBit l=false->(zay out (eN c p)).testBit l=false
def FL.lt0 {T:Tab} (h:FL c T p h out) (i:Nat):zay out i<64:=by
 rcases qaA i out.length with hi | hi
 . exact h.lt _ (zpg hi)
 unfold zay;rw [List.getD_eq_getElem?_getD,List.getElem?_eq_none hi];simp
def zjk (h:l<6):(63:Nat).testBit l=true:=by
 have:l=0\/l=1\/l=2\/l=3\/l=4\/l=5:=oo
 rcases this with rfl | rfl | rfl | rfl | rfl | rfl<;>rfl
def FL.start {T:Tab} (hc:CodeR c) (hp:p<c.entry.length) (hh:h<64):FL c T p h ((List.replicate c.ins.length 63).set (eN c p) h):=by
 have he:=(zfU hc hp).2.1;have hr:(List.replicate c.ins.length 63).length=c.ins.length:=by simp
 have hg:∀ i,i<c.ins.length->zay (List.replicate c.ins.length 63) i=63:=λi hi=>by rw [<-zbl (by rw [hr];exact hi)];simp
 refine ⟨sS,λx hx=>?_,λi l hi hl hb=>?_,λl hl hb=>?_⟩
 . rcases zdq hx with rfl | hx
   . exact hh
   rw [(qcD.1 hx).2];omega
 . rw [zb9 (by rw [hr];exact he)] at hb
   split at hb
   . rename_i e
     subst e;exact .ent (by rw [hb];simp)
   rw [hg i hi,zjk hl] at hb;cases hb
 rw [zb9 (by rw [hr];exact he),if_pos rfl];exact hb
def FL.upd {T:Tab} (hF:FL c T p h out) (hc:CodeR c) (hp:p<c.entry.length) (hT:zx4 c T) {i j:Nat} (hi:zaN c p i) (hj:j∈zaA c i) :
   FL c T p h (out.set j (zay out j &&& aft c T i (zay out i))):=by
 have g0:=(zbV hc hp hi).1;have g1:=(zcX hc g0 hj).1;refine ⟨by simp [hF.len],λx hx=>?_,λk l hk hl hb=>?_,λl hl hb=>?_⟩
 . rcases zdq hx with rfl | hx
   . exact qaF qaX (hF.lt0 j)
   exact hF.lt x hx
 . rw [zb9 (by rw [hF.len];exact g1)] at hb
   split at hb
   . rename_i e
     subst e;rw [qaP,qbE] at hb;rcases hb with hb | hb
     . exact hF.snd j l hk hl hb
     rcases zmn.1 hb with h1 | ⟨h1,h2⟩
     . exact .gen hi hj h1
     exact .pass hi hj (hF.snd i l g0 hl h2) h1
   exact hF.snd k l hk hl hb
 rw [zb9 (by rw [hF.len];exact g1)];split
 . rename_i e
   rw [qaP,e,hF.ent l hl hb];rfl
 exact hF.ent l hl hb
def zBW {a b:Nat} (h:a &&& b≠a):a &&& b<a:=by
 have:a &&& b<=a:=qaX;omega
def zEw (c:DCode) (T:Tab) (out:List Nat) (i:Nat):Prop:=∀ j∈zaA c i,zay out j &&& aft c T i (zay out i)=zay out j
def FL.fin {T:Tab} (hF:FL c T p h out) (hc:CodeR c) (hp:p<c.entry.length) (hs:∀ i,zaN c p i->zEw c T out i):out=zcI c T p h:=by
 refine qaO (by rw [hF.len,zeB]) λi h1 h2=>?_;rw [zbl h1,zbl h2,zji (by rw [<-hF.len];exact h1)];refine zx1 (hF.lt0 i) λl hl=>⟨λhb hn=>?_,λhn=>zgk λhb=>hn (hF.snd i l (by rw [<-hF.len];exact h1) hl hb)⟩
 have g0:∀ {i l:Nat},LostP c (tK T) (tG T) p (λl=>h.testBit l=true) i l->l<6->(zay out i).testBit l=false:=λ{i l} hn=>by
   induction hn with
   | ent h0=>exact λhl=>hF.ent _ hl (by simpa using h0)
   | gen h0 hj h1=>
     intro hl;rw [<-hs _ h0 _ hj,qaP,zmn.2 (.inl h1),qbl]
   | pass h0 hj _ h2 ih=>
     intro hl;rw [<-hs _ h0 _ hj,qaP,zmn.2 (.inr ⟨h2,ih hl⟩),qbl]
 rw [g0 hn hl] at hb;cases hb
end Go.Proofs.YtcnglfeoglgebaaGreat
