/-
  Parts of the proof, put together by program.
-/
import Derived.Test.YtcnglfeoglgebaaGreatPFnSerial3
set_option linter.unusedVariables false
set_option linter.unusedSimpArgs false
set_option linter.unusedSectionVars false
namespace Go.Proofs.YtcnglfeoglgebaaGreat
open Go Go.Sh Go.Proofs
open Rep (rep)
theorem zgL {n:Int} (h:0≤n):n.tmod 1000=n%1000:=Int.tmod_eq_emod_of_nonneg h
theorem zib {n:Int} (h:n<0):n.tmod 1000=-((-n)%1000):=by
 have h1:(-n).tmod 1000=(-n)%1000:=Int.tmod_eq_emod_of_nonneg (by omega)
 rw [Int.neg_tmod] at h1
 omega
theorem zqB (n:Int):-1000<n.tmod 1000∧n.tmod 1000<1000:=by
 rcases Int.lt_or_le n 0 with h | h
 · rw [zib h];omega
 rw [zgL h];omega
def F191 (a0:Value) (w:World) (R:VW):Prop:=
 rB .rem 3 T0 U0 a0 (iV 1000) w fun x4=>
 rA x4 (iV 1000) w fun x5=>
 rB .rem 3 T0 U0 x5 (iV 1000) w fun x6=>
 R x6 w
def cfg191:Cfg:=⟨extL,[],[],[],[],[],[]⟩
theorem F191_call {a0:Value} {w:World} {R:VW} (h:F191 a0 w R):cL 191 [a0] w R:=co (g:=cfg191) Tryz.func191 (by kernel_rfl) (by kernel_rfl) (by kernel_rfl) h
theorem ziJ {w:World} {n:Int}   (hn:I64 n) :
   CALL Tryz.prog 191 [.int .i64 n] w fun r w'=>Ext w w'∧(r=.int .i64 (n%1000)):=by
 refine F191_call ?_
 unfold F191
 have ht:=zqB n
 refine zip (by omega) ?_
 refine zc4 (by unfold I64;omega) ?_
 refine zip (by omega) ?_
 refine ⟨Ext.refl w,?_⟩
 congr 1
 rw [zgL (n:=n.tmod 1000+1000) (by omega)]
 rcases Int.lt_or_le n 0 with h | h
 · rw [zib h];omega
 rw [zgL h];omega
def F192 (a0:Value) (w:World) (R:VW):Prop:=
 BR a0
 (R (iV 1) w)
 (R (iV 0) w)
def cfg192:Cfg:=⟨extL,[],[],[],[],[],[]⟩
theorem F192_call {a0:Value} {w:World} {R:VW} (h:F192 a0 w R):cL 192 [a0] w R:=co (g:=cfg192) Tryz.func192 (by kernel_rfl) (by kernel_rfl) (by kernel_rfl) h
theorem zgM {w:World} {b:Bool}    :
   CALL Tryz.prog 192 [.bool b] w fun r w'=>Ext w w'∧(r=.int .i64 (if b=true then 1 else 0)):=by
 refine F192_call ?_
 unfold F192
 refine zb4 (fun c1=>?_) (fun c1=>?_)
 · refine ⟨Ext.refl w,?_⟩
   rw [if_pos c1]
 refine ⟨Ext.refl w,?_⟩
 rw [if_neg (by simp [c1])]
def F249 (a0:Value) (w:World) (R:VW):Prop:=
 BR a0
 (R (iV 1) w)
 (R (iV 0) w)
def cfg249:Cfg:=⟨extL,[],[],[],[],[],[]⟩
theorem F249_call {a0:Value} {w:World} {R:VW} (h:F249 a0 w R):cL 249 [a0] w R:=co (g:=cfg249) Tryz.func249 (by kernel_rfl) (by kernel_rfl) (by kernel_rfl) h
theorem zfg {w:World} {b:Bool}    :
   CALL Tryz.prog 249 [.bool b] w fun r w'=>Ext w w'∧(r=.int .i64 (if b=true then 1 else 0)):=by
 refine F249_call ?_
 unfold F249
 refine zb4 (fun c1=>?_) (fun c1=>?_)
 · refine ⟨Ext.refl w,?_⟩
   rw [if_pos c1]
 refine ⟨Ext.refl w,?_⟩
 rw [if_neg (by simp [c1])]
def F248 (a0:Value) (w:World) (R:VW):Prop:=
 rB .rem 3 T0 U0 a0 (iV 1000) w fun x4=>
 rB .lss 3 T0 U0 x4 (iV 0) w fun x6=>
 BR x6
 (rA x4 (iV 1000) w fun x8=>
 R x8 w)
 (R x4 w)
def cfg248:Cfg:=⟨extL,[],[],[],[],[],[]⟩
theorem F248_call {a0:Value} {w:World} {R:VW} (h:F248 a0 w R):cL 248 [a0] w R:=co (g:=cfg248) Tryz.func248 (by kernel_rfl) (by kernel_rfl) (by kernel_rfl) h
theorem zfh {w:World} {n:Int}   (hn:I64 n) :
   CALL Tryz.prog 248 [.int .i64 n] w fun r w'=>Ext w w'∧(r=.int .i64 (n%1000)):=by
 refine F248_call ?_
 unfold F248
 have ht:=zqB n
 refine zip (by omega) ?_
 refine zai ?_
 refine br (fun c1=>?_) (fun c1=>?_)
 · refine zc4 (by unfold I64;omega) ?_
   refine ⟨Ext.refl w,?_⟩
   congr 1
   rcases Int.lt_or_le n 0 with h | h
   · rw [zib h] at c1 ⊢;try omega
   rw [zgL h] at c1 ⊢;try omega
 refine ⟨Ext.refl w,?_⟩
 congr 1
 rcases Int.lt_or_le n 0 with h | h
 · rw [zib h] at c1 ⊢;try omega
 rw [zgL h] at c1 ⊢;try omega
def zay:DTerm:=.mk 0 0 (ByteArray.mk #[]) []
def workT (names:List ByteArray) (vals:List Int):Nat→DTerm→Int
 | n,t=>if t.kind=1 then t.num%1000 else if t.kind=2 then (if 0≤plc t.name names∧plc t.name names<vals.length then vals.getD (plc t.name names).toNat 0%1000 else 0) else
   match n with
   | 0=>0
   | m+1=>
     if t.kind=8 then (if workT names vals m (t.kids.getD 0 zay)=0 then 1 else 0)
     else if t.kind=3 then (workT names vals m (t.kids.getD 0 zay)+workT names vals m (t.kids.getD 1 zay))%1000
     else if t.kind=4 then (workT names vals m (t.kids.getD 0 zay)-workT names vals m (t.kids.getD 1 zay))%1000
     else if t.kind=5 then (workT names vals m (t.kids.getD 0 zay)*workT names vals m (t.kids.getD 1 zay))%1000
     else if t.kind=6 then (if workT names vals m (t.kids.getD 0 zay)<workT names vals m (t.kids.getD 1 zay) then 1 else 0)
     else if t.kind=7 then (if workT names vals m (t.kids.getD 0 zay)=workT names vals m (t.kids.getD 1 zay) then 1 else 0)
     else (if workT names vals m (t.kids.getD 0 zay)≠0∧workT names vals m (t.kids.getD 1 zay)≠0 then 1 else 0)
theorem zaJ (names:List ByteArray) (vals:List Int) (n:Nat) (t:DTerm):workT names vals n t=(if t.kind=1 then t.num%1000 else if t.kind=2 then (if 0≤plc t.name names∧plc t.name names<vals.length then vals.getD (plc t.name names).toNat 0%1000 else 0) else
   match n with
   | 0=>0
   | m+1=>
     if t.kind=8 then (if workT names vals m (t.kids.getD 0 zay)=0 then 1 else 0)
     else if t.kind=3 then (workT names vals m (t.kids.getD 0 zay)+workT names vals m (t.kids.getD 1 zay))%1000
     else if t.kind=4 then (workT names vals m (t.kids.getD 0 zay)-workT names vals m (t.kids.getD 1 zay))%1000
     else if t.kind=5 then (workT names vals m (t.kids.getD 0 zay)*workT names vals m (t.kids.getD 1 zay))%1000
     else if t.kind=6 then (if workT names vals m (t.kids.getD 0 zay)<workT names vals m (t.kids.getD 1 zay) then 1 else 0)
     else if t.kind=7 then (if workT names vals m (t.kids.getD 0 zay)=workT names vals m (t.kids.getD 1 zay) then 1 else 0)
     else (if workT names vals m (t.kids.getD 0 zay)≠0∧workT names vals m (t.kids.getD 1 zay)≠0 then 1 else 0)):=workT.eq_def names vals n t
theorem zcJ (names:List ByteArray) (vals:List Int) (n:Nat) (t:DTerm):0≤workT names vals n t∧workT names vals n t≤999:=by
 rw [zaJ]
 cases n<;>simp only<;>(repeat' split)<;>omega
theorem zqC {n:Nat} {t:DTerm} (h:zaL n t=true) (h1:¬t.kind=1) (h2:¬t.kind=2):∃ m,n=m+1∧0<t.kids.length∧zaL m (t.kids.getD 0 zay)=true∧(¬t.kind=8→1<t.kids.length∧zaL m (t.kids.getD 1 zay)=true):=by
 rw [zba h1 h2] at h
 simp only [Bool.and_eq_true,decide_eq_true_eq] at h
 obtain ⟨⟨_,h3⟩,h4⟩:=h
 cases n with
 | zero=>simp at h4
 | succ m=>
   have hall:∀ k∈t.kids,zaL m k=true:=fun k hk=>List.all_eq_true.1 h4 k hk
   have hg:∀ i,i<t.kids.length→zaL m (t.kids.getD i zay)=true:=fun i hi=>by
     rw [List.getD_eq_getElem?_getD,List.getElem?_eq_getElem hi];exact hall _ (List.getElem_mem hi)
   have hpos:0<t.kids.length:=by split at h3<;>omega
   exact ⟨m,rfl,hpos,hg 0 hpos,fun h8=>by rw [if_neg h8] at h3;exact ⟨by omega,hg 1 (by omega)⟩⟩
def zsq (f:Nat) (n:Nat):Prop:=∀ {w W W1 W2:World} {v v1 v2:Value} {t:DTerm} {names:List ByteArray} {vals:List Int},Is W v t→Ext W w→Is W1 v1 names→Ext W1 w→Is W2 v2 vals→Ext W2 w→zaL n t=true →
 CALL Tryz.prog f [v,v1,v2] w fun r w'=>Ext w w'∧r=.int .i64 (workT names vals n t)
def F122 (a0 a1 a2:Value) (w:World) (R:VW):Prop:=
 oP (Instr.box 53 a0) w fun x3 w=>
 rF 53 x3 0 w fun x10=>
 rL 3 x10 w fun x11=>
 rB .eql 3 T0 U0 x11 (iV 1) w fun x13=>
 BR x13
 (rF 53 x3 1 w fun x14=>
 rL 3 x14 w fun x15=>
 cL 191 [x15] w fun x16 w=>
 R x16 w)
 (rB .eql 3 T0 U0 x11 (iV 2) w fun x18=>
 BR x18
 (rF 53 x3 2 w fun x20=>
 rL 9 x20 w fun x21=>
 cL 121 [a1,x21] w fun x22 w=>
 rB .lss 3 T0 U0 x22 (iV 0) w fun x24=>
 BR x24
 (R (iV 0) w)
 (rN 33 3 a2 w fun x28=>
 rB .geq 3 T0 T0 x22 x28 w fun x29=>
 BR x29
 (R (iV 0) w)
 (rX 33 a2 x22 w fun x33=>
 rL 3 x33 w fun x34=>
 cL 191 [x34] w fun x35 w=>
 R x35 w)))
 (rF 53 x3 3 w fun x36=>
 rL 51 x36 w fun x37=>
 rX 51 x37 (iV 0) w fun x38=>
 rL 53 x38 w fun x39=>
 cL 122 [x39,a1,a2] w fun x42 w=>
 rF 53 x3 0 w fun x43=>
 rL 3 x43 w fun x44=>
 rB .eql 3 T0 U0 x44 (iV 8) w fun x45=>
 BR x45
 (rB .eql 3 T0 U0 x42 (iV 0) w fun x47=>
 cL 192 [x47] w fun x48 w=>
 R x48 w)
 (rF 53 x3 3 w fun x49=>
 rL 51 x49 w fun x50=>
 rX 51 x50 (iV 1) w fun x51=>
 rL 53 x51 w fun x52=>
 cL 122 [x52,a1,a2] w fun x55 w=>
 rF 53 x3 0 w fun x56=>
 rL 3 x56 w fun x57=>
 rB .eql 3 T0 U0 x57 (iV 3) w fun x59=>
 BR x59
 (rB .add 3 T0 T0 x42 x55 w fun x62=>
 cL 191 [x62] w fun x63 w=>
 R x63 w)
 (rB .eql 3 T0 U0 x57 (iV 4) w fun x65=>
 BR x65
 (rB .sub 3 T0 T0 x42 x55 w fun x68=>
 cL 191 [x68] w fun x69 w=>
 R x69 w)
 (rB .eql 3 T0 U0 x57 (iV 5) w fun x71=>
 BR x71
 (rB .mul 3 T0 T0 x42 x55 w fun x74=>
 cL 191 [x74] w fun x75 w=>
 R x75 w)
 (rB .eql 3 T0 U0 x57 (iV 6) w fun x77=>
 BR x77
 (rC x42 x55 w fun x80=>
 cL 192 [x80] w fun x81 w=>
 R x81 w)
 (rB .eql 3 T0 U0 x57 (iV 7) w fun x83=>
 BR x83
 (rB .eql 3 T0 T0 x42 x55 w fun x86=>
 cL 192 [x86] w fun x87 w=>
 R x87 w)
 (rB .neq 3 T0 U0 x42 (iV 0) w fun x89=>
 BR x89
 (rB .neq 3 T0 U0 x55 (iV 0) w fun x92=>
 cL 192 [x92] w fun x94 w=>
 R x94 w)
 (cL 192 [(Value.bool false)] w fun x94 w=>
 R x94 w)))))))))
def cfg122:Cfg:=⟨extL,[],[],[],[],[],[]⟩
theorem F122_call {a0 a1 a2:Value} {w:World} {R:VW} (h:F122 a0 a1 a2 w R):cL 122 [a0,a1,a2] w R:=co (g:=cfg122) Tryz.func122 (by kernel_rfl) (by kernel_rfl) (by kernel_rfl) h
theorem zhM {w:World} {v0:Value} {W0:World} {t:DTerm} {v1:Value} {W1:World} {names:(List ByteArray)} {v2:Value} {W2:World} {vals:(List Int)} {n:Nat} (h0:Is W0 v0 t) (e0:Ext W0 w) (h1:Is W1 v1 names) (e1:Ext W1 w) (h2:Is W2 v2 vals) (e2:Ext W2 w) (ih:∀ m,n=m+1→zsq 122 m) (hok:zaL n t=true) :
   CALL Tryz.prog 122 [v0,v1,v2] w fun r w'=>Ext w w'∧(r=.int .i64 (workT names vals n t)):=by
 refine F122_call ?_
 unfold F122
 refine zaz zcd rfl h0 e0 fun w1_ hx1_ hA3 hV3=>?_
 refine zaa zdE ?_
 refine zac ty3 (zbf hA3) (Ext.refl w1_) fun hI11=>?_
 refine zaf ?_
 refine br (fun c1=>?_) (fun c1=>?_)
 · refine zaa zew ?_
   refine zac ty3 (zbv hA3) (Ext.refl w1_) fun hI15=>?_
   refine (ziJ (by first | assumption | (unfold I64 at *;omega))).mono ?_
   rintro _ w2_ ⟨hx2_,rfl⟩
   refine ⟨(hx1_.trans hx2_),?_⟩
   rw [zaJ names vals n t,if_pos c1]
 refine zaf ?_
 refine br (fun c2=>?_) (fun c2=>?_)
 · refine zaa zdX ?_
   refine zas ty9 (zbj hA3) (Ext.refl w1_) fun hS21=>?_
   refine (zd2 h1 (e1.trans hx1_)).mono ?_
   rintro _ w3_ ⟨hx3_,rfl⟩
   refine zai ?_
   refine br (fun c3=>?_) (fun c3=>?_)
   · refine ⟨(hx1_.trans hx3_),?_⟩
     rw [zaJ,if_neg c1,if_pos c2,if_neg (by omega)]
   have hln28:=zah h2
   refine zae u33 h2 ?_
   refine zb5 ?_
   refine br (fun c4=>?_) (fun c4=>?_)
   · refine ⟨(hx1_.trans hx3_),?_⟩
     rw [zaJ,if_neg c1,if_pos c2,if_neg (by omega)]
   refine zav u33 ty3 h2 (by omega) (by omega) fun b33 o33 h33=>?_
   refine zac ty3 h33 (e2.trans (hx1_.trans hx3_)) fun hI34=>?_
   refine (ziJ (by first | assumption | (unfold I64 at *;omega))).mono ?_
   rintro _ w4_ ⟨hx4_,rfl⟩
   refine ⟨(hx1_.trans (hx3_.trans hx4_)),?_⟩
   rw [zaJ,if_neg c1,if_pos c2,if_pos (by omega)]
   congr 1
   rw [List.getD_eq_getElem?_getD,List.getElem?_eq_getElem (by omega)];rfl
 refine zaa zbV ?_
 refine zab zhd (zaE hA3) (Ext.refl w1_) fun v37 h37=>?_
 obtain ⟨m,hn1,hk0,hok0,hk1⟩:=zqC hok c1 c2
 have hw0:=zcJ names vals m (t.kids.getD 0 zay)
 have hw1:=zcJ names vals m (t.kids.getD 1 zay)
 refine zav u51 zcd h37 (by omega) (by omega) fun b38 o38 h38=>?_
 have hgd:t.kids[(0:Int).toNat]'(by simpa using hk0)=t.kids.getD 0 zay:=by rw [List.getD_eq_getElem?_getD,List.getElem?_eq_getElem hk0];rfl
 rw [hgd] at h38
 refine zab zcd h38 (Ext.refl w1_) fun v39 h39=>?_
 refine (ih m hn1 h39 (Ext.refl w1_) h1 (e1.trans hx1_) h2 (e2.trans hx1_) (by assumption)).mono ?_
 rintro _ w5_ ⟨hx5_,rfl⟩
 refine zaa zdE ?_
 refine zac ty3 (zbf hA3) hx5_ fun hI44=>?_
 refine zaf ?_
 refine br (fun c5=>?_) (fun c5=>?_)
 · refine zaf ?_
   refine (zgM ).mono ?_
   rintro _ w6_ ⟨hx6_,rfl⟩
   refine ⟨(hx1_.trans (hx5_.trans hx6_)),?_⟩
   rw [zaJ names vals n t,if_neg c1,if_neg c2,hn1]
   simp only [c5,if_true,decide_eq_true_eq]
 refine zaa zbV ?_
 refine zab zhd (zaE hA3) hx5_ fun v50 h50=>?_
 obtain ⟨hk2,hok1⟩:=hk1 c5
 refine zav u51 zcd h50 (by omega) (by omega) fun b51 o51 h51=>?_
 have hgd1:t.kids[(1:Int).toNat]'(by simpa using hk2)=t.kids.getD 1 zay:=by rw [List.getD_eq_getElem?_getD,List.getElem?_eq_getElem hk2];rfl
 rw [hgd1] at h51
 refine zab zcd h51 hx5_ fun v52 h52=>?_
 refine (ih m hn1 h52 hx5_ h1 (e1.trans (hx1_.trans hx5_)) h2 (e2.trans (hx1_.trans hx5_)) (by assumption)).mono ?_
 rintro _ w7_ ⟨hx7_,rfl⟩
 refine zaa zdE ?_
 refine zac ty3 (zbf hA3) (hx5_.trans hx7_) fun hI57=>?_
 refine zaf ?_
 refine br (fun c6=>?_) (fun c6=>?_)
 · refine zc4 (by unfold I64;omega) ?_
   refine (ziJ (by first | assumption | (unfold I64 at *;omega))).mono ?_
   rintro _ w8_ ⟨hx8_,rfl⟩
   refine ⟨(hx1_.trans (hx5_.trans (hx7_.trans hx8_))),?_⟩
   rw [zaJ names vals n t,if_neg c1,if_neg c2,hn1]
   dsimp only
   generalize workT names vals m (t.kids.getD 0 zay)=a at *
   generalize workT names vals m (t.kids.getD 1 zay)=b at *
   simp_all
 refine zaf ?_
 refine br (fun c7=>?_) (fun c7=>?_)
 · refine za3 (by unfold I64;omega) ?_
   refine (ziJ (by first | assumption | (unfold I64 at *;omega))).mono ?_
   rintro _ w9_ ⟨hx9_,rfl⟩
   refine ⟨(hx1_.trans (hx5_.trans (hx7_.trans hx9_))),?_⟩
   rw [zaJ names vals n t,if_neg c1,if_neg c2,hn1]
   dsimp only
   generalize workT names vals m (t.kids.getD 0 zay)=a at *
   generalize workT names vals m (t.kids.getD 1 zay)=b at *
   simp_all
 refine zaf ?_
 refine br (fun c8=>?_) (fun c8=>?_)
 · refine zjC (by unfold I64;have h1:=Int.mul_nonneg hw0.1 hw1.1;have h2:=Int.mul_le_mul hw0.2 hw1.2 hw1.1 (by omega:(0:Int)≤999);omega) ?_
   have hmul:=Int.mul_nonneg hw0.1 hw1.1;have hmul2:=Int.mul_le_mul hw0.2 hw1.2 hw1.1 (by omega:(0:Int)≤999)
   refine (ziJ (by first | assumption | (unfold I64 at *;omega))).mono ?_
   rintro _ w10_ ⟨hx10_,rfl⟩
   refine ⟨(hx1_.trans (hx5_.trans (hx7_.trans hx10_))),?_⟩
   rw [zaJ names vals n t,if_neg c1,if_neg c2,hn1]
   dsimp only
   generalize workT names vals m (t.kids.getD 0 zay)=a at *
   generalize workT names vals m (t.kids.getD 1 zay)=b at *
   simp_all
 refine zaf ?_
 refine br (fun c9=>?_) (fun c9=>?_)
 · refine zai ?_
   refine (zgM ).mono ?_
   rintro _ w11_ ⟨hx11_,rfl⟩
   refine ⟨(hx1_.trans (hx5_.trans (hx7_.trans hx11_))),?_⟩
   rw [zaJ names vals n t,if_neg c1,if_neg c2,hn1]
   dsimp only
   generalize workT names vals m (t.kids.getD 0 zay)=a at *
   generalize workT names vals m (t.kids.getD 1 zay)=b at *
   simp_all
 refine zaf ?_
 refine br (fun c10=>?_) (fun c10=>?_)
 · refine zaf ?_
   refine (zgM ).mono ?_
   rintro _ w12_ ⟨hx12_,rfl⟩
   refine ⟨(hx1_.trans (hx5_.trans (hx7_.trans hx12_))),?_⟩
   rw [zaJ names vals n t,if_neg c1,if_neg c2,hn1]
   dsimp only
   generalize workT names vals m (t.kids.getD 0 zay)=a at *
   generalize workT names vals m (t.kids.getD 1 zay)=b at *
   simp_all
 refine zaO ?_
 refine br (fun c11=>?_) (fun c11=>?_)
 · refine zaO ?_
   refine (zgM ).mono ?_
   rintro _ w13_ ⟨hx13_,rfl⟩
   refine ⟨(hx1_.trans (hx5_.trans (hx7_.trans hx13_))),?_⟩
   rw [zaJ names vals n t,if_neg c1,if_neg c2,hn1]
   dsimp only
   generalize workT names vals m (t.kids.getD 0 zay)=a at *
   generalize workT names vals m (t.kids.getD 1 zay)=b at *
   simp_all
 refine (zgM ).mono ?_
 rintro _ w14_ ⟨hx14_,rfl⟩
 refine ⟨(hx1_.trans (hx5_.trans (hx7_.trans hx14_))),?_⟩
 rw [zaJ names vals n t,if_neg c1,if_neg c2,hn1]
 dsimp only
 generalize workT names vals m (t.kids.getD 0 zay)=a at *
 generalize workT names vals m (t.kids.getD 1 zay)=b at *
 simp_all
theorem zjJ (n:Nat):zsq 122 n:=by
 induction n with
 | zero=>intro w W W1 W2 v v1 v2 t names vals h e h1 e1 h2 e2 hok;exact zhM h e h1 e1 h2 e2 (fun m hm=>by omega) hok
 | succ n ih=>intro w W W1 W2 v v1 v2 t names vals h e h1 e1 h2 e2 hok;exact zhM h e h1 e1 h2 e2 (fun m hm=>Nat.succ.inj hm▸ih) hok
def F201 (a0 a1 a2:Value) (w:World) (R:VW):Prop:=
 oP (Instr.box 53 a0) w fun x3 w=>
 rF 53 x3 0 w fun x10=>
 rL 3 x10 w fun x11=>
 rB .eql 3 T0 U0 x11 (iV 1) w fun x13=>
 BR x13
 (rF 53 x3 1 w fun x14=>
 rL 3 x14 w fun x15=>
 cL 248 [x15] w fun x16 w=>
 R x16 w)
 (rB .eql 3 T0 U0 x11 (iV 2) w fun x18=>
 BR x18
 (LOOPI [7] [(iV 0)] w fun u6 w next6=>
 rN 24 3 a1 w fun x21=>
 rC (u6 7) x21 w fun x22=>
 BR x22
 ((fun w=>rX 24 a1 (u6 7) w fun x27=>
 rL 9 x27 w fun x28=>
 rF 53 x3 2 w fun x29=>
 rL 9 x29 w fun x30=>
 rB .eql 9 T0 T0 x28 x30 w fun x31=>
 BR x31
 (rN 33 3 a2 w fun x34=>
 rC (u6 7) x34 w fun x35=>
 BR x35
 (rX 33 a2 (u6 7) w fun x38=>
 rL 3 x38 w fun x39=>
 cL 248 [x39] w fun x40 w=>
 R x40 w)
 (R (iV 0) w))
 (rA (u6 7) (iV 1) w fun x24=>
 next6 [x24] w)) (World.drew1 w))
 (R (iV 0) w))
 (rF 53 x3 3 w fun x41=>
 rL 51 x41 w fun x42=>
 rX 51 x42 (iV 0) w fun x43=>
 rL 53 x43 w fun x44=>
 cL 201 [x44,a1,a2] w fun x47 w=>
 rF 53 x3 0 w fun x48=>
 rL 3 x48 w fun x49=>
 rB .eql 3 T0 U0 x49 (iV 8) w fun x50=>
 BR x50
 (rB .eql 3 T0 U0 x47 (iV 0) w fun x52=>
 cL 249 [x52] w fun x53 w=>
 R x53 w)
 (rF 53 x3 3 w fun x54=>
 rL 51 x54 w fun x55=>
 rX 51 x55 (iV 1) w fun x56=>
 rL 53 x56 w fun x57=>
 cL 201 [x57,a1,a2] w fun x60 w=>
 rF 53 x3 0 w fun x61=>
 rL 3 x61 w fun x62=>
 rB .eql 3 T0 U0 x62 (iV 3) w fun x64=>
 BR x64
 (rB .add 3 T0 T0 x47 x60 w fun x67=>
 cL 248 [x67] w fun x68 w=>
 R x68 w)
 (rB .eql 3 T0 U0 x62 (iV 4) w fun x70=>
 BR x70
 (rB .sub 3 T0 T0 x47 x60 w fun x73=>
 cL 248 [x73] w fun x74 w=>
 R x74 w)
 (rB .eql 3 T0 U0 x62 (iV 5) w fun x76=>
 BR x76
 (rB .mul 3 T0 T0 x47 x60 w fun x79=>
 cL 248 [x79] w fun x80 w=>
 R x80 w)
 (rB .eql 3 T0 U0 x62 (iV 6) w fun x82=>
 BR x82
 (rC x47 x60 w fun x85=>
 cL 249 [x85] w fun x86 w=>
 R x86 w)
 (rB .eql 3 T0 U0 x62 (iV 7) w fun x88=>
 BR x88
 (rB .eql 3 T0 T0 x47 x60 w fun x91=>
 cL 249 [x91] w fun x92 w=>
 R x92 w)
 (rB .neq 3 T0 U0 x47 (iV 0) w fun x94=>
 BR x94
 (rB .neq 3 T0 U0 x60 (iV 0) w fun x97=>
 cL 249 [x97] w fun x99 w=>
 R x99 w)
 (cL 249 [(Value.bool false)] w fun x99 w=>
 R x99 w)))))))))
def cfg201:Cfg:=⟨extL,[],[(6,2199022731456,[7])],[(8,[0,1,2,3,4,5,6],0)],[],[],[]⟩
theorem F201_call {a0 a1 a2:Value} {w:World} {R:VW} (h:F201 a0 a1 a2 w R):cL 201 [a0,a1,a2] w R:=co (g:=cfg201) Tryz.func201 (by kernel_rfl) (by kernel_rfl) (by kernel_rfl) h
theorem zhN {w:World} {v0:Value} {W0:World} {t:DTerm} {v1:Value} {W1:World} {names:(List ByteArray)} {v2:Value} {W2:World} {vals:(List Int)} {n:Nat} (h0:Is W0 v0 t) (e0:Ext W0 w) (h1:Is W1 v1 names) (e1:Ext W1 w) (h2:Is W2 v2 vals) (e2:Ext W2 w) (ih:∀ m,n=m+1→zsq 201 m) (hok:zaL n t=true) :
   CALL Tryz.prog 201 [v0,v1,v2] w fun r w'=>Ext w w'∧(r=.int .i64 (workT names vals n t)):=by
 refine F201_call ?_
 unfold F201
 refine zaz zcd rfl h0 e0 fun w1_ hx1_ hA3 hV3=>?_
 refine zaa zdE ?_
 refine zac ty3 (zbf hA3) (Ext.refl w1_) fun hI11=>?_
 refine zaf ?_
 refine br (fun c1=>?_) (fun c1=>?_)
 · refine zaa zew ?_
   refine zac ty3 (zbv hA3) (Ext.refl w1_) fun hI15=>?_
   refine (zfh (by first | assumption | (unfold I64 at *;omega))).mono ?_
   rintro _ w2_ ⟨hx2_,rfl⟩
   refine ⟨(hx1_.trans hx2_),?_⟩
   rw [zaJ names vals n t,if_pos c1]
 refine zaf ?_
 refine br (fun c2=>?_) (fun c2=>?_)
 · refine zaB (names.length) (fun k us w'=>us=[.int .i64 (k:Int)]∧Ext w1_ w'∧(t.name∉names.take k)) (0) (by omega) ⟨by simp,Ext.refl w1_,by simp⟩ ?_
   rintro k m6 uu6 w3_ hk6 ⟨hu,hx3_,hinv⟩
   simp only [List.map_cons,List.map_nil,List.cons.injEq,and_true] at hu
   try rw [hu]
   try clear hu
   have hnl:=zah h1
   have hln21:=zah h1
   refine zae u24 h1 ?_
   refine zai ?_
   refine br (fun c3=>?_) (fun c3=>?_)
   · have hx4_:=zak w3_
     refine zad u24 ty9 h1 (by omega) fun b27 o27 h27=>?_
     refine zas ty9 h27 (e1.trans (hx1_.trans (hx3_.trans hx4_))) fun hS28=>?_
     refine zaa zdX ?_
     refine zas ty9 (zbj hA3) (hx3_.trans hx4_) fun hS30=>?_
     refine zaM ?_
     refine br (fun c4=>?_) (fun c4=>?_)
     · have hln34:=zah h2
       refine zae u33 h2 ?_
       refine zai ?_
       refine br (fun c5=>?_) (fun c5=>?_)
       · refine zad u33 ty3 h2 (by omega) fun b38 o38 h38=>?_
         refine zac ty3 h38 (e2.trans (hx1_.trans (hx3_.trans hx4_))) fun hI39=>?_
         refine (zfh (by first | assumption | (unfold I64 at *;omega))).mono ?_
         rintro _ w5_ ⟨hx5_,rfl⟩
         refine ⟨(hx1_.trans (hx3_.trans (hx4_.trans hx5_))),?_⟩
         have hp:=zlA (s:=t.name) (l:=names) (k:=k) (by omega) hinv c4
         rw [zaJ names vals n t,if_neg c1,if_pos c2,hp,if_pos (by omega)]
         congr 1
         rw [Int.toNat_natCast,List.getD_eq_getElem?_getD,List.getElem?_eq_getElem (by omega)];rfl
       refine ⟨(hx1_.trans (hx3_.trans hx4_)),?_⟩
       have hp:=zlA (s:=t.name) (l:=names) (k:=k) (by omega) hinv c4
       rw [zaJ names vals n t,if_neg c1,if_pos c2,hp,if_neg (by omega)]
     refine zag (by omega) ?_
     refine ⟨m6-1,by omega,k+1,by omega,by simp,(hx3_.trans hx4_),?_⟩
     exact zcD (by omega) hinv c4
   refine ⟨(hx1_.trans hx3_),?_⟩
   rw [List.take_of_length_le (by omega)] at hinv
   rw [zaJ names vals n t,if_neg c1,if_pos c2,zkr hinv,if_neg (by omega)]
 refine zaa zbV ?_
 refine zab zhd (zaE hA3) (Ext.refl w1_) fun v42 h42=>?_
 obtain ⟨m,hn1,hk0,hok0,hk1⟩:=zqC hok c1 c2
 have hw0:=zcJ names vals m (t.kids.getD 0 zay)
 have hw1:=zcJ names vals m (t.kids.getD 1 zay)
 refine zav u51 zcd h42 (by omega) (by omega) fun b43 o43 h43=>?_
 have hgd:t.kids[(0:Int).toNat]'(by simpa using hk0)=t.kids.getD 0 zay:=by rw [List.getD_eq_getElem?_getD,List.getElem?_eq_getElem hk0];rfl
 rw [hgd] at h43
 refine zab zcd h43 (Ext.refl w1_) fun v44 h44=>?_
 refine (ih m hn1 h44 (Ext.refl w1_) h1 (e1.trans hx1_) h2 (e2.trans hx1_) (by assumption)).mono ?_
 rintro _ w6_ ⟨hx6_,rfl⟩
 refine zaa zdE ?_
 refine zac ty3 (zbf hA3) hx6_ fun hI49=>?_
 refine zaf ?_
 refine br (fun c6=>?_) (fun c6=>?_)
 · refine zaf ?_
   refine (zfg ).mono ?_
   rintro _ w7_ ⟨hx7_,rfl⟩
   refine ⟨(hx1_.trans (hx6_.trans hx7_)),?_⟩
   rw [zaJ names vals n t,if_neg c1,if_neg c2,hn1]
   simp only [c6,if_true,decide_eq_true_eq]
 refine zaa zbV ?_
 refine zab zhd (zaE hA3) hx6_ fun v55 h55=>?_
 obtain ⟨hk2,hok1⟩:=hk1 c6
 refine zav u51 zcd h55 (by omega) (by omega) fun b56 o56 h56=>?_
 have hgd1:t.kids[(1:Int).toNat]'(by simpa using hk2)=t.kids.getD 1 zay:=by rw [List.getD_eq_getElem?_getD,List.getElem?_eq_getElem hk2];rfl
 rw [hgd1] at h56
 refine zab zcd h56 hx6_ fun v57 h57=>?_
 refine (ih m hn1 h57 hx6_ h1 (e1.trans (hx1_.trans hx6_)) h2 (e2.trans (hx1_.trans hx6_)) (by assumption)).mono ?_
 rintro _ w8_ ⟨hx8_,rfl⟩
 refine zaa zdE ?_
 refine zac ty3 (zbf hA3) (hx6_.trans hx8_) fun hI62=>?_
 refine zaf ?_
 refine br (fun c7=>?_) (fun c7=>?_)
 · refine zc4 (by unfold I64;omega) ?_
   refine (zfh (by first | assumption | (unfold I64 at *;omega))).mono ?_
   rintro _ w9_ ⟨hx9_,rfl⟩
   refine ⟨(hx1_.trans (hx6_.trans (hx8_.trans hx9_))),?_⟩
   rw [zaJ names vals n t,if_neg c1,if_neg c2,hn1]
   dsimp only
   generalize workT names vals m (t.kids.getD 0 zay)=a at *
   generalize workT names vals m (t.kids.getD 1 zay)=b at *
   simp_all
 refine zaf ?_
 refine br (fun c8=>?_) (fun c8=>?_)
 · refine za3 (by unfold I64;omega) ?_
   refine (zfh (by first | assumption | (unfold I64 at *;omega))).mono ?_
   rintro _ w10_ ⟨hx10_,rfl⟩
   refine ⟨(hx1_.trans (hx6_.trans (hx8_.trans hx10_))),?_⟩
   rw [zaJ names vals n t,if_neg c1,if_neg c2,hn1]
   dsimp only
   generalize workT names vals m (t.kids.getD 0 zay)=a at *
   generalize workT names vals m (t.kids.getD 1 zay)=b at *
   simp_all
 refine zaf ?_
 refine br (fun c9=>?_) (fun c9=>?_)
 · refine zjC (by unfold I64;have h1:=Int.mul_nonneg hw0.1 hw1.1;have h2:=Int.mul_le_mul hw0.2 hw1.2 hw1.1 (by omega:(0:Int)≤999);omega) ?_
   have hmul:=Int.mul_nonneg hw0.1 hw1.1;have hmul2:=Int.mul_le_mul hw0.2 hw1.2 hw1.1 (by omega:(0:Int)≤999)
   refine (zfh (by first | assumption | (unfold I64 at *;omega))).mono ?_
   rintro _ w11_ ⟨hx11_,rfl⟩
   refine ⟨(hx1_.trans (hx6_.trans (hx8_.trans hx11_))),?_⟩
   rw [zaJ names vals n t,if_neg c1,if_neg c2,hn1]
   dsimp only
   generalize workT names vals m (t.kids.getD 0 zay)=a at *
   generalize workT names vals m (t.kids.getD 1 zay)=b at *
   simp_all
 refine zaf ?_
 refine br (fun c10=>?_) (fun c10=>?_)
 · refine zai ?_
   refine (zfg ).mono ?_
   rintro _ w12_ ⟨hx12_,rfl⟩
   refine ⟨(hx1_.trans (hx6_.trans (hx8_.trans hx12_))),?_⟩
   rw [zaJ names vals n t,if_neg c1,if_neg c2,hn1]
   dsimp only
   generalize workT names vals m (t.kids.getD 0 zay)=a at *
   generalize workT names vals m (t.kids.getD 1 zay)=b at *
   simp_all
 refine zaf ?_
 refine br (fun c11=>?_) (fun c11=>?_)
 · refine zaf ?_
   refine (zfg ).mono ?_
   rintro _ w13_ ⟨hx13_,rfl⟩
   refine ⟨(hx1_.trans (hx6_.trans (hx8_.trans hx13_))),?_⟩
   rw [zaJ names vals n t,if_neg c1,if_neg c2,hn1]
   dsimp only
   generalize workT names vals m (t.kids.getD 0 zay)=a at *
   generalize workT names vals m (t.kids.getD 1 zay)=b at *
   simp_all
 refine zaO ?_
 refine br (fun c12=>?_) (fun c12=>?_)
 · refine zaO ?_
   refine (zfg ).mono ?_
   rintro _ w14_ ⟨hx14_,rfl⟩
   refine ⟨(hx1_.trans (hx6_.trans (hx8_.trans hx14_))),?_⟩
   rw [zaJ names vals n t,if_neg c1,if_neg c2,hn1]
   dsimp only
   generalize workT names vals m (t.kids.getD 0 zay)=a at *
   generalize workT names vals m (t.kids.getD 1 zay)=b at *
   simp_all
 refine (zfg ).mono ?_
 rintro _ w15_ ⟨hx15_,rfl⟩
 refine ⟨(hx1_.trans (hx6_.trans (hx8_.trans hx15_))),?_⟩
 rw [zaJ names vals n t,if_neg c1,if_neg c2,hn1]
 dsimp only
 generalize workT names vals m (t.kids.getD 0 zay)=a at *
 generalize workT names vals m (t.kids.getD 1 zay)=b at *
 simp_all
theorem zpg (n:Nat):zsq 201 n:=by
 induction n with
 | zero=>intro w W W1 W2 v v1 v2 t names vals h e h1 e1 h2 e2 hok;exact zhN h e h1 e1 h2 e2 (fun m hm=>by omega) hok
 | succ n ih=>intro w W W1 W2 v v1 v2 t names vals h e h1 e1 h2 e2 hok;exact zhN h e h1 e1 h2 e2 (fun m hm=>Nat.succ.inj hm▸ih) hok
def F127 (a0 a1 a2:Value) (w:World) (R:VW):Prop:=
 oP (Instr.box 53 a0) w fun x3 w=>
 rL 53 x3 w fun x7=>
 cL 198 [x7] w fun x8 w=>
 rD (Op.unary .not x8) w fun x9=>
 BR x9
 (R (iV 0) w)
 (rL 53 x3 w fun x10=>
 cL 201 [x10,a1,a2] w fun x13 w=>
 R x13 w)
def cfg127:Cfg:=⟨extL,[],[],[],[],[],[]⟩
theorem F127_call {a0 a1 a2:Value} {w:World} {R:VW} (h:F127 a0 a1 a2 w R):cL 127 [a0,a1,a2] w R:=co (g:=cfg127) Tryz.func127 (by kernel_rfl) (by kernel_rfl) (by kernel_rfl) h
theorem zgN {w:World} {v0:Value} {W0:World} {t:DTerm} {v1:Value} {W1:World} {names:(List ByteArray)} {v2:Value} {W2:World} {vals:(List Int)}  (h0:Is W0 v0 t) (e0:Ext W0 w) (h1:Is W1 v1 names) (e1:Ext W1 w) (h2:Is W2 v2 vals) (e2:Ext W2 w) (hok:zaL 6 t=true) :
   CALL Tryz.prog 127 [v0,v1,v2] w fun r w'=>Ext w w'∧(r=.int .i64 (workT names vals 6 t)):=by
 refine F127_call ?_
 unfold F127
 refine zaz zcd rfl h0 e0 fun w1_ hx1_ hA3 hV3=>?_
 refine zbd hV3 (Ext.refl w1_) ?_
 refine (zdJ h0 (e0.trans hx1_)).mono ?_
 rintro _ w2_ ⟨hx2_,rfl⟩
 refine zaU ?_
 refine zb4 (fun c1=>?_) (fun c1=>?_)
 · refine ⟨(hx1_.trans hx2_),?_⟩
   simp [hok] at c1
 refine zbd hV3 hx2_ ?_
 refine (zpg 6 h0 (e0.trans (hx1_.trans hx2_)) h1 (e1.trans (hx1_.trans hx2_)) h2 (e2.trans (hx1_.trans hx2_)) (by assumption)).mono ?_
 rintro _ w3_ ⟨hx3_,rfl⟩
 refine ⟨(hx1_.trans (hx2_.trans hx3_)),?_⟩
 rfl
def F55 (a0 a1 a2:Value) (w:World) (R:VW):Prop:=
 oP (Instr.box 36 a0) w fun x3 w=>
 oP (Instr.box 46 a1) w fun x4 w=>
 oP (Instr.alloc 46 true (.tuple #[])) w fun x6 w=>
 rL 46 x4 w fun x12=>
 cL 77 [x12] w fun x13 w=>
 oP (Instr.alloc 46 true (.tuple #[])) w fun x7 w=>
 oS 46 x7 x13 w fun w=>
 rF 46 x7 2 w fun x14=>
 rL 44 x14 w fun x15=>
 rX 44 x15 a2 w fun x17=>
 rL 33 x17 w fun x18=>
 rN 33 3 x18 w fun x20=>
 rB .sub 3 T0 U0 x20 (iV 1) w fun x21=>
 (fun w=>rF 36 x3 4 w fun x22=>
 rL 34 x22 w fun x23=>
 rX 33 x18 x21 w fun x26=>
 rL 3 x26 w fun x27=>
 rX 34 x23 x27 w fun x28=>
 rL 84 x28 w fun x29=>
 (fun w_=>oP (Instr.alloc 84 true (.tuple #[])) w_ fun x10 w=>
 Ext w_ w ∧
 (oS 84 x10 x29 w fun w=>
 rX 33 x18 x21 w fun x32=>
 rL 3 x32 w fun x33=>
 rA x33 (iV 1) w fun x34=>
 JOIN [11] (fun J30=>
 rF 84 x10 0 w fun x35=>
 rL 3 x35 w fun x36=>
 rB .eql 3 T0 U0 x36 (iV 1) w fun x38=>
 BR x38
 ((fun w=>rF 46 x7 0 w fun x39=>
 rL 33 x39 w fun x40=>
 rF 84 x10 1 w fun x41=>
 rL 3 x41 w fun x42=>
 rF 84 x10 2 w fun x43=>
 rL 53 x43 w fun x44=>
 rF 36 x3 0 w fun x45=>
 rL 24 x45 w fun x46=>
 rF 46 x4 0 w fun x47=>
 rL 33 x47 w fun x48=>
 (fun w_=>cL 122 [x44,x46,x48] w_ fun x49 w=>
 Ext w_ w ∧
 rX 33 x40 x42 w fun x50=>
 oS 3 x50 x49 w fun w=>
 J30 [x34] w) w) (World.drew1 w))
 (rB .eql 3 T0 U0 x36 (iV 2) w fun x52=>
 BR x52
 (rF 84 x10 2 w fun x53=>
 rL 53 x53 w fun x54=>
 rF 36 x3 0 w fun x55=>
 rL 24 x55 w fun x56=>
 rF 46 x4 0 w fun x57=>
 rL 33 x57 w fun x58=>
 cL 122 [x54,x56,x58] w fun x59 w=>
 rB .eql 3 T0 U0 x59 (iV 0) w fun x60=>
 BR x60
 (rF 84 x10 3 w fun x61=>
 rL 3 x61 w fun x62=>
 J30 [x62] w)
 (J30 [x34] w))
 (rB .eql 3 T0 U0 x36 (iV 3) w fun x64=>
 BR x64
 (rF 84 x10 3 w fun x65=>
 rL 3 x65 w fun x66=>
 J30 [x66] w)
 (rB .eql 3 T0 U0 x36 (iV 4) w fun x68=>
 BR x68
 ((fun w=>XR fun X=>RDX tp X (Instr.fieldAt 46 x7 2) w fun x69=>
 RDX tp X (Instr.loadAt 44 x69) w fun x70=>
 RDX tp X (Instr.fieldAt 36 x3 3) w fun x73=>
 RDX tp X (Instr.loadAt 33 x73) w fun x74=>
 RDX tp X (Instr.fieldAt 84 x10 1) w fun x75=>
 RDX tp X (Instr.loadAt 3 x75) w fun x76=>
 RDX tp X (Instr.indexAt 33 x74 x76) w fun x77=>
 RDX tp X (Instr.loadAt 3 x77) w fun x78=>
 (fun w_=>oP (Instr.buildSlice 33 1 #[(0,x78)]) w_ fun x79 w=>
 ExtX X w_ w ∧
 ((fun w_=>oP (Builtin.append_ #[33,33] 33 [x18,x79].toArray) w_ fun x80 w=>
 ExtX X w_ w ∧
 (RDX tp X (Instr.indexAt 44 x70 a2) w fun x81=>
 oS 33 x81 x80 w fun w=>
 rL 46 x7 w fun x82=>
 oS 46 x6 x82 w fun w=>
 rD (zax 46 x6) w fun r6=>R r6 w)) w)) w) (World.drew1 w))
 (rB .eql 3 T0 U0 x36 (iV 5) w fun x84=>
 BR x84
 (rF 46 x7 2 w fun x85=>
 rL 44 x85 w fun x86=>
 rN 44 3 x86 w fun x87=>
 rB .lss 3 T0 U0 x87 (iV 6) w fun x88=>
 BR x88
 ((fun w=>rF 46 x7 2 w fun x89=>
 rL 44 x89 w fun x90=>
 rF 36 x3 3 w fun x91=>
 rL 33 x91 w fun x92=>
 rF 84 x10 1 w fun x93=>
 rL 3 x93 w fun x94=>
 rX 33 x92 x94 w fun x95=>
 rL 3 x95 w fun x96=>
 (fun w_=>oP (Instr.buildSlice 33 1 #[(0,x96)]) w_ fun x97 w=>
 Ext w_ w ∧
 ((fun w_=>oP (Instr.buildSlice 44 1 #[(0,x97)]) w_ fun x98 w=>
 Ext w_ w ∧
 (oP (Builtin.append_ #[44,44] 44 [x90,x98].toArray) w fun x99 w=>
 rF 46 x7 2 w fun x100=>
 oS 44 x100 x99 w fun w=>
 J30 [x34] w)) w)) w) (World.drew1 w))
 (J30 [x34] w))
 (rB .eql 3 T0 U0 x36 (iV 6) w fun x102=>
 BR x102
 (rF 46 x7 1 w fun x103=>
 rL 33 x103 w fun x104=>
 rF 84 x10 1 w fun x105=>
 rL 3 x105 w fun x106=>
 rX 33 x104 x106 w fun x108=>
 oS 3 x108 a2 w fun w=>
 J30 [x34] w)
 (rB .eql 3 T0 U0 x36 (iV 7) w fun x110=>
 BR x110
 (rF 46 x7 1 w fun x111=>
 rL 33 x111 w fun x112=>
 rF 84 x10 1 w fun x113=>
 rL 3 x113 w fun x114=>
 rX 33 x112 x114 w fun x115=>
 rL 3 x115 w fun x116=>
 rB .eql 3 T0 T0 x116 a2 w fun x118=>
 BR x118
 (rF 46 x7 1 w fun x119=>
 rL 33 x119 w fun x120=>
 rF 84 x10 1 w fun x121=>
 rL 3 x121 w fun x122=>
 rX 33 x120 x122 w fun x123=>
 oS 3 x123 (iV (-1)) w fun w=>
 J30 [x34] w)
 (J30 [x34] w))
 (rB .eql 3 T0 U0 x36 (iV 9) w fun x125=>
 BR x125
 ((fun w=>rF 46 x7 2 w fun x126=>
 rL 44 x126 w fun x127=>
 rD (Instr.sliceAt 33 x18 none (some x21) (some x21)) w fun x132=>
 rX 44 x127 a2 w fun x133=>
 oS 33 x133 x132 w fun w=>
 rB .gtr 3 T0 U0 x21 (iV 0) w fun x135=>
 BR x135
 (rB .sub 3 T0 U0 x21 (iV 1) w fun x138=>
 rX 33 x18 x138 w fun x139=>
 rL 3 x139 w fun x140=>
 rA x140 (iV 1) w fun x141=>
 rX 33 x18 x138 w fun x142=>
 oS 3 x142 x141 w fun w=>
 rL 46 x7 w fun x143=>
 oS 46 x6 x143 w fun w=>
 rD (zax 46 x6) w fun r6=>R r6 w)
 (rL 46 x7 w fun x143=>
 oS 46 x6 x143 w fun w=>
 rD (zax 46 x6) w fun r6=>R r6 w)) (World.drew1 w))
 (J30 [x34] w))))))))) (fun u30 w=>
 rX 33 x18 x21 w fun x147=>
 oS 3 x147 (u30 11) w fun w=>
 rL 46 x7 w fun x148=>
 oS 46 x6 x148 w fun w=>
 rD (zax 46 x6) w fun r6=>R r6 w))) w) (World.drew1 w)
def cfg55:Cfg:={ ext:=extL,joins:=[(30,22300745198530623141535718272648327146244096,[11])],loops:=[],draws:=[(4,[0,1,2,3,4,5,6,7,8,9],256),(8,[0,1,2,3,4,5,6,7,8,9,10,11,12],1024),(15,[0,1,2,3,4,5,6,7,8,9,10,11,12,13],3072),(19,[0,1,2,3,4,5,6,7,8,9,10,11,12],768),(26,[0,1,2,3,4,5,6,7,8],0)],pars:=[],xs:=[15] }
theorem F55_call {a0 a1 a2:Value} {w:World} {R:VW} (h:F55 a0 a1 a2 w R):cL 55 [a0,a1,a2] w R:=co (g:=cfg55) Tryz.func55 (by kernel_rfl) (by kernel_rfl) (by kernel_rfl) h
def zcE (c:DCode) (s:DState) (t:Int):Int:=
 if (atI c s t).op=2 then (if workT c.globals s.vars 6 (atI c s t).term=0 then (atI c s t).to else zeb s t+1) else if (atI c s t).op=3 then (atI c s t).to else zeb s t+1
def zaV (c:DCode) (s:DState) (t:Int):DState:=
 if (atI c s t).op=1 then ⟨s.vars.set (atI c s t).arg.toNat (workT c.globals s.vars 6 (atI c s t).term),s.owner,s.stacks⟩
 else if (atI c s t).op=5 then (if s.stacks.length<6 then ⟨s.vars,s.owner,s.stacks++[[en c (atI c s t).arg.toNat]]⟩ else s)
 else if (atI c s t).op=6 then ⟨s.vars,s.owner.set (atI c s t).arg.toNat t,s.stacks⟩
 else if (atI c s t).op=7 then (if ow s (atI c s t).arg=t then ⟨s.vars,s.owner.set (atI c s t).arg.toNat (-1),s.stacks⟩ else s)
 else s
def ziK (l:List Int):List Int:=if l.length-1=0 then [] else (l.take (l.length-1)).set (l.length-2) (st l (l.length-2)+1)
def zec (c:DCode) (s:DState) (t:Int):DState:=
 if (atI c s t).op=4 then ⟨s.vars,s.owner,s.stacks.set t.toNat (stk s t++[en c (atI c s t).arg.toNat])⟩
 else if (atI c s t).op=9 then ⟨s.vars,s.owner,s.stacks.set t.toNat (ziK (stk s t))⟩
 else ⟨(zaV c s t).vars,(zaV c s t).owner,(zaV c s t).stacks.set t.toNat ((stk s t).set ((stk s t).length-1) (zcE c s t))⟩
theorem zky {c:DCode} {s:DState} {t:Int} (hs:zbQ c s) (hg:0≤zeb s t):∃ tn:Nat,t=tn∧tn<s.stacks.length∧stk s t≠[]∧(stk s t).length≤8∧zeb s t=st (stk s t) ((stk s t).length-1):=by
 obtain ⟨h0,h1⟩:=zff hg
 have h2:=zof h0 h1
 have hne:stk s t≠[]:=fun e=>by rw [h2,e] at hg;simp [List.getLastD] at hg
 have hm:=hs.2.2.2.2.2 (stk s t) (by rw [←zeo h1];exact List.getElem_mem _)
 exact ⟨t.toNat,by omega,h1,hne,hm.1,by rw [h2,zqy hne]⟩
theorem zqD {c:DCode} {s:DState} (hc:CodeR c) (hs:zbQ c s):zv4 s:=by
 have h1:=hc.1.globals6
 have h2:=hc.1.locks6
 have h3:=hs.1
 have h4:=hs.2.1
 have h5:=hs.2.2.1
 exact ⟨by omega,by omega,by omega,fun x hx=>by have:=(hs.2.2.2.2.2 x hx).1;omega⟩
theorem zcf {P:Program} {w:World} {t e:TypeId} {b a n cap sz by_ k:Nat} {ag:Bool} {u:Value} {K:Value→Prop} (ht:P.underlying t=some (.slice e)) (he:tyI P e=some (sz,by_,ag)) (hu:u=.slice (some ⟨b,a,none⟩) n cap) (hk:k<n) (kk:K (.pointer (some ⟨b,a+k*sz,none⟩))) :
   RD P (Instr.indexAt t u (.int .i64 (k:Int))) w K:=by
 subst hu
 exact zaQ (fun w' _=>by rw [zbH ht he (by omega) (by omega)];simp) kk
theorem zgO {lo hi g k:Nat} {w:World} {z:DStV} (h:VarI lo hi w g z) (hg:lo≤g∧g<hi) (hk:k<z.owner.length):∃ u b a cap,w.rangeAt g (0+1) [u]∧Is w u z.owner∧u=.slice (some ⟨b,a,none⟩) z.owner.length cap ∧
   ∀ w1,Ext w w1→∀ (val:Int),I64 val→∀ K:World→Prop,(∀ w2,ChgI lo hi w1 w2→VarI lo hi w2 g (⟨z.vars,z.owner.set k val,z.stacks⟩:DStV)→K w2)→OPU Tryz.prog (Instr.storeAt 3 (.pointer (some ⟨b,a+k*1,none⟩)) (.int .i64 val)) w1 K:=by
 obtain ⟨F,hO,hF⟩:=h
 obtain ⟨G1,hL1⟩:=zm9 (Lens.var hO)
 obtain ⟨u,b,a,cap,G2,hr,hIs,hu,hL2⟩:=hL1.elem hk
 exact ⟨u,b,a,cap,hr,hIs,hu,fun w1 hx val hI K kk=>zfF ty3 (hL2.ext hx) hF hg (zbp hI) kk⟩
theorem zok {lo hi g k:Nat} {w:World} {z:DStV} (h:VarI lo hi w g z) (hg:lo≤g∧g<hi) (hk:k<z.vars.length):∃ u b a cap,w.rangeAt g (0+0) [u]∧Is w u z.vars∧u=.slice (some ⟨b,a,none⟩) z.vars.length cap ∧
   ∀ w1,Ext w w1→∀ (val:Int),I64 val→∀ K:World→Prop,(∀ w2,ChgI lo hi w1 w2→VarI lo hi w2 g (⟨z.vars.set k val,z.owner,z.stacks⟩:DStV)→K w2)→OPU Tryz.prog (Instr.storeAt 3 (.pointer (some ⟨b,a+k*1,none⟩)) (.int .i64 val)) w1 K:=by
 obtain ⟨F,hO,hF⟩:=h
 obtain ⟨G1,hL1⟩:=zm8 (Lens.var hO)
 obtain ⟨u,b,a,cap,G2,hr,hIs,hu,hL2⟩:=hL1.elem hk
 exact ⟨u,b,a,cap,hr,hIs,hu,fun w1 hx val hI K kk=>zfF ty3 (hL2.ext hx) hF hg (zbp hI) kk⟩
theorem zcq {w:World} {b o:Nat} {u u':Value} (h:w.rangeAt b o [u]) (h':w.rangeAt b o [u']):u=u':=by
 have h1:=h 0 u rfl
 have h2:=h' 0 u' rfl
 rw [h1] at h2
 exact Option.some.inj h2
theorem zqE {w:World} {F:List Nat} {g:Nat} {z:DStV} (h:OAt F w g 0 z):OAt F w g 0 z.er:=by
 obtain ⟨cs,hr,rest⟩:=h
 obtain ⟨F0,c0,F1,c1,F2,c2,rfl,rfl,h0,h1,h2⟩:=zso hr
 exact ⟨_,zo6 (x:=z.er) h0 h1 (zve h2),rest⟩
theorem zvf {P:Program} {w:World} {t e:TypeId} {by_:Nat} {u:Value} {l:List Int} {G:List Nat} {k:Nat} {K:Value→Prop} (ht:P.underlying t=some (.slice e)) (he:tyI P e=some (1,by_,false)) (hm:Mine G w u l) (hk:k≤l.length) (hne:l≠[])
   (kk:∀ b a cap v G',u=.slice (some ⟨b,a,none⟩) l.length cap→Mine G' w v (l.take k)→(∀ c∈G',c∈G)→(0<k→v=.slice (some ⟨b,a,none⟩) k k)→K v):RD P (Instr.sliceAt t u none (some (.int .i64 (k:Int))) (some (.int .i64 (k:Int)))) w K:=by
 obtain ⟨⟨cs,⟨a,cap,Fi,xs,rfl,h1,h2,hc,h4⟩,rfl⟩,hn,hw⟩:=hm
 rcases h4 with ⟨h4,_⟩ | ⟨b,o,rfl,rfl,hr,hb⟩
 · exact absurd h4 hne
 have hFi:=Cells.flat (xs:=xs) hc
 subst hFi
 have hbd:∀ w',(Instr.sliceBounds true l.length cap none (some (.int .i64 (k:Int))) (some (.int .i64 (k:Int)))).run P w'=.ok (0,k,k) w':=fun w'=>by
   have h5:(k:Int)≤(cap:Int):=by omega
   simp [Instr.sliceBounds,Instr.sliceBound,asIntOf,h5]
 have e0:l=l.take k++l.drop k:=by simp
 have hc':=hc
 rw [e0] at hc'
 obtain ⟨F1,F2,x1,x2,hFF,rfl,c1,c2⟩:=Cells.split hc'
 obtain ⟨rfl,rfl⟩:=List.append_eq_nil_iff.1 hFF.symm
 have hlk:(l.take k).length=k:=by simp;omega
 have hval:∃ v:Value,(∀ w',(Instr.sliceAt t (.slice (some ⟨b,o,none⟩) l.length cap) none (some (.int .i64 (k:Int))) (some (.int .i64 (k:Int)))).run P w'=.ok v w')∧v=.slice (some ⟨b,o,none⟩) k k:=by
   refine ⟨_,fun w'=>?_,rfl⟩
   simp only [Instr.sliceAt,Instr.slice,Sem.run_bind,run_underlying ht,Result.andThen_ok,hbd,zaw he]
   simp [Addr.add_mid]
 obtain ⟨v,hrun,rfl⟩:=hval
 refine zaQ (fun w' _=>hrun w') ?_
 by_cases h0:k=0
 · subst h0
   refine kk b o cap _ [] rfl ?_ (by simp) (fun h=>by omega)
   have:l.take 0=[]:=by simp
   rw [this]
   exact ⟨⟨_,⟨some ⟨b,o,none⟩,0,[],[],rfl,Nat.le_refl _,Nat.zero_le _,⟨rfl,rfl⟩,.inl ⟨rfl,rfl⟩⟩,rfl⟩,List.nodup_nil,Wr.nil w⟩
 refine kk b o cap _ [b] rfl ?_ (by simp) (fun _=>rfl)
 refine ⟨⟨_,⟨some ⟨b,o,none⟩,k,[],x1,rfl,by rw [hlk];exact Nat.le_refl _,by omega,c1,.inr ⟨b,o,rfl,rfl,(zau hr).1,hb⟩⟩,by rw [hlk];rfl⟩,by simp,hw.sub (by simp)⟩
theorem zkz {lo hi g:Nat} {w:World} {z:DStV} (h:VarI lo hi w g z):VarI lo hi w g z.er:=by
 obtain ⟨F,h,hF⟩:=h;exact ⟨F,zqE h,hF⟩
theorem zvg {lo hi:Nat} {w:World} {v:Value} {z:DState} (h:OwnI lo hi w v z):∃ a b c,v=.agg #[a,b,c]:=by
 obtain ⟨F,⟨⟨cs,hr,rfl⟩,_⟩,_⟩:=h
 obtain ⟨F0,c0,F1,c1,F2,c2,rfl,rfl,⟨_,_,_,_,rfl,_⟩,⟨_,_,_,_,rfl,_⟩,⟨_,_,_,_,rfl,_⟩⟩:=zo7 hr
 exact ⟨_,_,_,rfl⟩
theorem zqF {c:DCode} {s:DState} {t:Int} (hc:CodeR c) (hs:zbQ c s) (h:0≤zeb s t) (ho:(atI c s t).op=1):0≤(atI c s t).arg∧(atI c s t).arg.toNat<s.vars.length:=by
 have h1:=(zgK hc hs h).2.1
 have h2:=hs.1
 unfold zbG at h1
 rw [if_pos ho] at h1
 omega
theorem zfH {c:DCode} {s:DState} {t:Int} (hc:CodeR c) (hs:zbQ c s) (h:0≤zeb s t) (ho:(atI c s t).op=4∨(atI c s t).op=5):0≤(atI c s t).arg∧(atI c s t).arg.toNat<c.entry.length:=by
 have h1:=(zgK hc hs h).2.1
 have h2:=hc.2.1.1
 unfold zbG at h1
 rw [if_neg (by omega),if_pos ho] at h1
 omega
theorem zph {w W0 W1:World} {v0 v1:Value} {c:DCode} {s:DState} {t:Int} (h0:Is W0 v0 c) (e0:Ext W0 w) (h1:Is W1 v1 s) (e1:Ext W1 w) (hc:CodeR c) (hs:zbQ c s) (hgo:GoR c s t) :
   CALL Tryz.prog 55 [v0,v1,.int .i64 t] w fun r w'=>Ext w w'∧Own w.heap.size w' r (zec c s t):=by
 obtain ⟨tn,rfl,htn,hne,hl8,hat⟩:=zky hs hgo.1
 have hatlt:=zm4 hs tn
 have hat0:0≤zeb s tn:=hgo.1
 have hpos:=List.length_pos_iff.2 hne
 refine F55_call ?_
 unfold F55
 refine zcz h0 e0 fun w1 hx1 hA1=>?_
 refine zcz h1 (e1.trans hx1) fun w2 hx2 hA2=>?_
 refine zbD zpX fun w3 hx3 hB3=>?_
 have hg3:=hB3.lt
 have hs1:=hx1.size
 have hs2:=hx2.size
 refine zab zck hA2 hx3 fun v12 h12=>?_
 refine (zlH h12 hx3 (zqD hc hs)).mono ?_
 rintro r13 w4 ⟨hx4,z,o13,hz⟩
 have hs4:=hx4.size
 refine zcB (α:=DStV) zpX fun w5 hx5 hv5=>?_
 have hs5:=hx5.size
 have hg5:=hv5.lt
 refine zaF zck hv5 (o13.ext hx5) (by omega) fun w6 hc6 hv6=>?_
 have hs6:=hc6.size
 have hx36:Ext w3 w6:=Ext.chgI (hx4.trans hx5) hc6 (by omega)
 have hzl:z.stacks.l.map RV.l=s.stacks:=congrArg DState.stacks hz
 have hzn:tn<z.stacks.l.length:=by have:=congrArg List.length hzl;simp at this;omega
 refine zaa za6 ?_
 refine zab (α:=RIntss) zes (zd4 hv6.at) (Ext.refl w6) fun v15 k15=>?_
 obtain ⟨rfl,h15⟩:=zm7 k15
 refine zad (α:=RInts) u44 za1 h15 hzn fun b17 o17 hA17=>?_
 refine zab (α:=RInts) za1 hA17 (Ext.refl w6) fun v18 k18=>?_
 obtain ⟨rfl,h18⟩:=zm7 k18
 obtain ⟨x,hx⟩:∃ x,x=z.stacks.l[tn]:=⟨_,rfl⟩
 have hxl:x.l=stk s tn:=by
   have e1:(z.stacks.l.map RV.l)[tn]?=s.stacks[tn]?:=by rw [hzl]
   rw [List.getElem?_map,List.getElem?_eq_getElem hzn,List.getElem?_eq_getElem htn] at e1
   have e2:=Option.some.inj e1
   rw [hx,e2]
   exact zeo (t:=(tn:Int)) (by simpa using htn)
 rw [←hx] at h18 ⊢
 refine zae u33 h18 ?_
 refine za3 (by unfold I64;rw [hxl];omega) ?_
 obtain ⟨top,htop⟩:∃ top:Nat,(x.l.length:Int)-1=top:=⟨x.l.length-1,by rw [hxl];omega⟩
 have htl:top<x.l.length:=by omega
 rw [htop]
 have hx7:=zak w6
 have hs7:=hx7.size
 have hx16:Ext w1 w6:=hx2.trans (hx3.trans hx36)
 have hx26:Ext w2 w6:=hx3.trans hx36
 refine zaa zaG ?_
 refine zab zdi (zao hA1) (hx16.trans hx7) fun v23 h23=>?_
 refine zad u33 ty3 h18 htl fun b26 o26 hA26=>?_
 have hget:x.l[top]=zeb s tn:=by
   rw [zod,hat,hxl]
   congr 1
   rw [hxl] at htop;omega
 rw [hget] at hA26
 refine zac ty3 hA26 hx7 fun hI27=>?_
 refine zav u34 zdY h23 hgo.1 (by omega) fun b28 o28 hA28=>?_
 rw [zaP] at hA28
 refine zab zdY hA28 (hx16.trans hx7) fun v29 h29=>?_
 refine ztX zr2 rfl zdY rfl h29 (hx16.trans hx7) fun w8 hx8 hA10 hV10=>?_
 have hs8:=hx8.size
 refine zad u33 ty3 h18 htl fun b32 o32 hA32=>?_
 rw [hget] at hA32
 refine zac ty3 hA32 (hx7.trans hx8) fun hI33=>?_
 have hins:=hc.f.ins
 refine zc4 (by unfold I64;omega) ?_
 have hR:=zgK hc hs hgo.1
 obtain ⟨I,hI⟩:∃ I,I=atI c s tn:=⟨_,rfl⟩
 have hA10:At w8 (World.drew1 w6).heap.size 0 I:=by rw [hI];exact hA10
 have hx68:=hx7.trans hx8
 have hv8:VarI w3.heap.size w8.heap.size w8 w4.heap.size z:=(hv6.ext hx68).mono (Nat.le_refl _) (by omega)
 have hx38:Ext w3 w8:=hx36.trans hx68
 have hres:∀ (zz:DState) (w9:World),Ext w3 w9→VarI w3.heap.size w9.heap.size w9 w4.heap.size zz→zz=zec c s tn →
     RD Tryz.prog (Instr.loadAt 46 (.pointer (some ⟨w4.heap.size,0,none⟩))) w9 fun x148=>OPU Tryz.prog (Instr.storeAt 46 (.pointer (some ⟨w2.heap.size,0,none⟩)) x148) w9 fun w'=>
       RD Tryz.prog (zax 46 (.pointer (some ⟨w2.heap.size,0,none⟩))) w' fun r6=>Ext w w'∧Own w.heap.size w' r6 (zec c s tn):=by
   intro zz w9 hx9 hv9 he
   have hs9:=hx9.size
   refine zce zck hv9 (Ext.refl w9) fun v148 o148=>?_
   obtain ⟨a,b,c',rfl⟩:=zvg o148
   refine zbR (α:=DState) zck rfl (hB3.ext hx9) rfl o148 fun w10 hc10 hB10=>?_
   refine zep hB10 zck ?_
   refine ⟨Ext.chgI (hx1.trans (hx2.trans (hx3.trans hx9))) hc10 (by omega),?_⟩
   have:=o148.chg hc10 (by omega)
   rw [he] at this
   exact this.own.mono (by omega)
 refine JOIN.mk (fun us w'=>us=[.int .i64 (zcE c s tn)]∧Ext w3 w'∧∃ z':DStV,VarI w3.heap.size w'.heap.size w' w4.heap.size z'∧z'.vars=(zaV c s tn).vars∧z'.owner=(zaV c s tn).owner∧z'.stacks.l.map RV.l=(zaV c s tn).stacks∧z'.stacks.l[tn]?=some x∧(I.op≠4∧I.op≠9)) ?_ ?_
 · refine zaa zbx ?_
   refine zac ty3 (zaC hA10) (Ext.refl w8) fun _=>?_
   have hzv:z.vars=s.vars:=congrArg DState.vars hz
   have hzo:z.owner=s.owner:=congrArg DState.owner hz
   have hzx:z.stacks.l[tn]?=some x:=by rw [List.getElem?_eq_getElem hzn,hx]
   have same:∀ w9,Ext w8 w9→(I.op≠1∧I.op≠4∧I.op≠5∧I.op≠6∧I.op≠7∧I.op≠9)→∃ z':DStV,VarI w3.heap.size w9.heap.size w9 w4.heap.size z'∧z'.vars=(zaV c s tn).vars∧z'.owner=(zaV c s tn).owner∧z'.stacks.l.map RV.l=(zaV c s tn).stacks∧z'.stacks.l[tn]?=some x∧(I.op≠4∧I.op≠9):=by
     rintro w9 hx9 ⟨q1,q4,q5,q6,q7,q9⟩
     have he:zaV c s tn=s:=by unfold zaV;rw [←hI,if_neg q1,if_neg q5,if_neg q6,if_neg q7]
     rw [he]
     exact ⟨z,(hv8.ext hx9).mono (Nat.le_refl _) hx9.size,hzv,hzo,hzl,hzx,q4,q9⟩
   have hnext:I.op≠2→I.op≠3→zcE c s tn=zeb s tn+1:=fun q2 q3=>by unfold zcE;rw [←hI,if_neg q2,if_neg q3]
   refine zaf ?_
   refine br (fun q1=>?_) (fun q1=>?_)
   · have hx9:=zak w8
     have hs9:=hx9.size
     have hg8:=hv8.lt
     obtain ⟨har0,har1⟩:=zqF hc hs hat0 (hI▸q1)
     rw [←hI] at har0 har1
     obtain ⟨ar,har⟩:∃ ar:Nat,I.arg=ar:=⟨I.arg.toNat,by omega⟩
     have har2:ar<z.vars.length:=by rw [hzv];omega
     obtain ⟨u,b,a,cap,hr,hIs,hu,hst⟩:=zok (hv8.ext hx9) (by omega) har2
     refine zaa zf3 ?_
     refine za2 za1 hr ?_
     refine zaa zby ?_
     refine zac ty3 (zaD hA10) hx9 fun _=>?_
     refine zaa zdZ ?_
     refine zab zcd (zbz hA10) hx9 fun v54 h54=>?_
     refine zaa zc5 ?_
     refine zab zcQ (za9 hA1) (hx16.trans (hx68.trans hx9)) fun v56 h56=>?_
     refine zaa zf3 ?_
     refine zab za1 (zcn hA2) (hx26.trans (hx68.trans hx9)) fun v58 h58=>?_
     have hok:zaL 6 I.term=true:=by
       have:=hR.2.2.1
       rw [←hI,if_pos (.inl q1)] at this
       exact this.1
     refine (zjJ 6 h54 hx9 h56 (hx16.trans (hx68.trans hx9)) h58 (hx26.trans (hx68.trans hx9)) hok).mono ?_
     rintro _ w10 ⟨hx10,rfl⟩
     refine ⟨hx10,?_⟩
     have hs10:=hx10.size
     rw [har]
     refine zcf u33 ty3 hu har2 ?_
     have hwr:=zcJ c.globals s.vars 6 I.term
     refine hst w10 hx10 _ (by unfold I64;omega) _ fun w11 hc11 hv11=>?_
     have hs11:=hc11.size
     have hrest:zaV c s tn=⟨s.vars.set I.arg.toNat (workT c.globals s.vars 6 I.term),s.owner,s.stacks⟩:=by unfold zaV;rw [←hI,if_pos q1]
     refine ⟨by rw [hnext (by omega) (by omega)],Ext.chgI ((hx38.trans hx9).trans hx10) hc11 (by omega),_,hv11.mono (Nat.le_refl _) (by omega),?_,?_,?_,hzx,by omega,by omega⟩
     · rw [hrest,hzv,har];rfl
     · rw [hrest];exact hzo
     rw [hrest];exact hzl
   refine zaf ?_
   refine br (fun q2=>?_) (fun q2=>?_)
   · refine zaa zdZ ?_
     refine zab zcd (zbz hA10) (Ext.refl w8) fun v54 h54=>?_
     refine zaa zc5 ?_
     refine zab zcQ (za9 hA1) (hx16.trans hx68) fun v56 h56=>?_
     refine zaa zf3 ?_
     refine zab za1 (zcn hA2) (hx26.trans hx68) fun v58 h58=>?_
     have hok:zaL 6 I.term=true:=by
       have:=hR.2.2.1
       rw [←hI,if_pos (.inr q2)] at this
       exact this.1
     refine (zjJ 6 h54 (Ext.refl w8) h56 (hx16.trans hx68) h58 (hx26.trans hx68) hok).mono ?_
     rintro _ w9 ⟨hx9,rfl⟩
     refine zaf ?_
     refine br (fun q=>?_) (fun q=>?_)
     · refine zaa zd0 ?_
       refine zac ty3 (zbI hA10) hx9 fun _=>?_
       exact ⟨by unfold zcE;rw [←hI,if_pos q2,if_pos q],hx38.trans hx9,same w9 hx9 (by omega)⟩
     exact ⟨by unfold zcE;rw [←hI,if_pos q2,if_neg q],hx38.trans hx9,same w9 hx9 (by omega)⟩
   refine zaf ?_
   refine br (fun q3=>?_) (fun q3=>?_)
   · refine zaa zd0 ?_
     refine zac ty3 (zbI hA10) (Ext.refl w8) fun _=>?_
     exact ⟨by unfold zcE;rw [←hI,if_neg q2,if_pos q3],hx38,same w8 (Ext.refl w8) (by omega)⟩
   have hn:=hnext q2 q3
   refine zaf ?_
   refine br (fun q4=>?_) (fun q4=>?_)
   · have hx9:=zak w8
     have hs9:=hx9.size
     have hg8:=hv8.lt
     obtain ⟨har0,har1⟩:=zfH hc hs hat0 (.inl (hI▸q4))
     rw [←hI] at har0 har1
     obtain ⟨ar,har⟩:∃ ar:Nat,I.arg=ar:=⟨I.arg.toNat,by omega⟩
     obtain ⟨F,hO,hF⟩:=hv6.ext (hx68.trans hx9)
     have hlt:=hO.lts
     obtain ⟨G1,hL1⟩:=zcp (Lens.var hO)
     obtain ⟨b2,a2,cap2,G2,hv2,hG21,hL2⟩:=hL1.elemV hzn
     rw [←hx] at hL2
     obtain ⟨cs1,⟨rfl,_⟩,hr1,_,_,hg1,_⟩:=hL1.here
     obtain ⟨cs,⟨rfl,hrow⟩,_,hnG,_,hb2,_⟩:=hL2.here
     have hG2F:∀ c∈G2,c∈F:=fun c hcm=>by
       rcases List.mem_cons.1 (hL2.sub c (by simp [hcm])) with rfl | h
       · exact absurd (hG21 _ (by simp [hcm])) hg1
       exact h
     have hGb:∀ c∈G2,w3.heap.size≤c∧c<w4.heap.size:=fun c hcm=>hF c (hG2F c hcm)
     have hX3:∀ c,c∈G2→w3.heap.size≤c:=fun c hcm=>(hGb c hcm).1
     have hx39:=hx38.trans hx9
     refine XR.mk (fun c=>c∈G2) ?_
     refine zb1 za6 ?_
     refine zcg zes hr1 (fun h=>by have:=hGb _ h;omega) ?_
     refine zb1 za5 ?_
     refine zcX (w0:=w3) hX3 hx39 ?_
     refine zab za1 (zan hA1) (hx2.trans hx3) fun v74 h74=>?_
     refine zb1 zby ?_
     refine zcg ty3 (za7 (zqA (zaD hA10)) hx9) (fun h=>by have:=hGb _ h;omega) ?_
     rw [har]
     refine zcX (w0:=w3) hX3 hx39 ?_
     refine zad u33 ty3 h74 (by omega) fun b77 o77 hA77=>?_
     rw [zbm] at hA77
     refine zcX (w0:=w3) hX3 hx39 ?_
     refine zac ty3 hA77 (hx2.trans hx3) fun hI78=>?_
     refine zdK (β:=Int) (G:=G2) u33 ty3 z3 zc3 (by decide) hrow hnG (zbp hI78) (by simp) (by rw [zam,hxl];omega) (by rw [hxl];omega) (fun w10 v80 w11 G' hx10 hc11 hR11 hN11 hs11=>?_) fun sv w10 hx10 hop=>⟨hx10.toX,hop⟩
     refine ⟨hc11.toX (fun c h=>h),?_⟩
     have hs10:=hx10.size
     have hs11':=hc11.size
     have hc911:Chg G2 (World.drew1 w8) w11:=(hx10.chg G2).trans hc11
     have hx311:Ext w3 w11:=Ext.chgI hx39 (hc911.toI (lo:=w3.heap.size) (hi:=w4.heap.size) hGb) (Nat.le_refl _)
     refine zcX (w0:=w3) hX3 hx311 ?_
     refine zcf u44 za1 hv2 hzn ?_
     refine zfG za1 hL2 hlt hc911 hR11 hN11 (fun c hcm=>?_) fun w12 hc12 ⟨F',hO',hF'⟩=>?_
     · rcases hs11 c hcm with h | h | h
       · exact .inl h
       · simp at h
       exact .inr h
     have hs12:=hc12.size
     have hcI:ChgI w3.heap.size w8.heap.size (World.drew1 w8) w12:=hc12.toI fun c hcm=>by
       have:=hL2.sub c hcm
       rcases List.mem_cons.1 this with rfl | h
       · exact ⟨by omega,hg8⟩
       have:=hF c h;omega
     refine hres _ w12 (Ext.chgI hx39 hcI (Nat.le_refl _)) (zkz ⟨F',hO',fun c hcm=>?_⟩) ?_
     · have h1:=hO'.lts c (by simp [hcm])
       rcases hF' c hcm with h | h
       · rcases List.mem_cons.1 h with rfl | h
         · obtain ⟨_,_,_,_,_,hnn,_⟩:=hO';exact absurd hcm hnn
         have:=hF c h;omega
       omega
     unfold zec DStV.er
     have e1:((tn:Int)).toNat=tn:=by omega
     rw [←hI,if_pos q4]
     simp only [DState.mk.injEq,hzv,hzo,true_and]
     rw [List.map_set,hzl,hxl,e1,har,Int.toNat_natCast]
   refine zaf ?_
   refine br (fun q5=>?_) (fun q5=>?_)
   · have hg8:=hv8.lt
     obtain ⟨har0,har1⟩:=zfH hc hs hat0 (.inr (hI▸q5))
     rw [←hI] at har0 har1
     obtain ⟨ar,har⟩:∃ ar:Nat,I.arg=ar:=⟨I.arg.toNat,by omega⟩
     have hzlen:z.stacks.l.length=s.stacks.length:=by have:=congrArg List.length hzl;simpa using this
     refine zaa za6 ?_
     refine zab (α:=RIntss) zes (zd4 hv8.at) (Ext.refl w8) fun v86 k86=>?_
     obtain ⟨rfl,h86⟩:=zm7 k86
     refine zae u44 h86 ?_
     rw [hzlen]
     refine zai ?_
     refine br (fun qq=>?_) (fun qq=>?_)
     · have hx9:=zak w8
       have hs9:=hx9.size
       obtain ⟨F,hO,hF⟩:=hv8.ext hx9
       have hlt:=hO.lts
       obtain ⟨G1,hL1⟩:=zcp (Lens.var hO)
       refine zaa za6 ?_
       refine zh9 zes (zd4 hv8.at) hx9 ?_
       refine zaa za5 ?_
       refine zab za1 (zan hA1) (hx16.trans (hx68.trans hx9)) fun v92 h92=>?_
       refine zaa zby ?_
       refine zac ty3 (zaD hA10) hx9 fun _=>?_
       rw [har]
       refine zad u33 ty3 h92 (by omega) fun b95 o95 hA95=>?_
       rw [zbm] at hA95
       refine zac ty3 hA95 (hx16.trans (hx68.trans hx9)) fun hI96=>?_
       refine zcL (β:=Int) u33 ty3 z3 (by decide) (zbp hI96) fun v97 w10 hx10 r97=>?_
       refine ⟨hx10,?_⟩
       have hs10:=hx10.size
       obtain ⟨GX,hMX,hGX⟩:=zhk r97
       obtain ⟨cs,⟨rfl,hrow⟩,_,hnG,_⟩:=hL1.here
       have hGlt:∀ c∈G1,c<(World.drew1 w8).heap.size:=fun c hcm=>hlt c (hL1.sub c (by simp [hcm]))
       refine zdK (β:=RInts) (G:=G1) (w:=w10) u44 za1 z33 zu8 (by decide) (hrow.keep fun c hcm=>hx10.heap (hGlt c hcm)) hnG hMX (fun c hcm hg=>by have:=hGX c hcm;have:=hGlt c hg;omega) (by rw [zam,hzlen];omega) (by rw [hzlen];omega) (fun w11 v99 w12 G' hx11 hc12' hR12 hN12 hs12=>?_) fun sv w11 hx11 hop=>⟨hx11,hop⟩
       have hc12:Chg G1 w10 w12:=(hx11.chg G1).trans hc12'
       refine zaa za6 ?_
       refine zfG zes hL1 hlt ((hx10.chg G1).trans hc12) hR12 hN12 (fun c hcm=>?_) fun w13 hc13 ⟨F',hO',hF'⟩=>?_
       · rcases hs12 c hcm with h | h | h
         · exact .inl h
         · exact .inr (hGX c h).1
         exact .inr (by omega)
       have hs13:=hc13.size
       have hcI:ChgI w3.heap.size w8.heap.size (World.drew1 w8) w13:=hc13.toI fun c hcm=>by
         have:=hL1.sub c hcm
         rcases List.mem_cons.1 this with rfl | h
         · exact ⟨by omega,hg8⟩
         exact hF c h
       have hrest:zaV c s tn=⟨s.vars,s.owner,s.stacks++[[en c I.arg.toNat]]⟩:=by unfold zaV;rw [←hI,if_neg q1,if_pos q5,if_pos (by omega)]
       refine ⟨by rw [hn],Ext.chgI (hx38.trans hx9) hcI (Nat.le_refl _),_,⟨F',hO',fun c hcm=>?_⟩,?_,?_,?_,?_,by omega,by omega⟩
       · have h1:=hO'.lts c (by simp [hcm])
         rcases hF' c hcm with h | h
         · rcases List.mem_cons.1 h with rfl | h
           · obtain ⟨_,_,_,_,_,hnn,_⟩:=hO';exact absurd hcm hnn
           have:=hF c h;omega
         omega
       · rw [hrest];exact hzv
       · rw [hrest];exact hzo
       · rw [hrest]
         simp only [List.map_append,List.map_cons,List.map_nil,hzl,har,Int.toNat_natCast]
       show (z.stacks.l++_)[tn]?=some x
       rw [List.getElem?_append_left hzn];exact hzx
     have hrest:zaV c s tn=s:=by unfold zaV;rw [←hI,if_neg q1,if_pos q5,if_neg (by omega)]
     refine ⟨by rw [hn],hx38,z,hv8,?_,?_,?_,hzx,by omega,by omega⟩
     · rw [hrest];exact hzv
     · rw [hrest];exact hzo
     rw [hrest];exact hzl
   refine zaf ?_
   refine br (fun q6=>?_) (fun q6=>?_)
   · have hg8:=hv8.lt
     obtain ⟨har0,har1⟩:=zfD hc hs hat0 (.inl (hI▸q6))
     rw [←hI] at har0 har1
     obtain ⟨ar,har⟩:∃ ar:Nat,I.arg=ar:=⟨I.arg.toNat,by omega⟩
     have har2:ar<z.owner.length:=by rw [hzo];omega
     obtain ⟨u,b,a,cap,hr,hIs,hu,hst⟩:=zgO hv8 (by omega) har2
     refine zaa zdp ?_
     refine za2 za1 hr ?_
     refine zaa zby ?_
     refine zac ty3 (zaD hA10) (Ext.refl w8) fun _=>?_
     rw [har]
     refine zcf u33 ty3 hu har2 ?_
     have hmany:=hs.2.2.1
     refine hst w8 (Ext.refl w8) _ (by unfold I64;omega) _ fun w11 hc11 hv11=>?_
     have hs11:=hc11.size
     have hrest:zaV c s tn=⟨s.vars,s.owner.set I.arg.toNat tn,s.stacks⟩:=by unfold zaV;rw [←hI,if_neg q1,if_neg q5,if_pos q6]
     refine ⟨by rw [hn],Ext.chgI hx38 hc11 (by omega),_,hv11.mono (Nat.le_refl _) (by omega),?_,?_,?_,hzx,by omega,by omega⟩
     · rw [hrest];exact hzv
     · rw [hrest,hzo,har];rfl
     rw [hrest];exact hzl
   refine zaf ?_
   refine br (fun q7=>?_) (fun q7=>?_)
   · have hg8:=hv8.lt
     obtain ⟨har0,har1⟩:=zfD hc hs hat0 (.inr (hI▸q7))
     rw [←hI] at har0 har1
     obtain ⟨ar,har⟩:∃ ar:Nat,I.arg=ar:=⟨I.arg.toNat,by omega⟩
     have har2:ar<z.owner.length:=by rw [hzo];omega
     obtain ⟨u,b,a,cap,hr,hIs,hu,hst⟩:=zgO hv8 (by omega) har2
     refine zaa zdp ?_
     refine za2 za1 hr ?_
     refine zaa zby ?_
     refine zac ty3 (zaD hA10) (Ext.refl w8) fun _=>?_
     rw [har]
     refine zad u33 ty3 hIs har2 fun b115 o115 hA115=>?_
     refine zac ty3 hA115 (Ext.refl w8) fun _=>?_
     have how:z.owner[ar]=ow s I.arg:=by
       have:ar<s.owner.length:=by rw [←hzo];exact har2
       rw [har,←ztp this]
       congr 1
     rw [how]
     refine zaf ?_
     refine br (fun qq=>?_) (fun qq=>?_)
     · refine zaa zdp ?_
       refine za2 za1 hr ?_
       refine zaa zby ?_
       refine zac ty3 (zaD hA10) (Ext.refl w8) fun _=>?_
       rw [har]
       refine zcf u33 ty3 hu har2 ?_
       refine hst w8 (Ext.refl w8) _ (by unfold I64;omega) _ fun w11 hc11 hv11=>?_
       have hs11:=hc11.size
       have hrest:zaV c s tn=⟨s.vars,s.owner.set I.arg.toNat (-1),s.stacks⟩:=by unfold zaV;rw [←hI,if_neg q1,if_neg q5,if_neg q6,if_pos q7,if_pos qq]
       refine ⟨by rw [hn],Ext.chgI hx38 hc11 (by omega),_,hv11.mono (Nat.le_refl _) (by omega),?_,?_,?_,hzx,by omega,by omega⟩
       · rw [hrest];exact hzv
       · rw [hrest,hzo,har];rfl
       rw [hrest];exact hzl
     have hrest:zaV c s tn=s:=by unfold zaV;rw [←hI,if_neg q1,if_neg q5,if_neg q6,if_pos q7,if_neg qq]
     refine ⟨by rw [hn],hx38,z,hv8,?_,?_,?_,hzx,by omega,by omega⟩
     · rw [hrest];exact hzv
     · rw [hrest];exact hzo
     rw [hrest];exact hzl
   refine zaf ?_
   refine br (fun q9=>?_) (fun q9=>?_)
   · have hx9:=zak w8
     have hs9:=hx9.size
     have hg8:=hv8.lt
     have hx39:=hx38.trans hx9
     obtain ⟨F,hO,hF⟩:=hv6.ext (hx68.trans hx9)
     have hlt:=hO.lts
     obtain ⟨G1v,hL1v⟩:=zcp (Lens.var hO)
     obtain ⟨b2v,a2v,cap2v,G2v,hv2v,hG21v,hL2v⟩:=hL1v.elemV hzn
     rw [←hx] at hL2v
     obtain ⟨cs1,⟨rfl,_⟩,hr1v,_,_,hg1v,_⟩:=hL1v.here
     obtain ⟨cs2,⟨rfl,hrow2⟩,hr2v,_,_,_,hwb2⟩:=hL2v.here
     have hOs:OAt F (World.drew1 w8) w4.heap.size 0 s:=by have:=zqE hO;rwa [hz] at this
     obtain ⟨G1,hL1⟩:=zdH (Lens.var hOs)
     obtain ⟨_,_,_,_,_,hgG1,_⟩:=hL1.here
     obtain ⟨u1,b2,a2,cap2,G2,hr1,hIs1,hu1,hL2⟩:=hL1.elem htn
     have hu:u1=z.stacks.v:=zcq hr1 hr1v
     refine zaa za6 ?_
     refine za2 zes hr1 ?_
     have hbb:b2=b2v∧a2=a2v:=by
       rw [hu,hv2v] at hu1
       simp only [Value.slice.injEq,Option.some.injEq,Addr.mk.injEq] at hu1
       exact ⟨hu1.1.1.symm,hu1.1.2.1.symm⟩
     obtain ⟨rfl,rfl⟩:=hbb
     obtain ⟨ux,hMx,hrx,hGx,_⟩:=hL2.row
     obtain ⟨_,_,_,_,_,hb2G2,_⟩:=hL2.here
     have hux:ux=x.v:=zcq hrx hr2v
     have hsl:s.stacks[tn]=x.l:=by rw [hxl];exact zeo (t:=(tn:Int)) (by simpa using htn)
     rw [hux,hsl] at hMx
     refine zvf u33 ty3 hMx (by omega) (by rw [hxl];exact hne) fun bx ax capx v132 G' hxv hM' hG' hv'=>?_
     refine zcf u44 za1 hu1 htn ?_
     have hb2G':b2∉G':=fun h=>hb2G2 (hG' _ h)
     have hb2g:b2≠w4.heap.size:=fun e=>hg1v (e▸hG21v b2 (by simp))
     have hrep':=zbk rfl hM'.own
     have hone':v132.oneCell'=true:=Rep.one hrep' v132 (by simp)
     refine zia za1 hwb2 hr2v hrow2.one hone' fun w10 hch hr10=>?_
     have hkeep':∀ c∈G',w10.heap[c]?=(World.drew1 w8).heap[c]?:=fun c hcm=>hch.chg.block c (hM'.lt c hcm) (by simp;exact fun e=>hb2G' (e▸hcm))
     obtain ⟨cb,eb,hcb⟩:=hwb2
     obtain ⟨cb',hcb',_⟩:=hch.cell cb eb hcb
     have hOy:OAt G' w10 b2 (a2+tn*Rep.size (List Int)) (x.l.take top):=⟨[v132],Rep.keep hrep' hkeep',hr10,hM'.nodup,hM'.wr.keep hkeep',hb2G',cb',eb,hcb'⟩
     have hg10:w10.heap[w4.heap.size]?=(World.drew1 w8).heap[w4.heap.size]?:=hch.chg.block _ (hlt _ (by simp)) (by simp;exact fun e=>hb2g e.symm)
     obtain ⟨F',hO',hF'⟩:=hL2.back w10 G' (x.l.take top) (hch.mono (Nat.le_refl _) (Nat.le_refl _) (by simp)) hOy (fun c hcm=>.inl (hG' c hcm))
     have hs10:=hch.chg.size
     have hFb:∀ c∈F',w3.heap.size≤c∧c<w4.heap.size:=fun c hcm=>by
       have hin:c∈w4.heap.size :: F:=by
         rcases hF' c hcm with h | h
         · exact h
         exact hGx c (hG' c h)
       rcases List.mem_cons.1 hin with rfl | h
       · obtain ⟨_,_,_,_,_,hnn,_⟩:=hO';exact absurd hcm hnn
       exact hF c h
     have hb2F:b2∈w4.heap.size :: F:=hL2.sub b2 (by simp)
     have hcI:ChgI w3.heap.size w8.heap.size (World.drew1 w8) w10:=hch.chg.toI fun c hcm=>by
       simp only [List.mem_cons,List.not_mem_nil,or_false] at hcm
       subst hcm
       rcases List.mem_cons.1 hb2F with h | h
       · rw [h];exact ⟨by omega,hg8⟩
       have:=hF _ h;omega
     have hx310:Ext w3 w10:=Ext.chgI hx39 hcI (Nat.le_refl _)
     have e1:((tn:Int)).toNat=tn:=by omega
     have hlen:x.l.length=top+1:=by omega
     have htop8:top<8:=by have h:=htl;rw [hxl] at h;omega
     refine zcT ?_
     refine br (fun hp=>?_) (fun hp=>?_)
     · refine za3 (by unfold I64;omega) ?_
       obtain ⟨tp,htp⟩:∃ tp:Nat,(top:Int)-1=tp:=⟨top-1,by omega⟩
       rw [htp]
       obtain ⟨G1',hL1'⟩:=zdH (Lens.var hO')
       have hk':tn<(s.stacks.set tn (x.l.take top)).length:=by simpa using htn
       obtain ⟨u1',b2',a2',cap2',G2',hr1',_,hu1',hL2'⟩:=hL1'.elem hk'
       have hu':u1'=u1:=zcq hr1' (zaK hr1 hg10)
       have hbb':b2'=b2∧a2'=a2:=by
         rw [hu',hu1] at hu1'
         simp only [Value.slice.injEq,Option.some.injEq,Addr.mk.injEq] at hu1'
         exact ⟨hu1'.1.1.symm,hu1'.1.2.1.symm⟩
       obtain ⟨rfl,rfl⟩:=hbb'
       have hel:(s.stacks.set tn (x.l.take top))[tn]'hk'=x.l.take top:=List.getElem_set_self ..
       simp only [hel] at hL2'
       obtain ⟨uy,by',ay',capy',G3',hry,hIsy,huy,hL3'⟩:=hL2'.elem (k:=tp) (by simp;omega)
       have huy':uy=v132:=zcq hry hr10
       have hv132:=hv' (by omega)
       have hbx:by'=bx∧ay'=ax:=by
         rw [huy',hv132] at huy
         simp only [Value.slice.injEq,Option.some.injEq,Addr.mk.injEq] at huy
         exact ⟨huy.1.1.symm,huy.1.2.1.symm⟩
       obtain ⟨rfl,rfl⟩:=hbx
       refine zcf u33 ty3 hxv (k:=tp) (by omega) ?_
       have hval:(x.l.take top)[tp]'(by simp;omega)=st x.l tp:=by
         rw [List.getElem_take,zod]
       refine zac ty3 hL3'.here.at (Ext.refl w10) fun hI140=>?_
       rw [hval]
       have hstr:0≤st x.l tp∧st x.l tp<c.ins.length:=by
         have hmem:=hs.2.2.2.2.2 x.l (by rw [←hsl];exact List.getElem_mem _)
         exact hmem.2.1 tp (by omega)
       refine zc4 (by unfold I64;omega) ?_
       refine zcf u33 ty3 hxv (k:=tp) (by omega) ?_
       have hg10':w4.heap.size<w10.heap.size:=by omega
       refine zfF (α:=DState) (lo:=w3.heap.size) (hi:=w10.heap.size) ty3 hL3' (fun c hcm=>by have:=hFb c hcm;omega) (by omega) (zbp (x:=st x.l tp+1) (by unfold I64;omega)) fun w11 hc11 hv11=>?_
       have hs11:=hc11.size
       refine hres _ w11 (Ext.chgI hx310 hc11 (Nat.le_refl _)) (hv11.mono (Nat.le_refl _) (by omega)) ?_
       unfold zec
       rw [←hI,if_neg q4,if_pos q9]
       simp only [DState.mk.injEq,true_and,e1,List.set_set]
       congr 1
       unfold ziK
       rw [←hxl,hlen,if_neg (by omega),show top+1-1=top by omega,show top+1-2=tp by omega]
     refine hres _ w10 hx310 ⟨F',hO',fun c hcm=>by have:=hFb c hcm;omega⟩ ?_
     unfold zec
     rw [←hI,if_neg q4,if_pos q9]
     simp only [DState.mk.injEq,true_and,e1]
     congr 1
     unfold ziK
     have ht0:top=0:=by omega
     subst ht0
     rw [←hxl,hlen]
     simp
   exact ⟨by rw [hn],hx38,same w8 (Ext.refl w8) (by omega)⟩
 rintro uj w9 ⟨hu,hx9,z',hv9,hz1,hz2,hz3,hz4,ho4,ho9⟩
 simp only [List.map_cons,List.map_nil,List.cons.injEq,and_true] at hu
 rw [hu]
 have hs9:=hx9.size
 obtain ⟨hk',hxk⟩:=List.getElem?_eq_some_iff.1 hz4
 have hg9:=hv9.lt
 obtain ⟨F,hO,hF⟩:=hv9
 obtain ⟨G1,hL1⟩:=zcp (Lens.var hO)
 obtain ⟨b2,a2,cap2,G2,hv2,_,hL2⟩:=hL1.elemV hk'
 rw [hxk] at hL2
 refine zoh (e:=3) u33 ty3 hL2 htl fun b3 o3 G3 hL3=>?_
 have hI64:I64 (zcE c s tn):=by
   have hto:I.op=2∨I.op=3→I64 I.to:=fun h=>by
     have:=hR.2.2.2
     rw [←hI,if_pos h] at this
     obtain ⟨i,hi,_,_,hpr⟩:=hc.f.find hc.1.procs8.2 hat0 hatlt.2
     have h1:=hc.f.nonneg hi
     have h2:=(hc.f.lt i hi).2
     rw [hpr,zcV,Int.toNat_natCast] at this
     unfold I64;omega
   unfold zcE
   rw [←hI]
   split
   · split
     · exact hto (.inl (by assumption))
     unfold I64;omega
   split
   · exact hto (.inr (by assumption))
   unfold I64;omega
 refine zfF ty3 hL3 hF (by omega) (zbp hI64) fun w10 hc10 hv10=>?_
 have hs10:=hc10.size
 refine hres _ w10 (Ext.chgI hx9 hc10 (Nat.le_refl _)) (zkz (hv10.mono (Nat.le_refl _) (by omega))) ?_
 unfold zec DStV.er
 rw [←hI,if_neg ho4,if_neg ho9]
 simp only [DState.mk.injEq,hz1,hz2,true_and]
 have e1:((tn:Int)).toNat=tn:=by omega
 have e2:(stk s tn).length-1=top:=by rw [←hxl];omega
 rw [List.map_set,hz3,hxl,e1,e2]
def F56 (a0:Value) (w:World) (R:VW):Prop:=
 oP (Instr.box 36 a0) w fun x1 w=>
 oP (Instr.alloc 46 true (.tuple #[])) w fun x2 w=>
 rL 36 x1 w fun x5=>
 cL 57 [x5] w fun x6 w=>
 rD (Op.unary .not x6) w fun x7=>
 BR x7
 (rD (Instr.build 46 #[]) w fun x8=>
 oS 46 x2 x8 w fun w=>
 rD (zax 46 x2) w fun r2=>R r2 w)
 (rF 36 x1 0 w fun x9=>
 rL 24 x9 w fun x10=>
 rN 24 3 x10 w fun x11=>
 oP (Instr.makeSlice 33 x11 x11) w fun x12 w=>
 rD (Instr.build 46 #[(0,x12)]) w fun x13=>
 oP (Instr.alloc 46 true (.tuple #[])) w fun x3 w=>
 oS 46 x3 x13 w fun w=>
 LOOPI [4] [(iV 0)] w fun u5 w next5=>
 rF 36 x1 1 w fun x15=>
 rL 24 x15 w fun x16=>
 rN 24 3 x16 w fun x17=>
 rC (u5 4) x17 w fun x18=>
 BR x18
 (rF 46 x3 1 w fun x21=>
 rL 33 x21 w fun x22=>
 oP (Instr.buildSlice 33 1 #[(0,(iV (-1)))]) w fun x23 w=>
 oP (Builtin.append_ #[33,33] 33 [x22,x23].toArray) w fun x24 w=>
 rF 46 x3 1 w fun x25=>
 oS 33 x25 x24 w fun w=>
 rA (u5 4) (iV 1) w fun x20=>
 next5 [x20] w)
 ((fun w=>rF 46 x3 2 w fun x26=>
 rL 44 x26 w fun x27=>
 rF 36 x1 3 w fun x28=>
 rL 33 x28 w fun x29=>
 rL 36 x1 w fun x30=>
 (fun w_=>cL 123 [x30] w_ fun x31 w=>
 Ext w_ w ∧
 rX 33 x29 x31 w fun x32=>
 rL 3 x32 w fun x33=>
 (fun w_=>oP (Instr.buildSlice 33 1 #[(0,x33)]) w_ fun x34 w=>
 Ext w_ w ∧
 ((fun w_=>oP (Instr.buildSlice 44 1 #[(0,x34)]) w_ fun x35 w=>
 Ext w_ w ∧
 (oP (Builtin.append_ #[44,44] 44 [x27,x35].toArray) w fun x36 w=>
 rF 46 x3 2 w fun x37=>
 oS 44 x37 x36 w fun w=>
 rL 46 x3 w fun x38=>
 oS 46 x2 x38 w fun w=>
 rD (zax 46 x2) w fun r2=>R r2 w)) w)) w) w) (World.drew1 w)))
def cfg56:Cfg:=⟨extL,[],[(5,67092496,[4])],[(8,[0,1,2,3,4,5,6,7,8,9,10,11,12],800)],[],[],[]⟩
theorem F56_call {a0:Value} {w:World} {R:VW} (h:F56 a0 w R):cL 56 [a0] w R:=co (g:=cfg56) Tryz.func56 (by kernel_rfl) (by kernel_rfl) (by kernel_rfl) h
def F53 (a0:Value) (w:World) (R:VW):Prop:=
 oP (Instr.box 36 a0) w fun x1 w=>
 oP (Instr.alloc 46 true (.tuple #[])) w fun x2 w=>
 (fun w0=>PAR w0 [[(0,5)],[(1,6),(0,5)],[(2,7),(1,6)],[(3,8),(2,7),(2,7)],[(4,9)],[(5,10),(4,9)],[(6,11),(5,10)],[(7,12),(6,11),(6,11)],[(8,13),(3,8),(7,12)],[(9,3)]] (fun Q=>
 (∀ (u1:Env) (T:Nat→Nat×Nat) (w:World),Ext w0 w→zaH [] w0.heap.size w.heap.size T→(True)→(fun w1=>rF 36 x1 0 w fun x5=>
 Ext w1 w∧Q 0 (upd u1 5 x5) (zbM T 0 (w1.heap.size,w.heap.size)) w) w) ∧
 (∀ (u1:Env) (T:Nat→Nat×Nat) (w:World),Ext w0 w→zaH [0] w0.heap.size w.heap.size T→(Q 0 u1 T w∧True)→(fun w1=>rL 24 (u1 5) w fun x6=>
 Ext w1 w∧Q 1 (upd u1 6 x6) (zbM T 1 (w1.heap.size,w.heap.size)) w) w) ∧
 (∀ (u1:Env) (T:Nat→Nat×Nat) (w:World),Ext w0 w→zaH [1] w0.heap.size w.heap.size T→(Q 1 u1 T w∧True)→(fun w1=>rN 24 3 (u1 6) w fun x7=>
 Ext w1 w∧Q 2 (upd u1 7 x7) (zbM T 2 (w1.heap.size,w.heap.size)) w) w) ∧
 (∀ (u1:Env) (T:Nat→Nat×Nat) (w:World),Ext w0 w→zaH [2,2] w0.heap.size w.heap.size T→(Q 2 u1 T w∧Q 2 u1 T w∧True)→(fun w1=>oP (Instr.makeSlice 33 (u1 7) (u1 7)) w fun x8 w=>
 Ext w1 w∧Q 3 (upd u1 8 x8) (zbM T 3 (w1.heap.size,w.heap.size)) w) w) ∧
 (∀ (u1:Env) (T:Nat→Nat×Nat) (w:World),Ext w0 w→zaH [] w0.heap.size w.heap.size T→(True)→(fun w1=>rF 36 x1 1 w fun x9=>
 Ext w1 w∧Q 4 (upd u1 9 x9) (zbM T 4 (w1.heap.size,w.heap.size)) w) w) ∧
 (∀ (u1:Env) (T:Nat→Nat×Nat) (w:World),Ext w0 w→zaH [4] w0.heap.size w.heap.size T→(Q 4 u1 T w∧True)→(fun w1=>rL 24 (u1 9) w fun x10=>
 Ext w1 w∧Q 5 (upd u1 10 x10) (zbM T 5 (w1.heap.size,w.heap.size)) w) w) ∧
 (∀ (u1:Env) (T:Nat→Nat×Nat) (w:World),Ext w0 w→zaH [5] w0.heap.size w.heap.size T→(Q 5 u1 T w∧True)→(fun w1=>rN 24 3 (u1 10) w fun x11=>
 Ext w1 w∧Q 6 (upd u1 11 x11) (zbM T 6 (w1.heap.size,w.heap.size)) w) w) ∧
 (∀ (u1:Env) (T:Nat→Nat×Nat) (w:World),Ext w0 w→zaH [6,6] w0.heap.size w.heap.size T→(Q 6 u1 T w∧Q 6 u1 T w∧True)→(fun w1=>oP (Instr.makeSlice 33 (u1 11) (u1 11)) w fun x12 w=>
 Ext w1 w∧Q 7 (upd u1 12 x12) (zbM T 7 (w1.heap.size,w.heap.size)) w) w) ∧
 (∀ (u1:Env) (T:Nat→Nat×Nat) (w:World),Ext w0 w→zaH [3,7] w0.heap.size w.heap.size T→(Q 3 u1 T w∧Q 7 u1 T w∧True)→(fun w1=>rD (Instr.build 46 #[(0,(u1 8)),(1,(u1 12))]) w fun x13=>
 Ext w1 w∧Q 8 (upd u1 13 x13) (zbM T 8 (w1.heap.size,w.heap.size)) w) w) ∧
 (∀ (u1:Env) (T:Nat→Nat×Nat) (w:World),Ext w0 w→zaH [] w0.heap.size w.heap.size T→(True)→(fun w1=>oP (Instr.alloc 46 true (.tuple #[])) w fun x3 w=>
 Ext w1 w∧Q 9 (upd u1 3 x3) (zbM T 9 (w1.heap.size,w.heap.size)) w) w) ∧
 True)
 (fun Q=>∀ (u1:Env) (T:Nat→Nat×Nat) (w:World),Ext w0 w→zaH [0,1,2,3,4,5,6,7,8,9] w0.heap.size w.heap.size T→(Q 0 u1 T w∧Q 1 u1 T w∧Q 2 u1 T w∧Q 3 u1 T w∧Q 4 u1 T w∧Q 5 u1 T w∧Q 6 u1 T w∧Q 7 u1 T w∧Q 8 u1 T w∧Q 9 u1 T w∧True) →
 oS 46 (u1 3) (u1 13) w fun w=>
 rF 46 (u1 3) 1 w fun x14=>
 rL 33 x14 w fun x15=>
 rN 33 3 x15 w fun x16=>
 LOOPI [17] [(iV 0)] w fun u3 w next3=>
 rC (u3 17) x16 w fun x18=>
 BR x18
 (rF 46 (u1 3) 1 w fun x20=>
 rL 33 x20 w fun x21=>
 rX 33 x21 (u3 17) w fun x23=>
 oS 3 x23 (iV (-1)) w fun w=>
 rA (u3 17) (iV 1) w fun x24=>
 next3 [x24] w)
 ((fun w=>rF 36 x1 3 w fun x25=>
 rL 33 x25 w fun x26=>
 rF 36 x1 2 w fun x27=>
 rL 24 x27 w fun x28=>
 (fun w_=>cL 121 [x28,(Value.string (ByteArray.mk #[109,97,105,110]))] w_ fun x29 w=>
 Ext w_ w ∧
 rX 33 x26 x29 w fun x30=>
 rL 3 x30 w fun x31=>
 oP (Instr.buildSlice 33 1 #[(0,x31)]) w fun x32 w=>
 oP (Instr.buildSlice 44 1 #[(0,x32)]) w fun x33 w=>
 rF 46 (u1 3) 2 w fun x34=>
 oS 44 x34 x33 w fun w=>
 rL 46 (u1 3) w fun x35=>
 oS 46 x2 x35 w fun w=>
 rD (zax 46 x2) w fun r2=>R r2 w) w) (World.drew1 w)))) (World.drew1 w)
def cfg53:Cfg:=⟨extL,[],[(3,33423376,[17])],[(7,[0,1,2,3,4,5,6,7,8,9,10],16)],[(1,16360,10)],[],[]⟩
theorem F53_call {a0:Value} {w:World} {R:VW} (h:F53 a0 w R):cL 53 [a0] w R:=co (g:=cfg53) Tryz.func53 (by kernel_rfl) (by kernel_rfl) (by kernel_rfl) h
def F27 (a0:Value) (w:World) (R:VW):Prop:=
 oP (Instr.box 36 a0) w fun x1 w=>
 oP (Instr.alloc 46 true (.tuple #[])) w fun x2 w=>
 rL 36 x1 w fun x3=>
 cL 52 [x3] w fun x4 w=>
 rD (Op.unary .not x4) w fun x5=>
 BR x5
 (rD (Instr.build 46 #[]) w fun x6=>
 oS 46 x2 x6 w fun w=>
 rD (zax 46 x2) w fun r2=>R r2 w)
 (rL 36 x1 w fun x7=>
 cL 53 [x7] w fun x8 w=>
 oS 46 x2 x8 w fun w=>
 rD (zax 46 x2) w fun r2=>R r2 w)
def zds (c:DCode):DState:=⟨List.replicate c.globals.length 0,List.replicate c.locks.length (-1),[[en c (plc zgd c.procs).toNat]]⟩
def zfi (c:DCode):DState:=if CodeR c then zds c else ⟨[],[],[]⟩
theorem zlI:zbU Tryz.prog 3=some [.int .i64 0]:=by kernel_rfl
theorem zkA {c:DCode} (hc:CodeR c):0≤plc zgd c.procs∧(plc zgd c.procs).toNat<c.entry.length:=by
 have h1:=zeV.2 hc.1.2.2.2.2.2.2
 have h2:=zoa (s:=zgd) (l:=c.procs)
 have h3:=hc.2.1.1
 omega
theorem zol {lo hi:Nat} {w:World}:OwnI lo hi w (.agg #[.slice none 0 0,.slice none 0 0,.slice none 0 0]) (⟨[],[],[]⟩:DState):=
 (zdb (s:=⟨[],[],[]⟩) (lo:=lo) (hi:=lo) (l0:=lo) (h0:=lo) (l1:=lo) (h1:=lo) (l2:=lo) (h2:=lo) (zb6 none) (zb6 none) (zb6 none) (by omega) (by omega) (by omega) (by omega) (by omega) (by omega)).elim fun F h=>⟨F,h.1,fun b hb=>by have:=h.2 b hb;omega⟩
def F123 (a0:Value) (w:World) (R:VW):Prop:=
 oP (Instr.box 36 a0) w fun x1 w=>
 rF 36 x1 2 w fun x3=>
 rL 24 x3 w fun x4=>
 cL 193 [x4,(Value.string (ByteArray.mk #[109,97,105,110]))] w fun x5 w=>
 R x5 w
def cfg123:Cfg:=⟨extL,[],[],[],[],[],[]⟩
theorem F123_call {a0:Value} {w:World} {R:VW} (h:F123 a0 w R):cL 123 [a0] w R:=co (g:=cfg123) Tryz.func123 (by kernel_rfl) (by kernel_rfl) (by kernel_rfl) h
theorem zpi {w:World} {v0:Value} {W0:World} {c:DCode}  (h0:Is W0 v0 c) (e0:Ext W0 w)  :
   CALL Tryz.prog 123 [v0] w fun r w'=>Ext w w'∧(r=.int .i64 (plc zgd c.procs)):=by
 refine F123_call ?_
 unfold F123
 refine zaz zdW rfl h0 e0 fun w1_ hx1_ hA1 hV1=>?_
 refine zaa zcC ?_
 refine zab zcQ (zaW hA1) (Ext.refl w1_) fun v4 h4=>?_
 refine (zdj h4 (Ext.refl w1_)).mono ?_
 rintro _ w2_ ⟨hx2_,rfl⟩
 refine ⟨(hx1_.trans hx2_),?_⟩
 rfl
theorem zjo {w W:World} {v:Value} {c:DCode} (h:Is W v c) (e:Ext W w) (hw:zlB c≤1048576) :
   CALL Tryz.prog 56 [v] w fun r w'=>Ext w w'∧Own w.heap.size w' r (zfi c):=by
 refine F56_call ?_
 unfold F56
 refine zcz h e fun w1 hx1 hA=>?_
 refine zbD zpX fun w2 hx2 hB2=>?_
 have hg2:=hB2.lt
 have hs1:=hx1.size
 refine zab zdW hA hx2 fun v5 h5=>?_
 refine (zgH h5 hx2).mono ?_
 rintro _ w3 ⟨hx3,rfl⟩
 have hs3:=hx3.size
 refine zaS ?_
 refine br (fun hn=>?_) (fun hc=>?_)
 · refine zaT (cells:=#[.slice none 0 0,.slice none 0 0,.slice none 0 0]) (by kernel_rfl) ?_
   refine zbR (lo:=w3.heap.size) (hi:=w3.heap.size) zck rfl (hB2.ext hx3) rfl zol fun w4 hc4 hB4=>?_
   refine zep hB4 zck ?_
   refine ⟨Ext.chgI (hx1.trans (hx2.trans hx3)) hc4 (by omega),?_⟩
   unfold zfi
   rw [if_neg hn]
   exact (zol (lo:=w4.heap.size) (hi:=w4.heap.size)).own.mono (by have:=hc4.size;omega)
 have hc:=Decidable.not_not.1 hc
 have hsz:c.globals.length≤1048576∧c.locks.length≤1048576:=by unfold zlB zqq at hw;omega
 refine zaa zc5 ?_
 refine zab zcQ (za9 hA) (hx2.trans hx3) fun v10 h10=>?_
 refine zae u24 h10 ?_
 refine zfE (α:=Int) u33 ty3 rfl rfl zlI (by omega) (by omega) fun w4 hx4 r12=>?_
 have hs4:=hx4.size
 refine zaT (cells:=#[.slice (some ⟨w3.heap.size,0,none⟩) c.globals.length c.globals.length,.slice none 0 0,.slice none 0 0]) (by kernel_rfl) ?_
 refine zbD zpX fun w5 hx5 hB5=>?_
 have hg5:=hB5.lt
 have hs5:=hx5.size
 have o12:=(r12.own.ext hx5)
 refine zbR (x:=(⟨List.replicate c.globals.length 0,[],[]⟩:DState)) (lo:=w3.heap.size) (hi:=w4.heap.size) zck rfl hB5 rfl
   (zdb (l0:=w3.heap.size) (h0:=w4.heap.size) (l1:=w4.heap.size) (h1:=w4.heap.size) (l2:=w4.heap.size) (h2:=w4.heap.size) o12 (zb6 none) (zb6 none) (by omega) (by omega) (by omega) (by omega) (by omega) (by omega)) fun w6 hc6 hB6=>?_
 have hs6:=hc6.size
 have r12':=(r12.ext hx5).chg hc6 (by omega)
 have hx16:Ext w1 w6:=Ext.chgI (hx2.trans (hx3.trans (hx4.trans hx5))) hc6 (by omega)
 refine zaB c.locks.length (fun k us w'=>us=[.int .i64 (k:Int)]∧∃ v1 hi,hi≤w'.heap.size∧w6.heap.size≤w'.heap.size∧Ext w1 w'∧Blk w4.heap.size 46 w' [.slice (some ⟨w3.heap.size,0,none⟩) c.globals.length c.globals.length,v1,.slice none 0 0] ∧
   RowI w3.heap.size w4.heap.size 3 w' (.slice (some ⟨w3.heap.size,0,none⟩) c.globals.length c.globals.length) (List.replicate c.globals.length 0)∧RowI w6.heap.size hi 3 w' v1 (List.replicate k (-1))∧Blk w1.heap.size 46 w' [.slice none 0 0,.slice none 0 0,.slice none 0 0]) 0 (Nat.zero_le _)
   ⟨rfl,.slice none 0 0,w6.heap.size,Nat.le_refl _,Nat.le_refl _,hx16,hB6,r12',zbE _ _ _ _,((hB2.ext hx3).ext (hx4.trans hx5)).chgI hc6 (by omega)⟩ ?_
 rintro k m u w7 hkm ⟨hu,v1,hi,hhi,hs7,hx7,hB7,o7,r7,hB27⟩
 simp only [List.map_cons,List.map_nil,List.cons.injEq,and_true] at hu
 rw [hu]
 refine zaa ze5 ?_
 refine zab zcQ (zca hA) hx7 fun v16 h16=>?_
 refine zae u24 h16 ?_
 refine zai ?_
 refine br (fun hlt=>?_) (fun hge=>?_)
 · refine zaa zdp ?_
   refine zaA za1 hB7 rfl ?_
   refine zcI (α:=Int) (lo2:=w7.heap.size) (hi2:=w7.heap.size) u33 ty3 z3 zc3 (by decide) r7 (by omega) (ownI_int (by unfold I64;omega)) (by omega) (by omega) (by rw [zam,List.length_replicate];omega) (by rw [List.length_replicate];omega) fun v24 w8 hc8 r8=>?_
   have hs8:=hc8.size
   refine zaa zdp ?_
   refine zb0 (α:=List Int) za1 rfl rfl (hB7.chgI hc8 (by omega)) (by simp) r8.own fun w9 hc9 hB9=>?_
   have hs9:=hc9.size
   refine zag (by omega) ?_
   refine ⟨m-1,by omega,k+1,by omega,rfl,v24,w8.heap.size,by omega,by omega,Ext.chgI (Ext.chgI hx7 hc8 (by omega)) hc9 (by omega),hB9,(o7.chg hc8 (by omega)).chg hc9 (by omega),?_,(hB27.chgI hc8 (by omega)).chgI hc9 (by omega)⟩
   have:=r8.chg hc9 (by omega)
   rwa [←List.replicate_succ'] at this
 have hk:k=c.locks.length:=by omega
 subst hk
 have hx8:=zak w7
 have hs8:=hx8.size
 refine zaa za6 ?_
 refine zaA zes (hB7.ext hx8) rfl ?_
 refine zaa za5 ?_
 refine zab za1 (zan hA) (hx7.trans hx8) fun v29 h29=>?_
 refine zab zdW hA (hx7.trans hx8) fun v30 h30=>?_
 refine (zpi h30 (hx7.trans hx8)).mono ?_
 rintro _ w9 ⟨hx9,rfl⟩
 have hs9:=hx9.size
 refine ⟨hx9,?_⟩
 obtain ⟨hp0,hp1⟩:=zkA hc
 refine zav u33 ty3 h29 hp0 hp1 fun b o hA2=>?_
 refine zac ty3 hA2 (hx7.trans (hx8.trans hx9)) fun hI=>?_
 refine zey (α:=Int) (lo:=w9.heap.size) (hi:=w9.heap.size) u33 ty3 z3 (by decide) (ownI_int hI) (by omega) fun v34 w10 hx10 o34=>?_
 have hs10:=hx10.size
 refine ⟨hx10,?_⟩
 refine zkn (α:=List Int) (lo:=w9.heap.size) (hi:=w9.heap.size) u44 za1 z33 zu8 (by decide) (zbE _ _ _ _) (by omega) o34 (by omega) (by omega) (by rw [zam];simp) (by simp) fun v36 w11 hc11 r36=>?_
 have hs11:=hc11.size
 have hB11:=((hB7.ext (hx8.trans (hx9.trans hx10)))).chgI hc11 (by omega)
 have o11:=((o7.ext (hx8.trans (hx9.trans hx10)))).chg hc11 (by omega)
 have r11:=((r7.ext (hx8.trans (hx9.trans hx10)))).chg hc11 (by omega)
 have hB211:=((hB27.ext (hx8.trans (hx9.trans hx10)))).chgI hc11 (by omega)
 refine zaa za6 ?_
 refine zb0 (α:=List (List Int)) zes rfl rfl hB11 (by simp) r36.own fun w12 hc12 hB12=>?_
 have hs12:=hc12.size
 refine ziI hB12 zck ?_
 have ost:OwnI w3.heap.size w11.heap.size w12 (.agg #[.slice (some ⟨w3.heap.size,0,none⟩) c.globals.length c.globals.length,v1,v36]) (zds c):=by
   refine zdb (l0:=w3.heap.size) (h0:=w4.heap.size) (l1:=w6.heap.size) (h1:=hi) (l2:=w9.heap.size) (h2:=w11.heap.size) (o11.chg hc12 (by omega)).own (r11.chg hc12 (by omega)).own ?_ (by omega) (by omega) (by omega) (by omega) (by omega) (by omega)
   have:=(r36.chg hc12 (by omega)).own
   rw [zbm] at this
   exact this
 refine zbR zck rfl (hB211.chgI hc12 (by omega)) rfl ost fun w13 hc13 hB13=>?_
 have hs13:=hc13.size
 refine zep hB13 zck ?_
 refine ⟨Ext.chgI (Ext.chgI (Ext.chgI (hx1.trans (hx7.trans (hx8.trans (hx9.trans hx10)))) hc11 (by omega)) hc12 (by omega)) hc13 (by omega),?_⟩
 unfold zfi
 rw [if_pos hc]
 exact (ost.chg hc13 (by omega)).own.mono (by omega)
def stQ (c:DCode) (g1:Nat) (w0:World):ParQ:=fun i u T w=>match i with
 | 0=>u 5=.pointer (some ⟨g1,0+0,none⟩)
 | 1=>Is w0 (u 6) c.globals
 | 2=>u 7=.int .i64 (c.globals.length:Int)
 | 3=>∃ a cap,u 8=.slice a c.globals.length cap∧RowI (T 3).1 (T 3).2 3 w (u 8) (List.replicate c.globals.length (0:Int))
 | 4=>u 9=.pointer (some ⟨g1,0+1,none⟩)
 | 5=>Is w0 (u 10) c.locks
 | 6=>u 11=.int .i64 (c.locks.length:Int)
 | 7=>∃ a cap,u 12=.slice a c.locks.length cap∧RowI (T 7).1 (T 7).2 3 w (u 12) (List.replicate c.locks.length (0:Int))
 | 8=>u 13=.agg #[u 8,u 12,.slice none 0 0]
 | 9=>∃ g,u 3=.pointer (some ⟨g,0,none⟩)∧(T 9).1≤g∧g<(T 9).2∧Blk g 46 w [.slice none 0 0,.slice none 0 0,.slice none 0 0]
 | _=>True
theorem zpj {w W:World} {v:Value} {c:DCode} (h:Is W v c) (e:Ext W w) (hw:zlB c≤1048576) (hc:CodeR c) :
   CALL Tryz.prog 53 [v] w fun r w'=>Ext w w'∧Own w.heap.size w' r (zds c):=by
 have hsz:c.globals.length≤1048576∧c.locks.length≤1048576:=by unfold zlB zqq at hw;omega
 refine F53_call ?_
 unfold F53
 refine zcz h e fun w1 hx1 hA=>?_
 refine zbD zpX fun w2 hx2 hB2=>?_
 have hg2:=hB2.lt
 have hs1:=hx1.size
 have hx3:=zak w2
 have hs3:=hx3.size
 refine PAR.mk (stQ c w.heap.size (World.drew1 w2)) ?_ ?_ ?_
 · intro i u u' T T' wa wb hxa hxb hd hq
   match i,hd,hq with
   | 0,hd,hq=>exact (hd (0,5) (by decide)).1.trans hq
   | 1,hd,hq=>have:=(hd (1,6) (by decide)).1;show Is _ (u' 6) _;simp only [this];exact hq
   | 2,hd,hq=>exact (hd (2,7) (by decide)).1.trans hq
   | 3,hd,⟨a,cap,q1,q2⟩=>
     obtain ⟨e1,e2⟩:=hd (3,8) (by decide)
     simp only at e1 e2
     refine ⟨a,cap,e1.trans q1,?_⟩
     simp only [e1,e2];exact q2.ext hxb
   | 4,hd,hq=>exact (hd (4,9) (by decide)).1.trans hq
   | 5,hd,hq=>have:=(hd (5,10) (by decide)).1;show Is _ (u' 10) _;simp only [this];exact hq
   | 6,hd,hq=>exact (hd (6,11) (by decide)).1.trans hq
   | 7,hd,⟨a,cap,q1,q2⟩=>
     obtain ⟨e1,e2⟩:=hd (7,12) (by decide)
     simp only at e1 e2
     refine ⟨a,cap,e1.trans q1,?_⟩
     simp only [e1,e2];exact q2.ext hxb
   | 8,hd,hq=>
     have e1:=(hd (8,13) (by decide)).1
     have e2:=(hd (3,8) (by decide)).1
     have e3:=(hd (7,12) (by decide)).1
     simp only at e1 e2 e3
     show u' 13=.agg #[u' 8,u' 12,.slice none 0 0]
     rw [e1,e2,e3];exact hq
   | 9,hd,⟨g,q1,q2,q3,q4⟩=>
     obtain ⟨e1,e2⟩:=hd (9,3) (by decide)
     simp only at e1 e2
     exact ⟨g,e1.trans q1,by rw [e2];exact q2,by rw [e2];exact q3,q4.ext hxb⟩
   | n+10,_,_=>trivial
 · refine ⟨fun u T w' hx _ _=>?_,fun u T w' hx _ hp=>?_,fun u T w' hx _ hp=>?_,fun u T w' hx _ hp=>?_,fun u T w' hx _ _=>?_,fun u T w' hx _ hp=>?_,fun u T w' hx _ hp=>?_,fun u T w' hx _ hp=>?_,fun u T w' hx _ hp=>?_,fun u T w' hx _ _=>?_,trivial⟩
   · exact zaa zc5 ⟨Ext.refl _,rfl⟩
   · have q0:u 5=_:=hp.1
     rw [q0]
     exact zab zcQ (za9 hA) (hx2.trans (hx3.trans hx)) fun v6 h6=>⟨Ext.refl _,(h6.ext (hx2.trans hx3))⟩
   · have q1:Is _ (u 6) c.globals:=hp.1
     exact zae u24 q1 ⟨Ext.refl _,rfl⟩
   · have q2:u 7=_:=hp.1
     rw [q2]
     exact zfE (α:=Int) u33 ty3 rfl rfl zlI (by omega) (by omega) fun w4 hx4 r=>⟨hx4,_,_,rfl,r⟩
   · exact zaa ze5 ⟨Ext.refl _,rfl⟩
   · have q0:u 9=_:=hp.1
     rw [q0]
     exact zab zcQ (zca hA) (hx2.trans (hx3.trans hx)) fun v6 h6=>⟨Ext.refl _,(h6.ext (hx2.trans hx3))⟩
   · have q1:Is _ (u 10) c.locks:=hp.1
     exact zae u24 q1 ⟨Ext.refl _,rfl⟩
   · have q2:u 11=_:=hp.1
     rw [q2]
     exact zfE (α:=Int) u33 ty3 rfl rfl zlI (by omega) (by omega) fun w4 hx4 r=>⟨hx4,_,_,rfl,r⟩
   · obtain ⟨a,cap,q1,_⟩:∃ a cap,u 8=.slice a c.globals.length cap∧_:=hp.1
     obtain ⟨a',cap',q1',_⟩:∃ a cap,u 12=.slice a c.locks.length cap∧_:=hp.2.1
     rw [q1,q1']
     refine zaT (cells:=#[.slice a c.globals.length cap,.slice a' c.locks.length cap',.slice none 0 0]) (by kernel_rfl) ⟨Ext.refl _,?_⟩
     show _=Value.agg #[u 8,u 12,.slice none 0 0]
     rw [q1,q1'];rfl
   exact zbD zpX fun w4 hx4 hB=>⟨hx4,w'.heap.size,rfl,Nat.le_refl _,hB.lt,hB⟩
 rintro u T w4 hx4 hap ⟨-,-,-,⟨a,cap,-,r8⟩,-,-,-,⟨a',cap',-,r12⟩,q13,⟨g,q3,hg0,hg1,hB3⟩,-⟩
 have q13:u 13=.agg #[u 8,u 12,.slice none 0 0]:=q13
 have t3:=hap.1 3 (by decide)
 have t7:=hap.1 7 (by decide)
 have t9:=hap.1 9 (by decide)
 have d37:=hap.2 3 (by decide) 7 (by decide) (by decide)
 have d39:=hap.2 3 (by decide) 9 (by decide) (by decide)
 have d79:=hap.2 7 (by decide) 9 (by decide) (by decide)
 generalize u 8=v8 at *
 generalize u 12=v12 at *
 have hs4:=hx4.size
 rw [q13,q3]
 refine zbR (x:=(⟨List.replicate c.globals.length 0,List.replicate c.locks.length 0,[]⟩:DState)) (lo:=0) (hi:=w4.heap.size) zck rfl hB3 rfl
   (zdb (l2:=0) (h2:=0) r8.own r12.own (zb6 none) (by omega) (by omega) (by omega) (by omega) (by omega) (by omega)) fun w5 hc5 hB5=>?_
 have hs5:=hc5.size
 have hx15:Ext w1 w5:=Ext.chgI (hx2.trans (hx3.trans hx4)) hc5 (by omega)
 have o8:=r8.own.chg hc5 (by omega)
 have o12:=r12.own.chg hc5 (by omega)
 have hB25:=((hB2.ext hx3).ext hx4).chgI hc5 (by omega)
 refine zaa zdp ?_
 refine zaA za1 hB5 rfl ?_
 refine zae u33 o12.is ?_
 rw [List.length_replicate]
 refine zaB c.locks.length (fun k us w'=>us=[.int .i64 (k:Int)]∧w5.heap.size≤w'.heap.size∧Ext w1 w'∧Blk g 46 w' [v8,v12,.slice none 0 0]∧OwnI (T 3).1 (T 3).2 w' v8 (List.replicate c.globals.length (0:Int)) ∧
   OwnI (T 7).1 (T 7).2 w' v12 (List.replicate k (-1)++List.replicate (c.locks.length-k) (0:Int))∧Blk w1.heap.size 46 w' [.slice none 0 0,.slice none 0 0,.slice none 0 0]) 0 (Nat.zero_le _)
   ⟨rfl,Nat.le_refl _,hx15,hB5,o8,by simpa using o12,hB25⟩ ?_
 rintro k m uu w7 hkm ⟨hu,hs7,hx7,hB7,o8,⟨F,hM,hF⟩,hB27⟩
 simp only [List.map_cons,List.map_nil,List.cons.injEq,and_true] at hu
 rw [hu]
 refine zai ?_
 refine br (fun hlt=>?_) (fun hge=>?_)
 · refine zaa zdp ?_
   refine zaA za1 hB7 rfl ?_
   refine zn0 (α:=Int) u33 ty3 hM (by simp;omega) (zbp (w:=w7) (x:=-1) (by unfold I64;omega)).own fun w8 hc8 hM8=>?_
   have hcI:=hc8.toI hF
   have hs8:=hc8.size
   refine zag (by omega) ?_
   refine ⟨m-1,by omega,k+1,by omega,rfl,by omega,Ext.chgI hx7 hcI (by omega),hB7.chgI hcI (by omega),o8.chg hcI (by omega),⟨F,?_,hF⟩,hB27.chgI hcI (by omega)⟩
   have:(List.replicate k (-1)++List.replicate (c.locks.length-k) (0:Int)).set k (-1)=List.replicate (k+1) (-1)++List.replicate (c.locks.length-(k+1)) 0:=by
     rw [show c.locks.length-k=(c.locks.length-(k+1))+1 by omega,List.replicate_succ (n:=c.locks.length-(k+1)),List.set_append_right _ _ (by simp),List.length_replicate,Nat.sub_self,List.set_cons_zero,List.replicate_succ' (n:=k)]
     simp
   rw [←this];exact hM8
 have hk:k=c.locks.length:=by omega
 subst hk
 have o12:OwnI (T 7).1 (T 7).2 w7 v12 (List.replicate c.locks.length (-1)):=⟨F,by simpa using hM,hF⟩
 clear hM
 have hx8:=zak w7
 have hs8:=hx8.size
 refine zaa za5 ?_
 refine zab za1 (zan hA) (hx7.trans hx8) fun v26 h26=>?_
 refine zaa zcC ?_
 refine zab zcQ (zaW hA) (hx7.trans hx8) fun v28 h28=>?_
 refine (zd2 h28 (hx7.trans hx8)).mono ?_
 rintro _ w9 ⟨hx9,rfl⟩
 have hs9:=hx9.size
 refine ⟨hx9,?_⟩
 obtain ⟨hp0,hp1⟩:0≤plc (ByteArray.mk #[109,97,105,110]) c.procs∧(plc (ByteArray.mk #[109,97,105,110]) c.procs).toNat<c.entry.length:=zkA hc
 refine zav u33 ty3 h26 hp0 hp1 fun b o hA2=>?_
 refine zac ty3 hA2 (hx7.trans (hx8.trans hx9)) fun hI=>?_
 refine zey (α:=Int) (lo:=w9.heap.size) (hi:=w9.heap.size) u33 ty3 z3 (by decide) (ownI_int hI) (by omega) fun v32 w10 hx10 o32=>?_
 have hs10:=hx10.size
 refine zey (α:=List Int) u44 za1 z33 (by decide) o32 (by omega) fun v33 w11 hx11 o33=>?_
 have hs11:=hx11.size
 have hx711:=hx8.trans (hx9.trans (hx10.trans hx11))
 refine zaa za6 ?_
 refine zb0 (α:=List (List Int)) zes rfl rfl (hB7.ext hx711) (by simp) o33 fun w12 hc12 hB12=>?_
 have hs12:=hc12.size
 refine ziI hB12 zck ?_
 have ost:OwnI w2.heap.size w11.heap.size w12 (.agg #[v8,v12,v33]) (zds c):=by
   refine zdb (l2:=w9.heap.size) (h2:=w11.heap.size) ((o8.ext hx711).chg hc12 (by omega)) ((o12.ext hx711).chg hc12 (by omega)) ?_ (by omega) (by omega) (by omega) (by omega) (by omega) (by omega)
   have:=(o33.chg hc12 (by omega))
   rw [zbm] at this
   exact this
 refine zbR zck rfl ((hB27.ext hx711).chgI hc12 (by omega)) rfl ost fun w13 hc13 hB13=>?_
 have hs13:=hc13.size
 refine zep hB13 zck ?_
 refine ⟨Ext.chgI (Ext.chgI (hx1.trans (hx7.trans hx711)) hc12 (by omega)) hc13 (by omega),?_⟩
 exact (ost.chg hc13 (by omega)).own.mono (by omega)
theorem zeW {α:Type} {l:List α} {i:Nat} {x y:α} (h:y∈l.set i x):y=x∨y∈l:=by
 rcases List.mem_or_eq_of_mem_set h with h | h
 · exact .inr h
 exact .inl h
theorem ziL {c:DCode} (hc:CodeR c):zbQ c (zds c):=by
 obtain ⟨hp0,hp1⟩:=zkA hc
 have hl:=hc.f.lt _ hp1
 have h0:=hc.f.nonneg hp1
 refine ⟨by simp [zds],by simp [zds],by simp [zds],fun v hv=>?_,fun o ho=>?_,fun l hl'=>?_⟩
 · have:=List.eq_of_mem_replicate hv;omega
 · have:=List.eq_of_mem_replicate ho;simp only [zds,List.length_cons,List.length_nil];omega
 simp only [zds,List.mem_cons,List.not_mem_nil,or_false] at hl'
 subst hl'
 refine ⟨by simp,fun i hi=>?_,fun i hi=>by simp at hi⟩
 have:i=0:=by simp at hi;omega
 subst this
 simp only [st,List.getD_cons_zero]
 omega
theorem zvh {l:List Int} {i j:Nat} {x:Int} (hi:i<l.length):st (l.set i x) j=if i=j then x else st l j:=by
 unfold st
 rw [List.getD_eq_getElem?_getD,List.getD_eq_getElem?_getD,List.getElem?_set]
 by_cases h:i=j
 · subst h;simp [hi]
 simp [h]
theorem zkB {l:List Int} {k j:Nat} (hj:j<k):st (l.take k) j=st l j:=by
 unfold st
 rw [List.getD_eq_getElem?_getD,List.getD_eq_getElem?_getD,List.getElem?_take,if_pos hj]
theorem zna {l:List Int} {j:Nat} {x:Int}:st (l++[x]) j=if j=l.length then x else st l j:=by
 unfold st
 rw [List.getD_eq_getElem?_getD,List.getD_eq_getElem?_getD,List.getElem?_append]
 by_cases h:j<l.length
 · rw [if_pos h,if_neg (by omega)]
 by_cases h2:j=l.length
 · subst h2;simp
 rw [if_neg h,if_neg h2,List.getElem?_eq_none (by simp;omega),List.getElem?_eq_none (by omega)]
theorem ziM {c:DCode} (hc:CodeR c) {a:Int} (h0:0≤a) (h1:a<c.ins.length) (ho:(zap c a.toNat).op≠9):a+1<c.ins.length∧zar c (a+1)=zar c a:=by
 obtain ⟨i,hi,h2,h3,h4⟩:=hc.f.find hc.1.procs8.2 h0 h1
 have h5:=(hc.2.1.2.2.2 a.toNat (by omega))
 rw [Int.toNat_of_nonneg h0,h4,zcV] at h5
 have h6:zdl c i-1≠a:=fun e=>ho (h5.2 e)
 have h7:=(hc.f.lt i hi).2
 exact ⟨by omega,by rw [h4];exact hc.f.proc hi (by omega) (by omega)⟩
theorem zkC {c:DCode} (hc:CodeR c) {a:Int} (h0:0≤a) (h1:a<c.ins.length) (ho:(zap c a.toNat).op=2∨(zap c a.toNat).op=3) :
   0≤(zap c a.toNat).to∧(zap c a.toNat).to<c.ins.length∧zar c (zap c a.toNat).to=zar c a:=by
 obtain ⟨i,hi,h2,h3,h4⟩:=hc.f.find hc.1.procs8.2 h0 h1
 have h5:=(zgJ hc (j:=a.toNat) (by omega)).2.2.2
 rw [if_pos ho,Int.toNat_of_nonneg h0,h4,zcV,Int.toNat_natCast] at h5
 have h6:=hc.f.nonneg hi
 have h7:=(hc.f.lt i hi).2
 exact ⟨by omega,by omega,by rw [h4];exact hc.f.proc hi h5.1 (by omega)⟩
theorem znb {c:DCode} (hc:CodeR c) {i:Nat} (hi:i<c.entry.length):0≤en c i∧en c i<c.ins.length∧zar c (en c i)=i:=by
 have h6:=hc.f.nonneg hi
 have h7:=hc.f.lt i hi
 exact ⟨h6,by omega,hc.f.proc hi (Int.le_refl _) h7.1⟩
theorem zpk (c:DCode):zeh c []:=⟨by simp,fun i hi=>by simp at hi,fun i hi=>by simp at hi⟩
theorem zpl {c:DCode} {n:Int} (h0:0≤n) (h1:n<c.ins.length):zeh c [n]:=by
 refine ⟨by simp,fun i hi=>?_,fun i hi=>by simp at hi⟩
 have:i=0:=by simp at hi;omega
 subst this
 exact ⟨h0,h1⟩
theorem zjK {c:DCode} {l:List Int} {n:Int} (h:zeh c l) (hl:0<l.length) (h0:0≤n) (h1:n<c.ins.length) (hp:zar c n=zar c (st l (l.length-1))):zeh c (l.set (l.length-1) n):=by
 have hs:∀ j,st (l.set (l.length-1) n) j=if l.length-1=j then n else st l j:=fun j=>zvh (by omega)
 refine ⟨by rw [List.length_set];exact h.1,fun i hi=>?_,fun i hi=>?_⟩
 · rw [List.length_set] at hi
   rw [hs]
   split
   · exact ⟨h0,h1⟩
   exact h.2.1 i hi
 rw [List.length_set] at hi
 have h2:=h.2.2 i hi
 rw [hs i,if_neg (by omega)]
 refine ⟨h2.1,?_⟩
 rw [hs (i+1)]
 split
 · rename_i he
   rw [hp,he];exact h2.2
 exact h2.2
theorem znc {c:DCode} {l:List Int} {n:Int} (h:zeh c l) (hl:l.length<8) (h0:0≤n) (h1:n<c.ins.length) (hp:0<l.length→(zap c (st l (l.length-1)).toNat).op=4∧zar c n=(zap c (st l (l.length-1)).toNat).arg):zeh c (l++[n]):=by
 refine ⟨by simp;omega,fun i hi=>?_,fun i hi=>?_⟩
 · rw [zna]
   split
   · exact ⟨h0,h1⟩
   exact h.2.1 i (by simp at hi;omega)
 simp only [List.length_append,List.length_cons,List.length_nil] at hi
 rw [zna,zna,if_neg (by omega)]
 by_cases e:i+1=l.length
 · rw [if_pos e]
   have:i=l.length-1:=by omega
   subst this
   exact hp (by omega)
 rw [if_neg e]
 exact h.2.2 i (by omega)
theorem znd {c:DCode} {l:List Int} (h:zeh c l) (k:Nat):zeh c (l.take k):=by
 refine ⟨by rw [List.length_take];have:=h.1;omega,fun i hi=>?_,fun i hi=>?_⟩
 · rw [List.length_take] at hi
   rw [zkB (by omega)]
   exact h.2.1 i (by omega)
 rw [List.length_take] at hi
 rw [zkB (by omega),zkB (by omega)]
 exact h.2.2 i (by omega)
theorem zpm {c:DCode} (hc:CodeR c) {l:List Int} (h:zeh c l) (hl:0<l.length):zeh c (ziK l):=by
 unfold ziK
 split
 · exact zpk c
 rename_i h1
 have h2:=h.2.2 (l.length-2) (by omega)
 have h3:=h.2.1 (l.length-2) (by omega)
 obtain ⟨h4,h5⟩:=ziM hc h3.1 h3.2 (by omega)
 have h6:=zjK (n:=st l (l.length-2)+1) (znd h (l.length-1)) (by rw [List.length_take];omega) (by omega) h4 (by
   rw [List.length_take,zkB (by omega),h5]
   congr 2
   omega)
 rw [List.length_take] at h6
 rw [show min (l.length-1) l.length-1=l.length-2 by omega] at h6
 exact h6
theorem zhl {c:DCode} {s:DState} (hs:zbQ c s) {k:Nat} {l:List Int} (hl:zeh c l):zbQ c ⟨s.vars,s.owner,s.stacks.set k l⟩:=by
 refine ⟨hs.1,hs.2.1,by simp only [List.length_set];exact hs.2.2.1,hs.2.2.2.1,by simp only [List.length_set];exact hs.2.2.2.2.1,fun x hx=>?_⟩
 rcases zeW hx with rfl | hx
 · exact hl
 exact hs.2.2.2.2.2 x hx
theorem zlJ {c:DCode} {s:DState} {t:Int} (hc:CodeR c) (hs:zbQ c s) (hgo:GoR c s t):zbQ c (zaV c s t):=by
 have hth:=zff hgo.1
 unfold zaV
 split
 · refine ⟨by simp only [List.length_set];exact hs.1,hs.2.1,hs.2.2.1,fun v hv=>?_,hs.2.2.2.2.1,hs.2.2.2.2.2⟩
   rcases zeW hv with rfl | hv
   · exact zcJ _ _ _ _
   exact hs.2.2.2.1 v hv
 split
 · split
   · rename_i h1 h5 h6
     have hp:=zfH hc hs hgo.1 (.inr h5)
     refine ⟨hs.1,hs.2.1,by simp only [List.length_append,List.length_cons,List.length_nil];omega,hs.2.2.2.1,fun o ho=>?_,fun x hx=>?_⟩
     · have:=hs.2.2.2.2.1 o ho
       simp only [List.length_append,List.length_cons,List.length_nil];omega
     rcases List.mem_append.1 hx with hx | hx
     · exact hs.2.2.2.2.2 x hx
     simp only [List.mem_cons,List.not_mem_nil,or_false] at hx
     subst hx
     obtain ⟨h7,h8,_⟩:=znb hc hp.2
     exact zpl h7 h8
   exact hs
 split
 · refine ⟨hs.1,by simp only [List.length_set];exact hs.2.1,hs.2.2.1,hs.2.2.2.1,fun o ho=>?_,hs.2.2.2.2.2⟩
   rcases zeW ho with rfl | ho
   · simp only;omega
   exact hs.2.2.2.2.1 o ho
 split
 · split
   · refine ⟨hs.1,by simp only [List.length_set];exact hs.2.1,hs.2.2.1,hs.2.2.2.1,fun o ho=>?_,hs.2.2.2.2.2⟩
     rcases zeW ho with rfl | ho
     · simp only;omega
     exact hs.2.2.2.2.1 o ho
   exact hs
 exact hs
theorem zjL {c:DCode} {s:DState} {t:Int} (hc:CodeR c) (hs:zbQ c s) (hgo:GoR c s t):zbQ c (zec c s t):=by
 have hth:=zff hgo.1
 obtain ⟨tn,rfl,htn,hne,hl8,hat⟩:=zky hs hgo.1
 have hpos:=List.length_pos_iff.2 hne
 have hk:=hs.2.2.2.2.2 (stk s tn) (by rw [←zeo (by omega)];exact List.getElem_mem _)
 have hlt:=zm4 hs tn
 unfold zec
 split
 · rename_i h4
   have hp:=zfH hc hs hgo.1 (.inl h4)
   obtain ⟨h7,h8,h9⟩:=znb hc hp.2
   have h10:=hgo.2.2 h4
   refine zhl hs (znc hk (by omega) h7 h8 fun _=>?_)
   rw [←hat]
   refine ⟨h4,?_⟩
   rw [h9]
   have:=hp.1
   unfold atI at this ⊢
   omega
 split
 · exact zhl hs (zpm hc hk hpos)
 rename_i h4 h9
 have hn:=ziM hc hgo.1 hlt.2 h9
 have key:0≤zcE c s tn∧zcE c s tn<c.ins.length∧zar c (zcE c s tn)=zar c (zeb s tn):=by
   unfold zcE
   have hnx:0≤zeb s tn+1∧zeb s tn+1<c.ins.length∧zar c (zeb s tn+1)=zar c (zeb s tn):=⟨by have:=hgo.1;omega,hn.1,hn.2⟩
   split
   · rename_i h2
     split
     · exact zkC hc hgo.1 hlt.2 (.inl h2)
     exact hnx
   split
   · rename_i h3
     exact zkC hc hgo.1 hlt.2 (.inr h3)
   exact hnx
 refine zhl (zlJ hc hs hgo) (zjK hk hpos key.1 key.2.1 ?_)
 rw [key.2.2,hat]
end Go.Proofs.YtcnglfeoglgebaaGreat
namespace Go.Sh
def zbA (l:List Nat):List Int:=l.map fun x:Nat=>(x:Int)
theorem zaj (l:List Nat):(zbA l).length=l.length:=by simp [zbA]
theorem zbq {l:List Nat} {i:Nat} (h:i<(zbA l).length):(zbA l)[i]=((l[i]'(by rw [←zaj];exact h):Nat):Int):=by simp [zbA]
theorem zd5 (l m:List Nat):zbA (l++m)=zbA l++zbA m:=by simp [zbA]
theorem zqG (l:List Nat) (k:Nat):zbA (l.take k)=(zbA l).take k:=by simp [zbA]
def mkd (ms:List Bool) (i:Nat):Prop:=ms.getD i false=true
theorem zdA {ms:List Bool} {i:Nat} (h:i<ms.length):mkd ms i↔ms[i]=true:=by
 unfold mkd;rw [List.getD_eq_getElem?_getD,List.getElem?_eq_getElem h];rfl
theorem zom {ms:List Bool} {i:Nat} (h:mkd ms i):i<ms.length:=by
 rcases Nat.lt_or_ge i ms.length with h' | h'
 · exact h'
 unfold mkd at h;rw [List.getD_eq_getElem?_getD,List.getElem?_eq_none h'] at h;cases h
theorem zfj {ms:List Bool} {i j:Nat} (hi:i<ms.length):mkd (ms.set i true) j↔mkd ms j∨j=i:=by
 unfold mkd
 rw [List.getD_eq_getElem?_getD,List.getD_eq_getElem?_getD,List.getElem?_set]
 by_cases h:i=j
 · subst h;simp [hi]
 have:¬j=i:=fun e=>h e.symm
 simp [h,this]
theorem zdL {n i:Nat}:¬mkd (List.replicate n false) i:=by
 unfold mkd
 rw [List.getD_eq_getElem?_getD,List.getElem?_replicate]
 split<;>simp
theorem zqH {ms ns:List Bool} (hl:ms.length=ns.length) (h:∀ i,i<ms.length→(mkd ms i↔mkd ns i)):ms=ns:=by
 refine List.ext_getElem hl fun i h1 h2=>?_
 have:=h i h1
 rw [zdA h1,zdA h2] at this
 cases e1:ms[i]<;>cases e2:ns[i]<;>simp_all
def zon (ms:List Bool):Nat:=ms.count true
theorem zkD (ms:List Bool):zon ms≤ms.length:=List.count_le_length
theorem zkE:∀ {ms:List Bool} {i:Nat},i<ms.length→¬mkd ms i→zon (ms.set i true)=zon ms+1
 | b :: ms,0,_,h=>by
   have:b=false:=by cases b<;>simp_all [mkd]
   subst this
   simp [zon]
 | b :: ms,i+1,hi,h=>by
   have ih:=zkE (ms:=ms) (i:=i) (by simpa using hi) (by simpa [mkd] using h)
   simp only [zon,List.set_cons_succ,List.count_cons] at ih ⊢
   omega
inductive RP (nx:Nat→List Nat) (a:Nat):Nat→Prop
 | one {b:Nat} (h:b∈nx a):RP nx a b
 | more {b d:Nat} (h:RP nx a b) (k:d∈nx b):RP nx a d
theorem RP.trans {nx:Nat→List Nat} {a b d:Nat} (h:RP nx a b) (k:RP nx b d):RP nx a d:=by
 induction k with
 | one h1=>exact .more h h1
 | more _ h2 ih=>exact .more ih h2
theorem RP.keeps {nx:Nat→List Nat} {p:Nat→Prop} {a b:Nat} (h:RP nx a b) (ha:p a) (hp:∀ i j,p i→j∈nx i→p j):p b:=by
 induction h with
 | one h=>exact hp _ _ ha h
 | more _ h ih=>exact hp _ _ ih h
structure SInv (nx:Nat→List Nat) (n a:Nat) (M0 ms:List Bool) (td:List Nat) (k:Nat):Prop where
 len:ms.length=n
 sub:∀ i,mkd M0 i→mkd ms i
 src:∀ i,mkd ms i→mkd M0 i∨RP nx a i
 tdo:∀ i∈td,(i=a∨RP nx a i)∧i<n
 clo:∀ i,(i=a∨(mkd ms i∧¬mkd M0 i))→i∈td∨∀ j∈nx i,mkd ms j
 cnt:td.length+k+zon M0=1+zon ms
structure SIn2 (nx:Nat→List Nat) (n a:Nat) (M0 ms:List Bool) (td:List Nat) (k x q:Nat):Prop where
 len:ms.length=n
 sub:∀ i,mkd M0 i→mkd ms i
 src:∀ i,mkd ms i→mkd M0 i∨RP nx a i
 tdo:∀ i∈td,(i=a∨RP nx a i)∧i<n
 clo:∀ i,(i=a∨(mkd ms i∧¬mkd M0 i))→i∈td∨(i=x∧∀ j∈(nx x).take q,mkd ms j)∨∀ j∈nx i,mkd ms j
 cnt:td.length+k+1+zon M0=1+zon ms
 met:x=a∨RP nx a x
section
variable {nx:Nat→List Nat} {n a k x q:Nat} {M0 ms:List Bool} {td td':List Nat}
theorem SInv.start (hl:M0.length=n) (ha:a<n):SInv nx n a M0 M0 [a] 0:=
 ⟨hl,fun _ h=>h,fun _ h=>.inl h,fun i hi=>by simp only [List.mem_cons,List.not_mem_nil,or_false] at hi;exact ⟨.inl hi,hi▸ha⟩,fun i hi=>by
   rcases hi with rfl | ⟨h1,h2⟩
   · exact .inl (by simp)
   exact absurd h1 h2,by simp⟩
theorem SInv.bound (h:SInv nx n a M0 ms td k):td.length+k≤1+n:=by
 have h1:=h.cnt
 have h2:=zkD ms
 rw [h.len] at h2
 omega
theorem SInv.pop (h:SInv nx n a M0 ms td k) (hm:∀ i,i∈td↔i∈td'∨i=x) (hl:td.length=td'.length+1):SIn2 nx n a M0 ms td' k x 0:=
 ⟨h.len,h.sub,h.src,fun i hi=>h.tdo i ((hm i).2 (.inl hi)),fun i hi=>by
   rcases h.clo i hi with h1 | h1
   · rcases (hm i).1 h1 with h1 | rfl
     · exact .inl h1
     exact .inr (.inl ⟨rfl,by simp⟩)
   exact .inr (.inr h1),by have:=h.cnt;omega,(h.tdo x ((hm x).2 (.inr rfl))).1⟩
theorem SIn2.skip (h:SIn2 nx n a M0 ms td k x q) (hq:q<(nx x).length) (hmk:mkd ms (nx x)[q]):SIn2 nx n a M0 ms td k x (q+1):=
 ⟨h.len,h.sub,h.src,h.tdo,fun i hi=>by
   rcases h.clo i hi with h1 | ⟨rfl,h1⟩ | h1
   · exact .inl h1
   · refine .inr (.inl ⟨rfl,fun j hj=>?_⟩)
     rw [List.take_succ_eq_append_getElem hq] at hj
     rcases List.mem_append.1 hj with hj | hj
     · exact h1 j hj
     simp only [List.mem_cons,List.not_mem_nil,or_false] at hj
     rw [hj];exact hmk
   exact .inr (.inr h1),h.cnt,h.met⟩
theorem SIn2.push (h:SIn2 nx n a M0 ms td k x q) (hq:q<(nx x).length) (hn:(nx x)[q]<n) (hmk:¬mkd ms (nx x)[q]):SIn2 nx n a M0 (ms.set (nx x)[q] true) (td++[(nx x)[q]]) k x (q+1):=by
 have hs:=fun j=>zfj (ms:=ms) (i:=(nx x)[q]) (j:=j) (by rw [h.len];exact hn)
 have hr:RP nx a (nx x)[q]:=by
   rcases h.met with e | e
   · exact .one (e▸List.getElem_mem hq)
   exact .more e (List.getElem_mem hq)
 refine ⟨by simp [h.len],fun i hi=>(hs i).2 (.inl (h.sub i hi)),fun i hi=>?_,fun i hi=>?_,fun i hi=>?_,?_,h.met⟩
 · rcases (hs i).1 hi with h1 | h1
   · exact h.src i h1
   exact .inr (h1▸hr)
 · rcases List.mem_append.1 hi with h1 | h1
   · exact h.tdo i h1
   simp only [List.mem_cons,List.not_mem_nil,or_false] at h1
   exact ⟨.inr (h1▸hr),h1▸hn⟩
 · have hi':i=(nx x)[q]∨(i=a∨(mkd ms i∧¬mkd M0 i)):=by
     rcases hi with h1 | ⟨h1,h2⟩
     · exact .inr (.inl h1)
     rcases (hs i).1 h1 with h1 | h1
     · exact .inr (.inr ⟨h1,h2⟩)
     exact .inl h1
   rcases hi' with h1 | h1
   · exact .inl (List.mem_append_right _ (by simp [h1]))
   rcases h.clo i h1 with h1 | ⟨rfl,h1⟩ | h1
   · exact .inl (List.mem_append_left _ h1)
   · refine .inr (.inl ⟨rfl,fun j hj=>?_⟩)
     rw [List.take_succ_eq_append_getElem hq] at hj
     rcases List.mem_append.1 hj with hj | hj
     · exact (hs j).2 (.inl (h1 j hj))
     simp only [List.mem_cons,List.not_mem_nil,or_false] at hj
     exact (hs j).2 (.inr hj)
   exact .inr (.inr fun j hj=>(hs j).2 (.inl (h1 j hj)))
 have:=h.cnt
 rw [zkE (by rw [h.len];exact hn) hmk,List.length_append]
 simp only [List.length_cons,List.length_nil]
 omega
theorem SIn2.done (h:SIn2 nx n a M0 ms td k x q) (hq:(nx x).length≤q):SInv nx n a M0 ms td (k+1):=
 ⟨h.len,h.sub,h.src,h.tdo,fun i hi=>by
   rcases h.clo i hi with h1 | ⟨rfl,h1⟩ | h1
   · exact .inl h1
   · rw [List.take_of_length_le hq] at h1;exact .inr h1
   exact .inr h1,by have:=h.cnt;omega⟩
theorem SInv.fin (h:SInv nx n a M0 ms [] k) (hc:∀ i,mkd M0 i→i≠a→∀ j∈nx i,mkd M0 j) (i:Nat):mkd ms i↔mkd M0 i∨RP nx a i:=by
 refine ⟨h.src i,fun hi=>?_⟩
 rcases hi with hi | hi
 · exact h.sub i hi
 have hcl:∀ b,(b=a∨mkd ms b)→∀ j∈nx b,mkd ms j:=fun b hb=>by
   by_cases hba:b=a
   · rcases h.clo b (.inl hba) with h1 | h1
     · cases h1
     exact h1
   have hb:=hb.resolve_left hba
   by_cases hm:mkd M0 b
   · exact fun j hj=>h.sub j (hc b hm hba j hj)
   rcases h.clo b (.inr ⟨hb,hm⟩) with h1 | h1
   · cases h1
   exact h1
 induction hi with
 | one h1=>exact hcl a (.inl rfl) _ h1
 | more _ h2 ih=>exact hcl _ (.inr ih) _ h2
end
noncomputable def zgP (n:Nat) (p:Nat→Prop):List Bool:=(List.range n).map fun i=>@decide (p i) (Classical.propDecidable _)
noncomputable def zcr (n:Nat) (p:Nat→Prop):List Nat:=(List.range n).filter fun i=>@decide (p i) (Classical.propDecidable _)
noncomputable def zg9 (p:Nat→Prop):Nat→Nat
 | 0=>0
 | n+1=>zg9 p n ||| (if @decide (p n) (Classical.propDecidable _) then 2^n else 0)
section
variable {n:Nat} {p q:Nat→Prop}
theorem zch:(zgP n p).length=n:=by simp [zgP]
theorem zeX {i:Nat}:mkd (zgP n p) i↔i<n∧p i:=by
 constructor
 · intro h
   have hl:=zom h
   rw [zdA hl] at h
   rw [zch] at hl
   refine ⟨hl,?_⟩
   simpa [zgP] using h
 rintro ⟨h1,h2⟩
 rw [zdA (by rw [zch];exact h1)]
 simpa [zgP] using h2
theorem zfI {ms:List Bool} (hl:ms.length=n) (h:∀ i,i<n→(mkd ms i↔p i)):ms=zgP n p:=
 zqH (by rw [hl,zch]) fun i hi=>by
   rw [zeX,h i (hl▸hi)]
   exact ⟨fun h=>⟨hl▸hi,h⟩,fun h=>h.2⟩
theorem zjM (h:∀ i,i<n→(p i↔q i)):zgP n p=zgP n q:=zfI zch fun i hi=>by rw [zeX,←h i hi];exact ⟨fun h=>h.2,fun h=>⟨hi,h⟩⟩
theorem zbo {i:Nat}:i∈zcr n p↔i<n∧p i:=by simp [zcr]
theorem zlK:zcr (n+1) p=zcr n p++(if @decide (p n) (Classical.propDecidable _) then [n] else []):=by
 simp only [zcr,List.range_succ,List.filter_append,List.filter_cons,List.filter_nil]
theorem zic (h:p n):zcr (n+1) p=zcr n p++[n]:=by rw [zlK];simp [h]
theorem zhm (h:¬p n):zcr (n+1) p=zcr n p:=by rw [zlK];simp [h]
theorem zbS:(zcr n p).length≤n:=Nat.le_trans (List.length_filter_le _ _) (by simp)
theorem zci {i:Nat}:(zg9 p n).testBit i=true↔i<n∧p i:=by
 induction n with
 | zero=>simp [zg9]
 | succ n ih=>
   rw [zg9,Nat.testBit_or,Bool.or_eq_true,ih]
   by_cases hp:p n
   · simp only [hp,decide_true,if_true,Nat.testBit_two_pow,decide_eq_true_eq]
     constructor
     · rintro (⟨h1,h2⟩ | rfl)
       · exact ⟨by omega,h2⟩
       exact ⟨by omega,hp⟩
     rintro ⟨h1,h2⟩
     rcases Nat.lt_or_eq_of_le (Nat.lt_succ_iff.1 h1) with h | h
     · exact .inl ⟨h,h2⟩
     exact .inr h.symm
   simp only [hp,decide_false,Bool.false_eq_true,if_false,Nat.zero_testBit,or_false]
   constructor
   · rintro ⟨h1,h2⟩;exact ⟨by omega,h2⟩
   rintro ⟨h1,h2⟩
   rcases Nat.lt_or_eq_of_le (Nat.lt_succ_iff.1 h1) with h | h
   · exact ⟨h,h2⟩
   exact absurd (h▸h2) hp
theorem ziN:zg9 p n<2^n:=by
 refine Nat.lt_pow_two_of_testBit _ fun i hi=>?_
 cases h:(zg9 p n).testBit i
 · rfl
 have:=(zci.1 h).1;omega
theorem zeY {m:Nat} (h:∀ i,m.testBit i=true↔i<n∧p i):m=zg9 p n:=
 Nat.eq_of_testBit_eq fun i=>by
   have h1:=h i
   rw [←zci] at h1
   cases e1:m.testBit i<;>cases e2:(zg9 p n).testBit i<;>simp_all
theorem zdc (h:∀ i,i<n→(p i↔q i)):zg9 p n=zg9 q n:=zeY fun i=>by
 rw [zci]
 exact ⟨fun ⟨h1,h2⟩=>⟨h1,(h i h1).1 h2⟩,fun ⟨h1,h2⟩=>⟨h1,(h i h1).2 h2⟩⟩
end
end Go.Sh
namespace Go.Proofs.YtcnglfeoglgebaaGreat
open Go Go.Sh Go.Proofs
open Rep (rep)
def F153 (a0 a1:Value) (w:World) (R:VW):Prop:=
 NIL a0 <|
 rF 92 a0 0 w fun x8=>
 rF 36 x8 4 w fun x9=>
 rL 34 x9 w fun x10=>
 rX 34 x10 a1 w fun x12=>
 rL 84 x12 w fun x13=>
 oP (Instr.alloc 84 true (.tuple #[])) w fun x5 w=>
 oS 84 x5 x13 w fun w=>
 rF 84 x5 0 w fun x14=>
 rL 3 x14 w fun x15=>
 rB .eql 3 T0 U0 x15 (iV 9) w fun x17=>
 BR x17
 (R (Value.slice none 0 0) w)
 (rB .eql 3 T0 U0 x15 (iV 3) w fun x19=>
 BR x19
 (rF 84 x5 3 w fun x20=>
 rL 3 x20 w fun x21=>
 oP (Instr.buildSlice 33 1 #[(0,x21)]) w fun x22 w=>
 R x22 w)
 (rB .eql 3 T0 U0 x15 (iV 2) w fun x24=>
 BR x24
 (rF 84 x5 3 w fun x25=>
 rL 3 x25 w fun x26=>
 rA a1 (iV 1) w fun x28=>
 rB .neq 3 T0 T0 x26 x28 w fun x29=>
 BR x29
 (rA a1 (iV 1) w fun x31=>
 rF 84 x5 3 w fun x32=>
 rL 3 x32 w fun x33=>
 oP (Instr.buildSlice 33 2 #[(0,x31),(1,x33)]) w fun x34 w=>
 R x34 w)
 (rA a1 (iV 1) w fun x36=>
 oP (Instr.buildSlice 33 1 #[(0,x36)]) w fun x37 w=>
 R x37 w))
 (rA a1 (iV 1) w fun x36=>
 oP (Instr.buildSlice 33 1 #[(0,x36)]) w fun x37 w=>
 R x37 w)))
def cfg153:Cfg:=⟨extL,[],[],[],[],[],[]⟩
theorem F153_call {a0 a1:Value} {w:World} {R:VW} (h:F153 a0 a1 w R):cL 153 [a0,a1] w R:=co (g:=cfg153) Tryz.func153 (by kernel_rfl) (by kernel_rfl) (by kernel_rfl) h
def zaY (c:DCode) (i:Nat):List Nat:=
 if (zap c i).op=9 then [] else if (zap c i).op=3 then [(zap c i).to.toNat] else if (zap c i).op=2∧(zap c i).to≠(i:Int)+1 then [i+1,(zap c i).to.toNat] else [i+1]
theorem zdm {c:DCode} (hc:CodeR c) {i j:Nat} (hi:i<c.ins.length) (h:j∈zaY c i):j<c.ins.length∧zar c j=zar c i:=by
 have h9:=ziM hc (a:=(i:Int)) (by omega) (by omega)
 have hto:=zkC hc (a:=(i:Int)) (by omega) (by omega)
 simp only [Int.toNat_natCast] at h9 hto
 unfold zaY at h
 split at h
 · cases h
 rename_i ho
 have h1:=h9 ho
 have e1:((i+1:Nat):Int)=(i:Int)+1:=by omega
 split at h
 · rename_i h3
   simp only [List.mem_cons,List.not_mem_nil,or_false] at h
   subst h
   have h2:=hto (.inr h3)
   rw [Int.toNat_of_nonneg h2.1]
   exact ⟨by omega,h2.2.2⟩
 split at h
 · rename_i h2
   simp only [List.mem_cons,List.not_mem_nil,or_false] at h
   rcases h with rfl | rfl
   · exact ⟨by omega,by rw [e1];exact h1.2⟩
   have h2:=hto (.inl h2.1)
   rw [Int.toNat_of_nonneg h2.1]
   exact ⟨by omega,h2.2.2⟩
 simp only [List.mem_cons,List.not_mem_nil,or_false] at h
 subst h
 exact ⟨by omega,by rw [e1];exact h1.2⟩
theorem ziO (c:DCode) (i:Nat):(zaY c i).length≤2:=by
 unfold zaY
 split
 · simp
 split
 · simp
 split<;>simp
section
variable {P:Program} {w:World} {K:Value→World→Prop}
def vsI (l:List Int):List Value:=l.map fun x=>.int .i64 x
theorem zlL {w:World}:∀ {l:List Int},(∀ x∈l,I64 x)→Cells [] w (vsI l) l
 | [],_=>⟨rfl,rfl⟩
 | x :: l,h=>⟨[],[],[.int .i64 x],vsI l,rfl,rfl,⟨rfl,rfl,h x (by simp)⟩,zlL fun y hy=>h y (by simp [hy])⟩
theorem zt5 {l:List Int} {e:Nat} (hl:∀ x∈l,I64 x) (hm:l.length≤maxLen):Own w.heap.size (w.alloc (.cells (vsI l).toArray e)) (.slice (some ⟨w.heap.size,0,none⟩) l.length l.length) l:=by
 have hB:Blk w.heap.size e (w.alloc (.cells (vsI l).toArray e)) (vsI l):=heap_alloc_new w _
 refine ⟨[w.heap.size],⟨⟨_,⟨some ⟨w.heap.size,0,none⟩,l.length,[],vsI l,rfl,Nat.le_refl _,hm,zlL hl,.inr ⟨_,_,rfl,rfl,hB.range,?_⟩⟩,rfl⟩,by simp,fun i hi=>?_⟩,by simp⟩
 · exact (Array.getElem?_eq_some_iff.1 hB).1
 simp only [List.mem_cons,List.not_mem_nil,or_false] at hi
 subst hi
 exact ⟨_,_,hB⟩
theorem zpn {t e:TypeId} {by_:Nat} {x y:Int} (ht:P.underlying t=some (.slice e)) (he:tyI P e=some (1,by_,false)) (hz:zbU P e=some [.int .i64 0]) (hx:I64 x) (hy:I64 y)
   (k:∀ v w',Ext w w'→Own w.heap.size w' v [x,y]→K v w'):OP P (Instr.buildSlice t 2 #[(0,.int .i64 x),(1,.int .i64 y)]) w K:=by
 unfold zbU at hz
 cases hi:P.info? e with
 | none=>simp [hi] at hz
 | some i=>
   simp only [hi] at hz
   obtain ⟨v,hv,hvc⟩:=Option.map_eq_some_iff.1 hz
   refine ⟨_,w.alloc (.cells (vsI [x,y]).toArray e),?_,k _ _ (zaI w _) (zt5 (l:=[x,y]) (e:=e) (by simp [hx,hy]) (by simp [maxLen]))⟩
   have hvc':v.cells=#[.int .i64 0]:=Array.ext' (by simpa using hvc)
   have e1:∀ n:Int,(Value.int .i64 n).cells=#[.int .i64 n]:=fun _=>rfl
   simp only [Instr.buildSlice,Sem.run_bind,run_underlying ht,Result.andThen_ok,zaw he]
   have e2:Array.range 2=#[0,1]:=by decide
   simp [zeroValue,typeInfo,hi,hv,newRow,Instr.fill,hvc',vsI,e1,e2]
end
theorem zwr:zbU Tryz.prog 3=some [.int .i64 0]:=by kernel_rfl
theorem ziP {w W0:World} {b:Nat} {c:DCode} {i:Nat} (hA:At W0 b 0 c) (e0:Ext W0 w) (hc:CodeR c) (hi:i<c.ins.length) :
   CALL Tryz.prog 153 [.pointer (some ⟨b,0,none⟩),.int .i64 (i:Int)] w fun r w'=>Ext w w'∧Own w.heap.size w' r (zbA (zaY c i)):=by
 refine F153_call ?_
 unfold F153
 have hil:=hc.f.ins
 have hto:=zkC hc (a:=(i:Int)) (by omega) (by omega)
 simp only [Int.toNat_natCast] at hto
 refine NIL.mk rfl ?_
 refine zaa zbs ?_
 refine zaa zaG ?_
 refine zab zdi (zao hA) e0 fun v10 h10=>?_
 refine zad u34 zdY h10 hi fun b12 o12 h12=>?_
 rw [zaP] at h12
 have hnx:zaY c i=if (zap c i).op=9 then [] else if (zap c i).op=3 then [(zap c i).to.toNat] else if (zap c i).op=2∧(zap c i).to≠(i:Int)+1 then [i+1,(zap c i).to.toNat] else [i+1]:=rfl
 generalize zap c i=I at *
 refine zab zdY h12 e0 fun v13 h13=>?_
 refine zcA zr2 rfl zdY rfl h13 e0 fun w1 hx1 hA5 hV5=>?_
 refine zaa zbx ?_
 refine zac ty3 (zaC hA5) (Ext.refl _) fun _=>?_
 refine zaf ?_
 refine br (fun c9=>?_) (fun c9=>?_)
 · rw [hnx,if_pos c9]
   exact ⟨hx1,zhc rfl⟩
 rw [if_neg c9] at hnx
 refine zaf ?_
 refine br (fun c3=>?_) (fun c3=>?_)
 · rw [if_pos c3] at hnx
   have ht:=hto (.inr c3)
   refine zaa zd0 ?_
   refine zac ty3 (zbI hA5) (Ext.refl _) fun hI=>?_
   refine zcL (x:=I.to) u33 ty3 z3 (by decide) (zbp hI) fun v w2 hx2 hr=>?_
   refine ⟨hx1.trans hx2,?_⟩
   rw [hnx]
   have e:zbA [I.to.toNat]=[I.to]:=by simp [zbA,Int.toNat_of_nonneg ht.1]
   rw [e]
   have:=hx1.size
   exact hr.own.own.mono (by omega)
 rw [if_neg c3] at hnx
 have e1:zbA [i+1]=[((i+1:Nat):Int)]:=by simp [zbA]
 refine zaf ?_
 refine br (fun c2=>?_) (fun c2=>?_)
 · have ht:=hto (.inl c2)
   refine zaa zd0 ?_
   refine zac ty3 (zbI hA5) (Ext.refl _) fun hI=>?_
   refine zag (by omega) ?_
   refine zaO ?_
   refine br (fun cn=>?_) (fun cn=>?_)
   · rw [if_pos ⟨c2,by omega⟩] at hnx
     refine zag (by omega) ?_
     refine zaa zd0 ?_
     refine zac ty3 (zbI hA5) (Ext.refl _) fun _=>?_
     refine zpn u33 ty3 zwr (by unfold I64;omega) hI fun v w2 hx2 hr=>?_
     refine ⟨hx1.trans hx2,?_⟩
     have e:zbA [i+1,I.to.toNat]=[((i+1:Nat):Int),I.to]:=by simp [zbA,Int.toNat_of_nonneg ht.1]
     rw [hnx,e]
     have:=hx1.size
     exact hr.mono (by omega)
   rw [if_neg (fun h=>cn (by have:=h.2;omega))] at hnx
   refine zag (by omega) ?_
   refine zcL (x:=((i+1:Nat):Int)) u33 ty3 z3 (by decide) (zbp (by unfold I64;omega)) fun v w2 hx2 hr=>?_
   refine ⟨hx1.trans hx2,?_⟩
   rw [hnx,e1]
   have:=hx1.size
   exact hr.own.own.mono (by omega)
 rw [if_neg (fun h=>c2 h.1)] at hnx
 refine zag (by omega) ?_
 refine zcL (x:=((i+1:Nat):Int)) u33 ty3 z3 (by decide) (zbp (by unfold I64;omega)) fun v w2 hx2 hr=>?_
 refine ⟨hx1.trans hx2,?_⟩
 rw [hnx,e1]
 have:=hx1.size
 exact hr.own.own.mono (by omega)
end Go.Proofs.YtcnglfeoglgebaaGreat
namespace Go.Sh
open Rep (rep)
section
variable {P:Program} {w w0 w':World} {α:Type} [Rep α] {lo hi e:Nat} {v:Value} {l:List α}
theorem RowG.flat [Flat α] {F:List Nat} (h:RowG F e w v l):F=[]∨∃ b,F=[b]:=by
 rcases h with ⟨_,_,_,rfl⟩ | ⟨xs,Fi,_,hc,rfl,_⟩
 · exact .inl rfl
 have:=Cells.flat (xs:=xs) hc
 subst this
 rcases hv:v.ownBlock with _ | b
 · exact .inl (by simp)
 exact .inr ⟨b,by simp⟩
theorem zqI [RepZ α]:OwnI lo hi w (mkv α (RepZ.zc α)) (RepZ.zv:α):=⟨[],⟨⟨RepZ.zc α,RepZ.zr w,rfl⟩,List.nodup_nil,Wr.nil w⟩,by simp⟩
theorem Chg.ofI {F:List Nat} (h:Chg F w w') (hF:∀ b∈F,lo≤b∧b<hi):ChgI lo hi w w':=
 ⟨h.os,h.tape,h.output,h.size,fun b hb hx=>h.block b hb fun hm=>by have:=hF b hm;omega⟩
theorem ChgI.ext_left {w1:World} (hx:Ext w w1) (h:ChgI lo hi w1 w'):ChgI lo hi w w':=
 ⟨h.os.trans hx.os,h.tape.trans hx.tape,h.output.trans hx.output,Nat.le_trans hx.size h.size,fun b hb ho=>by rw [h.block b (Nat.lt_of_lt_of_le hb hx.size) ho,hx.block b hb]⟩
theorem zfk [Flat α] {t ty:TypeId} {by_:Nat} {u:Value} {x:α} {lo2 hi2:Nat} {K:Value→World→Prop} (ht:P.underlying t=some (.slice e)) (he:tyI P e=some (Rep.size α,by_,Rep.agg α)) (hz:zbw P e=true)
   (hzc:(P.info? e).map (fun i=>(i.zero.map (·.cells.size)))=some (some (Rep.size α))) (hsz:Rep.size α≤1000) (hv:RowI lo hi e w v l) (hx:OwnI lo2 hi2 w u x) (hm:l.length+1≤maxLen) (hb:(l.length+1)*by_≤140737488355328)
   (k:∀ v' w' lo' hi',ChgI lo hi w w'→RowI lo' hi' e w' v' (l++[x])→(lo'=lo∧hi'=hi∨lo'=w.heap.size∧hi'=w'.heap.size)→K v' w'):OP P (Instr.buildSlice t 1 #[(0,u)]) w fun s w1=>OP P (Builtin.append_ #[t,t] ty [v,s].toArray) w1 K:=by
 obtain ⟨F,h1,h2,h3⟩:=zei.1 hv
 obtain ⟨G,hmx,hG⟩:=hx
 have hGn:G=[]:=by obtain ⟨cs,hr,_⟩:=hmx.own;exact Flat.flat hr
 subst hGn
 refine zdK (K:=fun _=>K) ht he hz hzc hsz h1 h2 hmx (by simp) hm hb (fun w1 v' w' G' hx1 hc hR hN hs=>?_) fun _ _ _ h=>h
 have hcI:=ChgI.ext_left hx1 (hc.ofI h3)
 have hlt:=hR.lt
 rcases hR.flat with rfl | ⟨b,rfl⟩
 · exact k v' w' lo hi hcI (zei.2 ⟨[],hR,hN,by simp⟩) (.inl ⟨rfl,rfl⟩)
 rcases hs b (by simp) with h | h | h
 · exact k v' w' lo hi hcI (zei.2 ⟨[b],hR,hN,fun c hc=>by simp at hc;subst hc;exact h3 _ h⟩) (.inl ⟨rfl,rfl⟩)
 · cases h
 exact k v' w' w.heap.size w'.heap.size hcI (zei.2 ⟨[b],hR,hN,fun c hc=>by simp at hc;subst hc;exact ⟨h,hlt _ (by simp)⟩⟩) (.inr ⟨rfl,rfl⟩)
end
end Go.Sh
namespace Go.Proofs.YtcnglfeoglgebaaGreat
open Go Go.Sh Go.Proofs
open Rep (rep)
def F102 (a0 a1 a2:Value) (w:World) (R:VW):Prop:=
 oP (Instr.buildSlice 33 1 #[(0,a2)]) w fun x11 w=>
 LOOPI [6] [x11] w fun u1 w next1=>
 rN 33 3 (u1 6) w fun x13=>
 rB .gtr 3 T0 U0 x13 (iV 0) w fun x14=>
 BR x14
 (rN 33 3 (u1 6) w fun x17=>
 rB .sub 3 T0 U0 x17 (iV 1) w fun x18=>
 rX 33 (u1 6) x18 w fun x19=>
 rL 3 x19 w fun x20=>
 rN 33 3 (u1 6) w fun x23=>
 rB .sub 3 T0 U0 x23 (iV 1) w fun x24=>
 rD (Instr.sliceAt 33 (u1 6) none (some x24) none) w fun x25=>
 cL 153 [a0,x20] w fun x28 w=>
 rN 33 3 x28 w fun x29=>
 LOOPI [6,30] [x25,(iV 0)] w fun u5 w next5=>
 rC (u5 30) x29 w fun x31=>
 BR x31
 (rX 33 x28 (u5 30) w fun x32=>
 rL 3 x32 w fun x33=>
 rX 90 a1 x33 w fun x36=>
 rL 4 x36 w fun x37=>
 rD (Op.unary .not x37) w fun x38=>
 BR x38
 (rX 90 a1 x33 w fun x41=>
 oS 4 x41 (Value.bool true) w fun w=>
 oP (Instr.buildSlice 33 1 #[(0,x33)]) w fun x44 w=>
 oP (Builtin.append_ #[33,33] 33 [(u5 6),x44].toArray) w fun x45 w=>
 rA (u5 30) (iV 1) w fun x46=>
 next5 [x45,x46] w)
 (rA (u5 30) (iV 1) w fun x46=>
 next5 [(u5 6),x46] w))
 (next1 [(u5 6)] w))
 (R (Value.tuple #[]) w)
def cfg102:Cfg:=⟨extL,[],[(1,140737488351936,[6]),(5,140736414614080,[6,30])],[],[],[],[]⟩
theorem F102_call {a0 a1 a2:Value} {w:World} {R:VW} (h:F102 a0 a1 a2 w R):cL 102 [a0,a1,a2] w R:=co (g:=cfg102) Tryz.func102 (by kernel_rfl) (by kernel_rfl) (by kernel_rfl) h
section
variable {P:Program} {w w':World}
theorem zgQ {α:Type} [Rep α] [Flat α] {F:List Nat} {v:Value} {l:List α} (hm:Mine F w v l) (hl:l≠[]):∃ b o cap,v=.slice (some ⟨b,o,none⟩) l.length cap∧F=[b]:=by
 obtain ⟨⟨cs,⟨a,cap,Fi,xs,rfl,h1,h2,hc,h4⟩,rfl⟩,hn,hw⟩:=hm
 rcases h4 with ⟨h4,_⟩ | ⟨b,o,rfl,rfl,hr,hb⟩
 · exact absurd h4 hl
 have hFi:=Cells.flat (xs:=xs) hc
 subst hFi
 exact ⟨b,o,cap,rfl,rfl⟩
theorem zcK {α:Type} [Rep α] [Flat α] (h1:Rep.size α=1) {t by_ m n i:Nat} {l:List α} {y:α} {u:Value} {K:World→Prop} (ht:tyI P t=some (1,by_,Rep.agg α)) (hm:Mine [m] w (.slice (some ⟨m,0,none⟩) n n) l) (hl:l.length=n) (hi:i<n) (hu:Mine [] w u y)
   (k:∀ w',Chg [m] w w'→Mine [m] w' (.slice (some ⟨m,0,none⟩) n n) (l.set i y)→K w'):OPU P (Instr.storeAt t (.pointer (some ⟨m,i*1,none⟩)) u) w K:=by
 obtain ⟨b,a,cap,G,hv,hL⟩:=zsd hm (k:=i) (by omega)
 simp only [Value.slice.injEq,Option.some.injEq,Addr.mk.injEq,and_true] at hv
 obtain ⟨⟨rfl,rfl⟩,_⟩:=hv
 rw [h1,Nat.zero_add] at hL
 refine ziH (y':=y) (by rw [h1];exact ht) hL hu fun w8 F' hc8 hm8 hF8=>?_
 have hF9:F'=[m]:=by
   obtain ⟨b,o,cap,hv,hF2⟩:=zgQ hm8 (by intro e;have h:=congrArg List.length e;rw [List.length_set,hl] at h;simp only [List.length_nil] at h;omega)
   subst hF2
   have:=hF8 b (by simp)
   simpa using this
 subst hF9
 exact k w8 hc8 hm8
theorem zd6 {α:Type} [Rep α] {t e by_ m n i:Nat} {K:Value→Prop} (h1:Rep.size α=1) (ht:P.underlying t=some (.slice e)) (he:tyI P e=some (1,by_,Rep.agg α)) (hi:i<n) (kk:K (.pointer (some ⟨m,i*1,none⟩))) :
   RD P (Instr.indexAt t (.slice (some ⟨m,0,none⟩) n n) (.int .i64 (i:Int))) w K:=ziq ht he hi kk
end
structure WI (w1 w:World) (m n lo hi:Nat) (tv:Value) (L:List Nat) (ms:List Bool):Prop where
 chg:ChgI m (m+1) w1 w
 row:RowI lo hi 3 w tv (zbA L)
 mks:Mine [m] w (.slice (some ⟨m,0,none⟩) n n) ms
 l0:w1.heap.size≤lo
 m1:m<lo
 h2:lo≤hi
 h3:hi≤w.heap.size
section
variable {w1 w w':World} {m n lo hi:Nat} {tv:Value} {L:List Nat} {ms:List Bool}
theorem WI.step (h:WI w1 w m n lo hi tv L ms) (hx:Ext w w'):WI w1 w' m n lo hi tv L ms:=
 ⟨h.chg.trans hx.toI,h.row.ext hx,h.mks.ext hx,h.l0,h.m1,h.h2,Nat.le_trans h.h3 hx.size⟩
theorem WI.push {tv':Value} {x:Nat} {lo' hi':Nat} (h:WI w1 w m n lo hi tv L ms) (hc:ChgI lo hi w w') (hr:RowI lo' hi' 3 w' tv' (zbA L++[(x:Int)])) (hd:lo'=lo∧hi'=hi∨lo'=w.heap.size∧hi'=w'.heap.size) :
   WI w1 w' m n lo' hi' tv' (L++[x]) ms:=by
 have hs:=hc.size
 have h1:=h.l0
 have h2:=h.h2
 have h3:=h.h3
 have h4:=h.chg.size
 have h5:=h.m1
 have hml:=h.mks.lt m (by simp)
 refine ⟨⟨hc.os.trans h.chg.os,hc.tape.trans h.chg.tape,hc.output.trans h.chg.output,Nat.le_trans h4 hs,fun b hb ho=>(hc.block b (Nat.lt_of_lt_of_le hb h4) (by omega)).trans (h.chg.block b hb ho)⟩,by rw [zd5];exact hr,h.mks.keep fun b hb=>?_,by omega,by omega,by omega,by omega⟩
 simp only [List.mem_cons,List.not_mem_nil,or_false] at hb
 subst hb
 exact hc.block b hml (by omega)
theorem WI.mark {ms':List Bool} (h:WI w1 w m n lo hi tv L ms) (hc:Chg [m] w w') (hm:Mine [m] w' (.slice (some ⟨m,0,none⟩) n n) ms'):WI w1 w' m n lo hi tv L ms':=by
 have hc':ChgI m (m+1) w w':=hc.toI fun b hb=>by simp only [List.mem_cons,List.not_mem_nil,or_false] at hb;omega
 have h5:=h.m1
 exact ⟨h.chg.trans hc',h.row.chg hc' (by omega),hm,h.l0,h5,h.h2,Nat.le_trans h.h3 hc'.size⟩
end
theorem zv5:zbU Tryz.prog 4=some [.bool false]:=by kernel_rfl
theorem zgR {w:World} {x:Int} (lo hi:Nat) (h:I64 x):OwnI lo hi w (.int .i64 x) x:=⟨[],zbp h,by simp⟩
theorem zfJ {w:World} {b:Bool}:Mine [] w (.bool b) b:=⟨⟨[.bool b],⟨rfl,rfl⟩,rfl⟩,List.nodup_nil,Wr.nil w⟩
section
variable {P:Program} {w:World} {α:Type} [Rep α] [Flat α] {lo hi e:Nat} {v:Value} {l:List α}
theorem zt6 {t e b o n cap k by_:Nat} {K:Value→Prop} (ht:P.underlying t=some (.slice e)) (he:tyI P e=some (Rep.size α,by_,Rep.agg α)) (hk:k≤n) (hn:n≤cap) (kk:K (.slice (some ⟨b,o,none⟩) k cap)) :
   RD P (Instr.sliceAt t (.slice (some ⟨b,o,none⟩) n cap) none (some (.int .i64 (k:Int))) none) w K:=by
 refine zaQ (fun w' _=>?_) kk
 have hbd:(Instr.sliceBounds true n cap none (some (.int .i64 (k:Int))) none).run P w'=.ok (0,k,cap) w':=by
   have h5:(k:Int)≤(cap:Int):=by omega
   simp [Instr.sliceBounds,Instr.sliceBound,asIntOf,h5]
   intro h6
   omega
 simp only [Instr.sliceAt,Instr.slice,Sem.run_bind,run_underlying ht,Result.andThen_ok,hbd,zaw he]
 simp [Addr.add_mid]
theorem zsr (h:RowI lo hi e w v l) (hl:l≠[]) {k:Nat} (hk:k≤l.length):∃ g cap,v=.slice (some ⟨g,0,none⟩) l.length cap∧l.length≤cap∧RowI lo hi e w (.slice (some ⟨g,0,none⟩) k cap) (l.take k):=by
 rcases h with ⟨a,_,h⟩ | ⟨F,⟨xs,Fi,⟨hlen,ho⟩,hc,hF,hw⟩,hn,hb⟩
 · exact absurd h hl
 rcases ho with ⟨_,h0⟩ | ⟨g,cap,cur,rfl,_,hg,h1,h2,h3,h4⟩
 · exact absurd (List.eq_nil_of_length_eq_zero h0) hl
 refine ⟨g,cap,rfl,h1,.inr ⟨F,⟨xs.take (k*Rep.size α),[],⟨?_,.inr ⟨g,cap,cur,?_,Nat.zero_le _,hg,by rw [List.length_take];omega,h2,h3,?_⟩⟩,?_,?_,Wr.nil w⟩,hn,hb⟩⟩
 · rw [List.length_take,List.length_take,hlen,Nat.min_eq_left hk]
   exact Nat.min_eq_left (Nat.mul_le_mul_right _ hk)
 · rw [List.length_take,Nat.min_eq_left hk]
 · rw [List.length_take,Nat.min_eq_left hk,←h4,List.take_take,Nat.min_eq_left (Nat.mul_le_mul_right _ hk)]
 · have e1:l=l.take k++l.drop k:=by simp
   have hFi:=Cells.flat (xs:=xs) hc
   subst hFi
   rw [e1] at hc
   obtain ⟨F1,F2,x1,x2,hF12,hx12,c1,c2⟩:=Cells.split hc
   have hF1:=Cells.flat (xs:=x1) c1
   subst hF1
   have hl1:=Cells.len c1
   rw [List.length_take,Nat.min_eq_left hk] at hl1
   rw [hx12,List.take_left' hl1]
   exact c1
 have hFi:=Cells.flat (xs:=xs) hc
 subst hFi
 rw [hF];rfl
end
def KAt (W0 w:World) (b:Nat) (c:DCode):Prop:=∃ F cs,Rep.rep F W0 cs c∧w.rangeAt b 0 cs∧b<w.heap.size
theorem KAt.at {W0 w:World} {b:Nat} {c:DCode} (h:KAt W0 w b c) (hx:Ext W0 w):At w b 0 c:=by
 obtain ⟨F,cs,hr,hc,_⟩:=h
 exact ⟨F,cs,zbO hr hx,hc⟩
theorem KAt.keep {W0 w w':World} {b:Nat} {c:DCode} (h:KAt W0 w b c) (hb:w'.heap[b]?=w.heap[b]?) (hs:w.heap.size≤w'.heap.size):KAt W0 w' b c:=by
 obtain ⟨F,cs,hr,hc,hl⟩:=h
 exact ⟨F,cs,hr,zaK hc hb,by omega⟩
theorem KAt.lt {W0 w:World} {b:Nat} {c:DCode} (h:KAt W0 w b c):b<w.heap.size:=by obtain ⟨_,_,_,_,h⟩:=h;exact h
theorem zlM {w W0:World} {b m n a:Nat} {c:DCode} {ms0:List Bool} (hk:KAt W0 w b c) (e0:Ext W0 w) (hc:CodeR c) (hn:c.ins.length=n) (ha:a<n) (hM:Mine [m] w (.slice (some ⟨m,0,none⟩) n n) ms0) (hl:ms0.length=n) (h0:W0.heap.size≤m) (hb:b≠m)
   (hclo:∀ i,mkd ms0 i→i≠a→∀ j∈zaY c i,mkd ms0 j) :
   CALL Tryz.prog 102 [.pointer (some ⟨b,0,none⟩),.slice (some ⟨m,0,none⟩) n n,.int .i64 (a:Int)] w fun r w'=>r=.tuple #[]∧ChgI m (m+1) w w'∧Mine [m] w' (.slice (some ⟨m,0,none⟩) n n) (zgP n fun i=>mkd ms0 i∨RP (zaY c) a i):=by
 refine F102_call ?_
 unfold F102
 have hil:=hc.f.ins
 have hnl:=fun {i j:Nat}=>zdm hc (i:=i) (j:=j)
 rw [hn] at hnl hil
 refine zcL (x:=(a:Int)) u33 ty3 z3 (by decide) (zbp (by unfold I64;omega)) fun v11 w1 hx1 hr1=>?_
 have hW1:WI w w1 m n w.heap.size w1.heap.size v11 [a] ms0:=⟨hx1.toI,hr1,hM.ext hx1,Nat.le_refl _,hM.lt m (by simp),hx1.size,Nat.le_refl _⟩
 have hKA:∀ {w':World} {lo hi tv L ms},WI w w' m n lo hi tv L ms→At w' b 0 c:=fun h=>(hk.keep (h.chg.block b hk.lt (by omega)) h.chg.size).at (e0.chgI h.chg h0)
 refine zaB (1+n) (fun h us w'=>∃ (tv:Value) (lo hi:Nat) (L:List Nat) (ms:List Bool),us=[tv]∧WI w w' m n lo hi tv L ms∧SInv (zaY c) n a ms0 ms L h) 0 (Nat.zero_le _) ⟨v11,_,_,[a],_,rfl,hW1,SInv.start hl ha⟩ ?_
 rintro h mk u w4 hkm ⟨tv,lo,hi,L,ms,hu,hW4,hS4⟩
 simp only [List.map_cons,List.map_nil,List.cons.injEq,and_true] at hu
 rw [hu]
 have hb4:=hS4.bound
 refine zae u33 hW4.row.is ?_
 rw [zaj]
 refine zcT ?_
 refine br (fun hlt=>?_) (fun hge=>?_)
 case refine_2=>
   have hL0:L=[]:=List.eq_nil_of_length_eq_zero (by omega)
   rw [hL0] at hS4
   have hfin:=hS4.fin hclo
   have hms:ms=zgP n (fun i=>mkd ms0 i∨RP (zaY c) a i):=zfI hS4.len fun i hi=>hfin i
   rw [←hms]
   exact ⟨rfl,hW4.chg,hW4.mks⟩
 obtain ⟨z,hz⟩:∃ z,L.length=z+1:=⟨L.length-1,by omega⟩
 have hzl:z<L.length:=by omega
 have hne:zbA L≠[]:=fun e=>by have:=congrArg List.length e;rw [zaj,hz] at this;cases this
 refine zae u33 hW4.row.is ?_
 rw [zaj]
 refine za3 (by unfold I64;omega) ?_
 have ez:(L.length:Int)-1=(z:Int):=by omega
 rw [ez]
 refine zad u33 ty3 (i:=z) hW4.row.is (by rw [zaj];exact hzl) fun b1 o1 hA1=>?_
 rw [zbq] at hA1
 refine zac ty3 hA1 (Ext.refl _) fun _=>?_
 generalize hx:L[z]=x at *
 refine zae u33 hW4.row.is ?_
 rw [zaj]
 refine za3 (by unfold I64;omega) ?_
 rw [ez]
 obtain ⟨g,cap,hv4,hcap,hr4⟩:=zsr hW4.row hne (k:=z) (by rw [zaj];omega)
 rw [zaj] at hv4 hcap
 rw [hv4]
 refine zt6 (α:=Int) u33 ty3 (by omega) hcap ?_
 have hLz:L=L.take z++[x]:=by
   have:=List.take_succ_eq_append_getElem hzl
   rw [←hz,List.take_length,hx] at this
   exact this
 rw [←zqG] at hr4
 have hW5:WI w w4 m n lo hi (.slice (some ⟨g,0,none⟩) z cap) (L.take z) ms:=⟨hW4.chg,hr4,hW4.mks,hW4.l0,hW4.m1,hW4.h2,hW4.h3⟩
 have hxn:x<n:=(hS4.tdo x (by rw [hLz];simp)).2
 refine (ziP (hKA hW5) (Ext.refl _) hc (by rw [hn];exact hxn)).mono ?_
 rintro v27 w6 ⟨hx6,ho6⟩
 have hW6:=hW5.step hx6
 have hI6:=hW5.h3
 have hm6:=hW5.mks.lt m (by simp)
 have hLm:∀ i,i∈L↔i∈L.take z∨i=x:=fun i=>by
   have:i∈L↔i∈L.take z++[x]:=by rw [←hLz]
   rw [this];simp
 have hS6:SIn2 (zaY c) n a ms0 ms (L.take z) h x 0:=hS4.pop hLm (by rw [List.length_take];omega)
 have hl2:=ziO c x
 refine zae u33 ho6.is ?_
 rw [zaj]
 refine zaB (zaY c x).length (fun q us w'=>∃ (tv:Value) (lo hi:Nat) (L:List Nat) (ms:List Bool),us=[tv,.int .i64 (q:Int)]∧q≤(zaY c x).length∧WI w w' m n lo hi tv L ms∧SIn2 (zaY c) n a ms0 ms L h x q∧OwnI w4.heap.size w6.heap.size w' v27 (zbA (zaY c x))∧(hi≤w4.heap.size∨w6.heap.size≤lo)∧w6.heap.size≤w'.heap.size) 0 (Nat.zero_le _) ⟨_,lo,hi,_,ms,rfl,Nat.zero_le _,hW6,hS6,ho6.toI,.inl hI6,Nat.le_refl _⟩ ?_
 rintro q mk8 u8 w7 hkm8 ⟨tv7,lo7,hi7,L7,ms7,hu8,hql,hW7,hS7,ho7,hd7,hz7⟩
 obtain ⟨hu81,hu82⟩:=ze4 hu8
 rw [hu81,hu82]
 refine zai ?_
 refine br (fun hlt8=>?_) (fun hge8=>?_)
 case refine_2=>
   exact ⟨mk-1,by omega,h+1,by omega,tv7,lo7,hi7,L7,ms7,rfl,hW7,hS7.done (by omega)⟩
 have hq:q<(zaY c x).length:=by omega
 have hy:=hnl hxn (List.getElem_mem hq)
 refine zad u33 ty3 (i:=q) ho7.is (by rw [zaj];exact hq) fun b3 o3 hA3=>?_
 rw [zbq] at hA3
 refine zac ty3 hA3 (Ext.refl _) fun _=>?_
 have hlen7:=hS7.len
 refine zad u90 ty4 hW7.mks.is (by rw [hlen7];exact hy.1) fun b2 o2 hA2=>?_
 refine zdh ty4 hA2 (Ext.refl _) ?_
 refine zaU ?_
 have hmk7:=zdA (ms:=ms7) (i:=(zaY c x)[q]) (by rw [hlen7];exact hy.1)
 refine zb4 (fun hf=>?_) (fun hf=>?_)
 · have hnm:¬mkd ms7 (zaY c x)[q]:=by rw [hmk7];simpa using hf
   refine zd6 (α:=Bool) rfl u90 ty4 hy.1 ?_
   refine zcK (α:=Bool) rfl ty4 hW7.mks hlen7 hy.1 zfJ fun w8 hc8 hm8=>?_
   have hW8:=hW7.mark hc8 hm8
   have hc8':ChgI m (m+1) w7 w8:=hc8.toI fun b hb=>by simp only [List.mem_cons,List.not_mem_nil,or_false] at hb;omega
   have ho8:=ho7.chg hc8' (by omega)
   have hS8:=hS7.push hq hy.1 hnm
   generalize (zaY c x)[q]=y at *
   have hLb:L7.length≤2+n:=by
     have h1:=hS7.cnt
     have h2:=zkD ms7
     omega
   refine zfk (x:=(y:Int)) u33 ty3 z3 zc3 (by decide) hW8.row (zgR 0 0 (by unfold I64;omega)) (by rw [zam,zaj];omega) (by rw [zaj];omega) fun v54 w9 lo9 hi9 hc9 hr9 hd9=>?_
   have hW9:=hW8.push hc9 hr9 hd9
   have hsz8:=hc8'.size
   refine zag (by omega) ?_
   exact ⟨mk8-1,by omega,q+1,by omega,v54,lo9,hi9,L7++[y],_,rfl,by omega,hW9,hS8,ho8.chg hc9 (by omega),by omega,by have:=hc9.size;omega⟩
 have hnm:mkd ms7 (zaY c x)[q]:=by rw [hmk7];simpa using hf
 refine zag (by omega) ?_
 exact ⟨mk8-1,by omega,q+1,by omega,tv7,lo7,hi7,L7,ms7,rfl,by omega,hW7,hS7.skip hq hnm,ho7,hd7,hz7⟩
def zt7 (ms:List Bool) (n:Nat):List Nat:=(List.range n).filter fun i=>ms.getD i false
theorem zlN (ms:List Bool) (n:Nat):zt7 ms (n+1)=zt7 ms n++(if ms.getD n false then [n] else []):=by
 simp only [zt7,List.range_succ,List.filter_append,List.filter_cons,List.filter_nil]
theorem zss (ms:List Bool) (n:Nat):(zt7 ms n).length≤n:=Nat.le_trans (List.length_filter_le _ _) (by simp)
theorem zqJ (n:Nat) (p:Nat→Prop):zt7 (zgP n p) n=zcr n p:=by
 refine List.filter_congr fun i hi=>?_
 have hi':=List.mem_range.1 hi
 have:=zeX (n:=n) (p:=p) (i:=i)
 unfold mkd at this
 by_cases h:p i
 · rw [this.2 ⟨hi',h⟩];simp [h]
 have h2:(zgP n p).getD i false≠true:=fun e=>h (this.1 e).2
 simp only [h,decide_false]
 cases hh:(zgP n p).getD i false
 · rfl
 exact absurd hh h2
def zaX (c:DCode) (p:Nat) (i:Nat):Prop:=i=(en c p).toNat∨RP (zaY c) (en c p).toNat i
theorem zkF {w:World} {n:Nat} {K:Value→World→Prop} (h0:0<n) (hn:n≤1000000)
   (k:∀ w',Ext w w'→Mine [w.heap.size] w' (.slice (some ⟨w.heap.size,0,none⟩) n n) (List.replicate n false)→K (.slice (some ⟨w.heap.size,0,none⟩) n n) w'):OP Tryz.prog (Instr.makeSlice 90 (.int .i64 (n:Int)) (.int .i64 (n:Int))) w K:=
 zfE (α:=Bool) u90 ty4 rfl rfl zv5 (by omega) (by omega) fun w2 hx2 hr2=>by
   refine k w2 hx2 ?_
   obtain ⟨F,hM,hF⟩:=hr2.own
   obtain ⟨b,o,cap,hv,hF2⟩:=zgQ hM (by intro e;have:=congrArg List.length e;simp at this;omega)
   simp only [Value.slice.injEq,Option.some.injEq,Addr.mk.injEq,List.cons.injEq,and_true] at hv
   obtain ⟨⟨hb,ho⟩,_⟩:=hv
   rw [←hb] at hF2
   rw [hF2] at hM
   exact hM
theorem zjp (n:Nat) {p:Nat→Prop} (h:∀ i,¬p i):List.replicate n false=zgP n p:=
 zfI (by simp) fun i _=>⟨fun h=>absurd h zdL,fun hp=>absurd hp (h i)⟩
def zoo (c:DCode) (p:Nat) (op:Int) (q:Nat):Prop:=∃ i,i<c.ins.length∧zaX c p i∧(zap c i).op=op∧(zap c i).arg=(q:Int)
end Go.Proofs.YtcnglfeoglgebaaGreat
namespace Go.Sh
def zpY (m n:Nat):Nat:=Nat.bitwise (fun a b=>a&&!b) m n
theorem zfK (m n i:Nat):(zpY m n).testBit i=(m.testBit i&&!n.testBit i):=Nat.testBit_bitwise rfl m n i
theorem zne (m n:Nat):zpY m n≤m:=Nat.le_of_testBit fun i h=>by rw [zfK] at h;simp at h;exact h.1
section
variable {P:Program} {w:World} {K:Value→Prop} {t:TypeId} {x y:Operand}
theorem zgS {m n:Nat} (hm:m<4611686018427387904) (hn:n<4611686018427387904) (k:K (.int .i64 ((m &&& n:Nat):Int))):RD P (bin .and t x y (.int .i64 (m:Int)) (.int .i64 (n:Int))) w K:=by
 have hlt:m &&& n≤m:=Nat.and_le_left
 refine zaQ (fun w' _=>?_) k
 have e1:IntKind.i64.wrap ((m &&& n:Nat):Int)=((m &&& n:Nat):Int):=IntWalk.i64_in _ (by omega)
 have e2:((BitVec.ofInt 64 (m:Int)) &&& (BitVec.ofInt 64 (n:Int))).toNat=m &&& n:=by
   simp only [BitVec.toNat_and,BitVec.ofInt_natCast,BitVec.toNat_ofNat]
   rw [Nat.mod_eq_of_lt (by omega),Nat.mod_eq_of_lt (by omega)]
 show (do eqGuard .and t x y (.int .i64 (m:Int)) (.int .i64 (n:Int));binOp .and t (.int .i64 (m:Int)) (.int .i64 (n:Int)):Sem Value).run P w'=_
 simp only [eqGuard,binOp,Op.intBits]
 show Result.ok (Value.int .i64 (IntKind.i64.wrap (((BitVec.ofInt 64 (m:Int)) &&& (BitVec.ofInt 64 (n:Int))).toNat:Nat))) w'=_
 rw [e2,e1]
theorem ziQ {m n:Nat} (hm:m<4611686018427387904) (hn:n<4611686018427387904) (k:K (.int .i64 ((zpY m n:Nat):Int))):RD P (bin .andNot t x y (.int .i64 (m:Int)) (.int .i64 (n:Int))) w K:=by
 have hlt:zpY m n≤m:=zne m n
 refine zaQ (fun w' _=>?_) k
 have e1:IntKind.i64.wrap ((zpY m n:Nat):Int)=((zpY m n:Nat):Int):=IntWalk.i64_in _ (by omega)
 have e2:((BitVec.ofInt 64 (m:Int)) &&& ~~~(BitVec.ofInt 64 (n:Int))).toNat=zpY m n:=by
   apply Nat.eq_of_testBit_eq
   intro i
   have hm64:m<2^64:=by omega
   have hn64:n<2^64:=by omega
   simp only [BitVec.testBit_toNat,BitVec.getLsbD_and,BitVec.getLsbD_not,BitVec.ofInt_natCast,BitVec.getLsbD_ofNat,zfK]
   by_cases hi:i<64
   · simp [hi]
   have:m.testBit i=false:=Nat.testBit_lt_two_pow (Nat.lt_of_lt_of_le hm64 (Nat.pow_le_pow_right (by omega) (by omega)))
   simp [hi,this]
 show (do eqGuard .andNot t x y (.int .i64 (m:Int)) (.int .i64 (n:Int));binOp .andNot t (.int .i64 (m:Int)) (.int .i64 (n:Int)):Sem Value).run P w'=_
 simp only [eqGuard,binOp,Op.intBits]
 show Result.ok (Value.int .i64 (IntKind.i64.wrap (((BitVec.ofInt 64 (m:Int)) &&& ~~~(BitVec.ofInt 64 (n:Int))).toNat:Nat))) w'=_
 rw [e2,e1]
theorem ztq {m n:Nat} {ku:IntKind} (hm:m<4611686018427387904) (k:K (.int .i64 ((m >>> n:Nat):Int))):RD P (bin .shr t x y (.int .i64 (m:Int)) (.int ku (n:Int))) w K:=by
 refine zaQ (fun w' _=>?_) k
 have e0:¬((n:Int)<0):=by omega
 have e1:(m:Int).fdiv (2^(min n 64))=((m >>> n:Nat):Int):=by
   rw [Nat.shiftRight_eq_div_pow]
   have h2:((2:Int)^(min n 64))=((2^(min n 64):Nat):Int):=by simp
   rw [h2,Int.fdiv_eq_ediv_of_nonneg _ (Int.natCast_nonneg _),←Int.natCast_ediv]
   by_cases h:n≤64
   · rw [Nat.min_eq_left h]
   rw [Nat.min_eq_right (by omega),Nat.div_eq_of_lt (by omega),Nat.div_eq_of_lt (Nat.lt_of_lt_of_le (by omega:m<2^64) (Nat.pow_le_pow_right (by omega) (by omega)))]
 show (do eqGuard .shr t x y (.int .i64 (m:Int)) (.int ku (n:Int));binOp .shr t (.int .i64 (m:Int)) (.int ku (n:Int)):Sem Value).run P w'=_
 simp only [eqGuard,binOp,Op.shift,e0,if_false,Int.toNat_natCast]
 show Result.ok (Value.int .i64 ((m:Int).fdiv (2^(min n 64)))) w'=_
 rw [e1]
end
def zdt (m:Nat):Nat→List Int
 | 0=>[]
 | k+1=>if m.testBit k then zdt m k++[(k:Int)] else zdt m k
theorem zhn (m:Nat):∀ k,(zdt m k).length≤k
 | 0=>Nat.le_refl _
 | k+1=>by
   have:=zhn m k
   rw [zdt]
   split
   · simp;omega
   omega
theorem ziR {m k:Nat} (h:m<2^k):∀ {j:Nat},k≤j→zdt m j=zdt m k
 | 0,hj=>by rw [Nat.le_zero.1 hj]
 | j+1,hj=>by
   by_cases e:k=j+1
   · rw [e]
   rw [zdt,if_neg,ziR h (by omega)]
   rw [Nat.testBit_lt_two_pow (Nat.lt_of_lt_of_le h (Nat.pow_le_pow_right (by omega) (by omega)))]
   simp
def zb7 (m:Nat):List Int:=zdt m 64
theorem zkG {m k:Nat} (h:m<2^k) (hk:k≤64):zb7 m=zdt m k:=ziR h hk
theorem zdP {m:Nat} {x:Int}:∀ {k:Nat},x∈zdt m k↔∃ i,i<k∧x=(i:Int)∧m.testBit i=true
 | 0=>by simp [zdt]
 | k+1=>by
   rw [zdt]
   constructor
   · intro h
     split at h
     · rename_i hb
       rcases List.mem_append.1 h with h | h
       · obtain ⟨i,h1,h2,h3⟩:=zdP.1 h;exact ⟨i,by omega,h2,h3⟩
       simp at h;exact ⟨k,by omega,h,hb⟩
     obtain ⟨i,h1,h2,h3⟩:=zdP.1 h;exact ⟨i,by omega,h2,h3⟩
   rintro ⟨i,h1,h2,h3⟩
   by_cases e:i=k
   · subst e;rw [if_pos h3];simp [h2]
   have:=(zdP (m:=m) (x:=x) (k:=k)).2 ⟨i,by omega,h2,h3⟩
   split
   · simp [this]
   exact this
theorem zt8 (m i:Nat):decide (((m >>> i &&& 1:Nat):Int)=1)=m.testBit i:=by
 have h:m >>> i &&& 1=(m.testBit i).toNat:=by
   rw [Nat.and_one_is_mod,Nat.testBit_eq_decide_div_mod_eq,Nat.shiftRight_eq_div_pow]
   rcases Nat.mod_two_eq_zero_or_one (m / 2^i) with h | h<;>simp [h]
 rw [h]
 cases m.testBit i<;>rfl
theorem zop {m i:Nat}:m >>> i=0↔m<2^i:=by
 rw [Nat.shiftRight_eq_div_pow,Nat.div_eq_zero_iff]
 have:¬(2^i=0):=by have:0<2^i:=Nat.pow_pos (by omega);omega
 simp [this]
end Go.Sh
namespace Go.Proofs.YtcnglfeoglgebaaGreat
open Go Go.Sh Go.Proofs
open Rep (rep)
def F110 (a0 a1:Value) (w:World) (R:VW):Prop:=
 rD (convert 3 105 a1) w fun x7=>
 rB .shr 3 T0 T0 a0 x7 w fun x8=>
 rB .and 3 T0 U0 x8 (iV 1) w fun x9=>
 rB .eql 3 T0 U0 x9 (iV 1) w fun x10=>
 R x10 w
def cfg110:Cfg:=⟨extL,[],[],[],[],[],[]⟩
theorem F110_call {a0 a1:Value} {w:World} {R:VW} (h:F110 a0 a1 w R):cL 110 [a0,a1] w R:=co (g:=cfg110) Tryz.func110 (by kernel_rfl) (by kernel_rfl) (by kernel_rfl) h
theorem zeA {w:World} {m:Nat} {i:Nat}   (hm:m<4611686018427387904) (hi:i<4611686018427387904) :
   CALL Tryz.prog 110 [.int .i64 (m:Int),.int .i64 (i:Int)] w fun r w'=>Ext w w'∧(r=.bool (m.testBit i)):=by
 refine F110_call ?_
 unfold F110
 refine zdU (by kernel_rfl) zqd (by omega) ?_
 refine ztq (by omega) ?_
 refine zgS (n:=1) (Nat.lt_of_le_of_lt (Nat.shiftRight_le m i) hm) (by omega) ?_
 refine zaf ?_
 refine ⟨Ext.refl w,?_⟩
 rw [zt8]
def F48 (a0:Value) (w:World) (R:VW):Prop:=
 LOOPI [3,4] [(Value.slice none 0 0),(iV 0)] w fun u3 w next3=>
 rD (convert 3 105 (u3 4)) w fun x7=>
 rB .shr 3 T0 T0 a0 x7 w fun x8=>
 rB .neq 3 T0 U0 x8 (iV 0) w fun x9=>
 BR x9
 (cL 110 [a0,(u3 4)] w fun x14 w=>
 BR x14
 (oP (Instr.buildSlice 33 1 #[(0,(u3 4))]) w fun x17 w=>
 oP (Builtin.append_ #[33,33] 33 [(u3 3),x17].toArray) w fun x18 w=>
 rA (u3 4) (iV 1) w fun x11=>
 next3 [x18,x11] w)
 (rA (u3 4) (iV 1) w fun x11=>
 next3 [(u3 3),x11] w))
 (R (u3 3) w)
def cfg48:Cfg:=⟨extL,[],[(3,524280,[3,4])],[],[],[],[]⟩
theorem F48_call {a0:Value} {w:World} {R:VW} (h:F48 a0 w R):cL 48 [a0] w R:=co (g:=cfg48) Tryz.func48 (by kernel_rfl) (by kernel_rfl) (by kernel_rfl) h
theorem zcY {w:World} {m:Nat}   (hm:m<4611686018427387904) :
   CALL Tryz.prog 48 [.int .i64 (m:Int)] w fun r w'=>Ext w w'∧(Own w.heap.size w' r (zb7 m)):=by
 refine F48_call ?_
 unfold F48
 refine zaB (62) (fun k us w'=>∃ v:Value,us=[v,.int .i64 (k:Int)]∧Ext w w'∧(RowI w.heap.size w'.heap.size 3 w' v (zdt m k))) (0) (by omega) ⟨_,rfl,Ext.refl w,zbE _ _ _ _⟩ ?_
 rintro k m3 uu3 w1_ hk3 ⟨v3,hu,hx1_,hrow⟩
 have hs_hx1_:=hx1_.size
 obtain ⟨hu0,hu1⟩:=ze4 hu
 try rw [hu0]
 try rw [hu1]
 try clear hu0 hu1
 have hrl:=zhn m k
 refine zdU (by kernel_rfl) zqd (by omega) ?_
 refine ztq (by omega) ?_
 refine zaO ?_
 refine br (fun c1=>?_) (fun c1=>?_)
 · have hk62:k<62:=by
     rcases Nat.lt_or_ge k 62 with h | h
     · exact h
     have h1:m<2^k:=Nat.lt_of_lt_of_le (show m<2^62 by omega) (Nat.pow_le_pow_right (by omega) h)
     exact absurd (by rw [zop.2 h1];rfl) c1
   refine (zeA (by omega) (by omega)).mono ?_
   rintro _ w2_ ⟨hx2_,rfl⟩
   have hs_hx2_:=hx2_.size
   refine zb4 (fun c2=>?_) (fun c2=>?_)
   · refine zcI (α:=Int) u33 ty3 z3 zc3 (by decide) (hrow.ext hx2_) (by omega) (ownI_int (lo:=w2_.heap.size) (hi:=w2_.heap.size) (by first | assumption | (unfold I64 at *;omega))) (by omega) (by omega) (by rw [zam];omega) (by omega) fun v18 w3_ hc3_ o18=>?_
     have hs_hc3_:=hc3_.size
     refine zag (by omega) ?_
     refine ⟨m3-1,by omega,k+1,by omega,_,rfl,(Ext.chgI (hx1_.trans hx2_) hc3_ (by omega)),?_⟩
     rw [zdt,if_pos c2];exact o18
   refine zag (by omega) ?_
   refine ⟨m3-1,by omega,k+1,by omega,_,rfl,(hx1_.trans hx2_),?_⟩
   rw [zdt,if_neg (by simp [c2])];exact (hrow.ext hx2_).mono (by omega) (by omega)
 refine ⟨hx1_,?_⟩
 have h1:m >>> k=0:=by have:=Decidable.not_not.1 c1;omega
 rw [zkG (zop.1 h1) (by omega)]
 exact hrow.own.own
def zvi (c:DCode) (s:DState) (t:Int):Nat→Nat→Int→Nat
 | 0,_,_=>0
 | n+1,m,u=>if zhj c s u<0 then 0 else if ow s (zhj c s u)=t then m ||| 2^(zhj c s u).toNat else zvi c s t n (m ||| 2^(zhj c s u).toNat) (ow s (zhj c s u))
def zvj (c:DCode) (s:DState) (t:Int):Nat:=zvi c s t s.stacks.length 0 t
theorem zvk {m i:Nat} (hm:m<64) (hi:i<6):m ||| 2^i<64:=Nat.or_lt_two_pow (n:=6) hm (Nat.pow_lt_pow_right (by omega) hi)
def znf (c:DCode) (s:DState):Nat→Nat
 | 0=>0
 | k+1=>if zvj c s k≠0 then znf c s k ||| 2^(zhj c s k).toNat else znf c s k
def F116 (a0 a1:Value) (w:World) (R:VW):Prop:=
 cL 48 [a1] w fun x9 w=>
 rN 33 3 x9 w fun x10=>
 LOOPI [5,11] [(iV 0),(iV 0)] w fun u3 w next3=>
 rC (u3 11) x10 w fun x12=>
 BR x12
 (rX 33 x9 (u3 11) w fun x13=>
 rL 3 x13 w fun x14=>
 rX 33 a0 x14 w fun x18=>
 rL 3 x18 w fun x19=>
 rB .or 3 T0 T0 (u3 5) x19 w fun x20=>
 rA (u3 11) (iV 1) w fun x21=>
 next3 [x20,x21] w)
 (R (u3 5) w)
def cfg116:Cfg:=⟨extL,[],[(3,4192416,[5,11])],[],[],[],[]⟩
theorem F116_call {a0 a1:Value} {w:World} {R:VW} (h:F116 a0 a1 w R):cL 116 [a0,a1] w R:=co (g:=cfg116) Tryz.func116 (by kernel_rfl) (by kernel_rfl) (by kernel_rfl) h
def orL (sets:List Nat) (l:List Int):Nat:=l.foldl (fun a i=>a ||| sets.getD i.toNat 0) 0
theorem zst (sets:List Nat) (l:List Int) (i:Int):orL sets (l++[i])=orL sets l ||| sets.getD i.toNat 0:=by simp [orL]
theorem zoq {sets:List Nat} (hs:∀ x∈sets,x<256) (l:List Int):orL sets l<256:=by
 have key:∀ (l:List Int) (a:Nat),a<256→l.foldl (fun a i=>a ||| sets.getD i.toNat 0) a<256:=fun l=>by
   induction l with
   | nil=>exact fun a h=>h
   | cons i l ih=>
     intro a ha
     rw [List.foldl_cons]
     refine ih _ (Nat.or_lt_two_pow (n:=8) ha ?_)
     rw [List.getD_eq_getElem?_getD]
     cases h:sets[i.toNat]? with
     | none=>simp
     | some x=>exact hs x (List.mem_of_getElem? h)
 exact key l 0 (by omega)
theorem zfL {w W0:World} {v0:Value} {sets:List Nat} {m:Nat} (h0:Is W0 v0 (zbA sets)) (e0:Ext W0 w) (hs:∀ x∈sets,x<256) (hl:sets.length≤8) (hm:m<2^sets.length) :
   CALL Tryz.prog 116 [v0,.int .i64 (m:Int)] w fun r w'=>Ext w w'∧r=.int .i64 (orL sets (zb7 m):Nat):=by
 refine F116_call ?_
 unfold F116
 have h256:2^sets.length≤2^8:=Nat.pow_le_pow_right (by omega) hl
 refine (zcY (m:=m) (by omega)).mono ?_
 rintro v9 w1 ⟨hx1,ho1⟩
 have hbl:(zb7 m).length≤64:=zhn m 64
 refine zae u33 ho1.is ?_
 refine zaB (zb7 m).length (fun k us w'=>us=[.int .i64 ((orL sets ((zb7 m).take k):Nat):Int),.int .i64 (k:Int)]∧k≤(zb7 m).length∧Ext w1 w') 0 (Nat.zero_le _) ⟨rfl,Nat.zero_le _,Ext.refl _⟩ ?_
 rintro k mk u w2 hkm ⟨hu,hkl,hx2⟩
 obtain ⟨hu1,hu2⟩:=ze4 hu
 rw [hu1,hu2]
 refine zai ?_
 refine br (fun hlt=>?_) (fun hge=>?_)
 case refine_2=>
   have:k=(zb7 m).length:=by omega
   rw [this,List.take_length]
   exact ⟨hx1.trans hx2,rfl⟩
 have hk:k<(zb7 m).length:=by omega
 have hmem:(zb7 m)[k]∈zb7 m:=List.getElem_mem hk
 obtain ⟨i,hi1,hi2,hi3⟩:=zdP.1 hmem
 have hil:i<sets.length:=Decidable.byContradiction fun hc=>by
   have:=Nat.testBit_lt_two_pow (Nat.lt_of_lt_of_le hm (Nat.pow_le_pow_right (by omega) (by omega:sets.length≤i)))
   rw [this] at hi3;cases hi3
 refine zad u33 ty3 (i:=k) ho1.is hk fun b1 o1 hA1=>?_
 refine zac ty3 hA1 hx2 fun _=>?_
 rw [hi2]
 refine zad u33 ty3 (i:=i) h0 (by rw [zaj];exact hil) fun b2 o2 hA2=>?_
 rw [zbq] at hA2
 refine zac ty3 hA2 ((e0.trans hx1).trans hx2) fun _=>?_
 have h1:=zoq hs ((zb7 m).take k)
 have h2:=hs sets[i] (List.getElem_mem hil)
 refine zkf (by omega) (by omega) ?_
 refine zag (by omega) ?_
 refine ⟨mk-1,by omega,k+1,by omega,?_,by omega,hx2⟩
 rw [List.take_succ_eq_append_getElem hk,zst,hi2,Int.toNat_natCast,List.getD_eq_getElem?_getD,List.getElem?_eq_getElem hil]
 rfl
noncomputable def zvl (c:DCode) (p:Nat):List Nat:=zcr c.procs.length (zoo c p 4)
noncomputable def m6 (p:Nat→Prop):Nat:=zg9 p 6
theorem zor {p:Nat→Prop} {l:Nat}:(m6 p).testBit l=true↔l<6∧p l:=zci
theorem zng {p:Nat→Prop}:m6 p<64:=ziN (n:=6)
theorem znh {m l:Nat} (h:m<64) (hb:m.testBit l=true):l<6:=Decidable.byContradiction fun hc=>by
 have:=Nat.testBit_lt_two_pow (Nat.lt_of_lt_of_le (show m<2^6 from h) (Nat.pow_le_pow_right (by omega) (by omega:6≤l)))
 rw [this] at hb;cases hb
theorem zsu {m:Nat} {p:Nat→Prop} (h:m<64) (hb:∀ l,l<6→(m.testBit l=true↔p l)):m=m6 p:=
 zeY fun l=>⟨fun e=>⟨znh h e,(hb l (znh h e)).1 e⟩,fun e=>(hb l e.1).2 e.2⟩
theorem zsv {p q:Nat→Prop} (h:∀ l,l<6→(p l↔q l)):m6 p=m6 q:=zdc h
theorem zeB {m l:Nat} (h:¬m.testBit l=false):m.testBit l=true:=by simpa using h
def za8 (l:List Nat) (i:Nat):Nat:=l.getD i 0
theorem zbe {l:List Nat} {i:Nat} (h:i<l.length):l[i]=za8 l i:=by unfold za8;rw [List.getD_eq_getElem?_getD,List.getElem?_eq_getElem h];rfl
theorem zcj {l:List Nat} {i j v:Nat} (hi:i<l.length):za8 (l.set i v) j=if i=j then v else za8 l j:=by
 unfold za8
 rw [List.getD_eq_getElem?_getD,List.getD_eq_getElem?_getD,List.getElem?_set]
 by_cases h:i=j
 · subst h;simp [hi]
 simp [h]
theorem zkH:∀ {l:List Nat} {i v:Nat},i<l.length→(l.set i v).sum+za8 l i=l.sum+v
 | x :: l,0,v,_=>by simp [za8];omega
 | x :: l,i+1,v,h=>by
   have:=zkH (l:=l) (i:=i) (v:=v) (by simpa using h)
   simp only [za8,List.set_cons_succ,List.sum_cons,List.getD_cons_succ] at this ⊢
   omega
theorem zgT (l:List Nat) (i v:Nat):zbA (l.set i v)=(zbA l).set i (v:Int):=by simp [zbA,List.map_set]
theorem zkI {l:List Nat} {i:Nat} (h:i<l.length):za8 l i∈l:=by rw [←zbe h];exact List.getElem_mem h
theorem zbX {l:List Nat} {i:Nat} (h:i<(zbA l).length):(zbA l)[i]=(za8 l i:Int):=by rw [zbq,zbe]
def eN (c:DCode) (p:Nat):Nat:=(en c p).toNat
def zN (c:DCode) (p:Nat):Nat:=(zdl c p-1).toNat
def agN (c:DCode) (i:Nat):Nat:=(zap c i).arg.toNat
theorem zhZ {c:DCode} (hc:CodeR c) {p:Nat} (hp:p<c.entry.length):en c p=(eN c p:Int)∧eN c p<c.ins.length∧zar c (eN c p)=p:=by
 have h:=znb hc hp
 unfold eN
 rw [Int.toNat_of_nonneg h.1]
 exact ⟨rfl,by omega,h.2.2⟩
theorem zni {c:DCode} (hc:CodeR c) {p:Nat} (hp:p<c.entry.length):zdl c p=(zN c p:Int)+1∧eN c p≤zN c p∧zN c p<c.ins.length:=by
 have h1:=hc.f.lt p hp
 have h2:=hc.f.nonneg hp
 have h4:=hc.f.lt p hp
 have h5:zdl c p≤c.ins.length:=h4.2
 unfold zN eN
 omega
theorem zbP {c:DCode} (hc:CodeR c) {p i:Nat} (hp:p<c.entry.length) (h:zaX c p i):i<c.ins.length∧zar c i=p:=by
 have he:=zhZ hc hp
 rcases h with rfl | h
 · exact ⟨he.2.1,he.2.2⟩
 refine h.keeps (p:=fun i=>i<c.ins.length∧zar c i=p) ⟨he.2.1,he.2.2⟩ fun i j hi hj=>?_
 have:=zdm hc hi.1 hj
 exact ⟨this.1,this.2.trans hi.2⟩
theorem zqK {c:DCode} {p i j:Nat} (h:zaX c p i) (hj:j∈zaY c i):zaX c p j:=by
 rcases h with rfl | h
 · exact .inr (.one hj)
 exact .inr (.more h hj)
theorem zqL {c:DCode} (hc:CodeR c) {p i:Nat} (hi:i<c.ins.length) (hp:p<c.entry.length) (h:zar c i=p):eN c p≤i∧i≤zN c p:=by
 obtain ⟨q,hq,h1,h2,h3⟩:=hc.f.find hc.1.procs8.2 (a:=(i:Int)) (by omega) (by omega)
 have:q=p:=by omega
 subst this
 have h4:=zni hc hp
 have h5:=zhZ hc hp
 omega
theorem zqM {c:DCode} (hc:CodeR c) {p i:Nat} (hp:p<c.entry.length) (h1:eN c p≤i) (h2:i≤zN c p):zar c i=p:=by
 have h4:=zni hc hp
 have h5:=zhZ hc hp
 exact hc.f.proc hp (by omega) (by omega)
theorem zcs {c:DCode} (hc:CodeR c) {i:Nat} (hi:i<c.ins.length) (ho:(zap c i).op=4∨(zap c i).op=5):(zap c i).arg=(agN c i:Int)∧agN c i<c.procs.length:=by
 have harg:=(zgJ hc hi).2.1
 unfold zbG at harg
 rw [if_neg (by omega),if_pos (by omega)] at harg
 unfold agN
 omega
theorem znj {c:DCode} (hc:CodeR c) {i:Nat} (hi:i<c.ins.length) (ho:(zap c i).op=6∨(zap c i).op=7):(zap c i).arg=(agN c i:Int)∧agN c i<c.locks.length∧agN c i<6:=by
 have h:=zog hc hi ho
 have h6:=hc.1.locks6
 unfold agN
 omega
def zvR (c:DCode) (K G:Nat→Nat→Prop) (i l:Nat):Prop:=((zap c i).op=7∧agN c i=l)∨((zap c i).op=4∧¬K (agN c i) l∧¬G (agN c i) l)
def zsw (c:DCode) (G:Nat→Nat→Prop) (i l:Nat):Prop:=¬((zap c i).op=6∧agN c i=l)∧¬((zap c i).op=4∧G (agN c i) l)
inductive LostP (c:DCode) (K G:Nat→Nat→Prop) (p:Nat) (h:Nat→Prop):Nat→Nat→Prop
 | ent {l:Nat} (h0:¬h l):LostP c K G p h (eN c p) l
 | gen {i j l:Nat} (h0:zaX c p i) (hj:j∈zaY c i) (h1:zvR c K G i l):LostP c K G p h j l
 | pass {i j l:Nat} (h0:zaX c p i) (hj:j∈zaY c i) (h1:LostP c K G p h i l) (h2:zsw c G i l):LostP c K G p h j l
theorem LostP.mono {c:DCode} {K K' G G':Nat→Nat→Prop} {p:Nat} {h h':Nat→Prop} (hK:∀ q l,K' q l→K q l) (hG:∀ q l,G' q l→G q l) (hh:∀ l,h' l→h l) {i l:Nat} (hl:LostP c K G p h i l):LostP c K' G' p h' i l:=by
 induction hl with
 | ent h0=>exact .ent fun e=>h0 (hh _ e)
 | gen h0 hj h1=>exact .gen h0 hj (h1.imp id fun ⟨a,b,d⟩=>⟨a,fun e=>b (hK _ _ e),fun e=>d (hG _ _ e)⟩)
 | pass h0 hj _ h2 ih=>exact .pass h0 hj ih ⟨h2.1,fun ⟨a,b⟩=>h2.2 ⟨a,hG _ _ b⟩⟩
abbrev Tab:=List (Nat×Nat)
def tbl (T:Tab) (q:Nat):Nat×Nat:=T.getD q (0,0)
def tK (T:Tab) (q l:Nat):Prop:=(tbl T q).1.testBit l=true
def tG (T:Tab) (q l:Nat):Prop:=(tbl T q).2.testBit l=true
theorem zho {T:Tab} {q:Nat} (h:q<T.length):T[q]=tbl T q:=by unfold tbl;rw [List.getD_eq_getElem?_getD,List.getElem?_eq_getElem h];rfl
theorem zt9 {T:Tab} {q r:Nat} {v:Nat×Nat} (h:q<T.length):tbl (T.set q v) r=if q=r then v else tbl T r:=by
 unfold tbl
 rw [List.getD_eq_getElem?_getD,List.getD_eq_getElem?_getD,List.getElem?_set]
 by_cases e:q=r
 · subst e;simp [h]
 simp [e]
def ztr (c:DCode) (T:Tab):Prop:=T.length=c.procs.length∧∀ q,(tbl T q).1<64∧(tbl T q).2<64
def aft (c:DCode) (T:Tab) (i m:Nat):Nat:=
 if (zap c i).op=6 then m ||| 2^agN c i else if (zap c i).op=7 then zpY m (2^agN c i) else if (zap c i).op=4 then (m &&& (tbl T (agN c i)).1) ||| (tbl T (agN c i)).2 else m
theorem zvm {c:DCode} {T:Tab} (hc:CodeR c) (hT:ztr c T) {i m:Nat} (hi:i<c.ins.length) (hm:m<64):aft c T i m<64:=by
 unfold aft
 split
 · rename_i h
   exact zvk hm (znj hc hi (.inl h)).2.2
 split
 · exact Nat.lt_of_le_of_lt (zne _ _) hm
 split
 · exact Nat.or_lt_two_pow (n:=6) (Nat.lt_of_le_of_lt Nat.and_le_left hm) (hT.2 _).2
 exact hm
theorem zkJ {c:DCode} {T:Tab} {i m l:Nat}:(aft c T i m).testBit l=false↔zvR c (tK T) (tG T) i l∨(zsw c (tG T) i l∧m.testBit l=false):=by
 unfold aft zvR zsw tK tG
 split
 · rename_i h
   rw [Nat.testBit_or,Nat.testBit_two_pow]
   have e6:((zap c i).op=6)=True:=eq_true h
   have e4:((zap c i).op=4)=False:=eq_false (by omega)
   have e7:((zap c i).op=7)=False:=eq_false (by omega)
   simp only [e6,e4,e7,true_and,false_and,false_or,or_false,not_false_eq_true,and_true,Bool.or_eq_false_iff,decide_eq_false_iff_not]
   exact ⟨fun ⟨a,b⟩=>⟨b,a⟩,fun ⟨a,b⟩=>⟨b,a⟩⟩
 rename_i h6
 have e6:((zap c i).op=6)=False:=eq_false h6
 split
 · rename_i h
   have e7:((zap c i).op=7)=True:=eq_true h
   have e4:((zap c i).op=4)=False:=eq_false (by omega)
   rw [zfK,Nat.testBit_two_pow]
   simp only [e6,e4,e7,true_and,false_and,false_or,or_false,not_false_eq_true,and_true,Bool.and_eq_false_iff,Bool.not_eq_false',decide_eq_true_eq]
   exact ⟨fun h=>h.elim .inr .inl,fun h=>h.elim .inr .inl⟩
 rename_i h7
 have e7:((zap c i).op=7)=False:=eq_false h7
 split
 · rename_i h
   have e4:((zap c i).op=4)=True:=eq_true h
   rw [Nat.testBit_or,Nat.testBit_and]
   simp only [e6,e4,e7,true_and,false_and,false_or,not_false_eq_true]
   cases (tbl T (agN c i)).1.testBit l<;>cases (tbl T (agN c i)).2.testBit l<;>cases m.testBit l<;>simp
 rename_i h4
 simp [h6,h7,h4]
noncomputable def zcP (c:DCode) (T:Tab) (p h:Nat):List Nat:=(List.range c.ins.length).map fun i=>m6 fun l=>¬LostP c (tK T) (tG T) p (fun l=>h.testBit l=true) i l
theorem zfl (c:DCode) (T:Tab) (p h:Nat):(zcP c T p h).length=c.ins.length:=by simp [zcP]
theorem zid {c:DCode} {T:Tab} {p h i:Nat} (hi:i<c.ins.length):za8 (zcP c T p h) i=m6 fun l=>¬LostP c (tK T) (tG T) p (fun l=>h.testBit l=true) i l:=by
 rw [←zbe (by rw [zfl];exact hi)];simp [zcP]
theorem zkK {c:DCode} {T:Tab} {p h:Nat}:∀ x∈zcP c T p h,x<64:=fun x hx=>by
 unfold zcP at hx
 obtain ⟨i,_,rfl⟩:=List.mem_map.1 hx
 exact zng
structure FL (c:DCode) (T:Tab) (p h:Nat) (out:List Nat):Prop where
 len:out.length=c.ins.length
 lt:∀ x∈out,x<64
 snd:∀ i l,i<c.ins.length→l<6→(za8 out i).testBit l=false→LostP c (tK T) (tG T) p (fun l=>h.testBit l=true) i l
 ent:∀ l,l<6→h.testBit l=false→(za8 out (eN c p)).testBit l=false
theorem FL.lt0 {c:DCode} {T:Tab} {p h:Nat} {out:List Nat} (h:FL c T p h out) (i:Nat):za8 out i<64:=by
 rcases Nat.lt_or_ge i out.length with hi | hi
 · exact h.lt _ (zkI hi)
 unfold za8;rw [List.getD_eq_getElem?_getD,List.getElem?_eq_none hi];simp
theorem zgU {l:Nat} (h:l<6):(63:Nat).testBit l=true:=by
 have:l=0∨l=1∨l=2∨l=3∨l=4∨l=5:=by omega
 rcases this with rfl | rfl | rfl | rfl | rfl | rfl<;>rfl
theorem FL.start {c:DCode} {T:Tab} {p h:Nat} (hc:CodeR c) (hp:p<c.entry.length) (hh:h<64):FL c T p h ((List.replicate c.ins.length 63).set (eN c p) h):=by
 have he:=(zhZ hc hp).2.1
 have hr:(List.replicate c.ins.length 63).length=c.ins.length:=by simp
 have hg:∀ i,i<c.ins.length→za8 (List.replicate c.ins.length 63) i=63:=fun i hi=>by rw [←zbe (by rw [hr];exact hi)];simp
 refine ⟨by simp,fun x hx=>?_,fun i l hi hl hb=>?_,fun l hl hb=>?_⟩
 · rcases zeW hx with rfl | hx
   · exact hh
   rw [(List.mem_replicate.1 hx).2];omega
 · rw [zcj (by rw [hr];exact he)] at hb
   split at hb
   · rename_i e
     subst e
     exact .ent (by rw [hb];simp)
   rw [hg i hi,zgU hl] at hb;cases hb
 rw [zcj (by rw [hr];exact he),if_pos rfl];exact hb
theorem FL.upd {c:DCode} {T:Tab} {p h:Nat} {out:List Nat} (hF:FL c T p h out) (hc:CodeR c) (hp:p<c.entry.length) (hT:ztr c T) {i j:Nat} (hi:zaX c p i) (hj:j∈zaY c i) :
   FL c T p h (out.set j (za8 out j &&& aft c T i (za8 out i))):=by
 have hil:=(zbP hc hp hi).1
 have hjl:=(zdm hc hil hj).1
 refine ⟨by simp [hF.len],fun x hx=>?_,fun k l hk hl hb=>?_,fun l hl hb=>?_⟩
 · rcases zeW hx with rfl | hx
   · exact Nat.lt_of_le_of_lt Nat.and_le_left (hF.lt0 j)
   exact hF.lt x hx
 · rw [zcj (by rw [hF.len];exact hjl)] at hb
   split at hb
   · rename_i e
     subst e
     rw [Nat.testBit_and,Bool.and_eq_false_iff] at hb
     rcases hb with hb | hb
     · exact hF.snd j l hk hl hb
     rcases zkJ.1 hb with h1 | ⟨h1,h2⟩
     · exact .gen hi hj h1
     exact .pass hi hj (hF.snd i l hil hl h2) h1
   exact hF.snd k l hk hl hb
 rw [zcj (by rw [hF.len];exact hjl)]
 split
 · rename_i e
   rw [Nat.testBit_and,e,hF.ent l hl hb];rfl
 exact hF.ent l hl hb
theorem zts {a b:Nat} (h:a &&& b≠a):a &&& b<a:=by
 have:a &&& b≤a:=Nat.and_le_left
 omega
def zvS (c:DCode) (T:Tab) (out:List Nat) (i:Nat):Prop:=∀ j∈zaY c i,za8 out j &&& aft c T i (za8 out i)=za8 out j
theorem FL.fin {c:DCode} {T:Tab} {p h:Nat} {out:List Nat} (hF:FL c T p h out) (hc:CodeR c) (hp:p<c.entry.length) (hs:∀ i,zaX c p i→zvS c T out i):out=zcP c T p h:=by
 refine List.ext_getElem (by rw [hF.len,zfl]) fun i h1 h2=>?_
 rw [zbe h1,zbe h2,zid (by rw [←hF.len];exact h1)]
 refine zsu (hF.lt0 i) fun l hl=>⟨fun hb hn=>?_,fun hn=>zeB fun hb=>hn (hF.snd i l (by rw [←hF.len];exact h1) hl hb)⟩
 have key:∀ {i l:Nat},LostP c (tK T) (tG T) p (fun l=>h.testBit l=true) i l→l<6→(za8 out i).testBit l=false:=fun {i l} hn=>by
   induction hn with
   | ent h0=>exact fun hl=>hF.ent _ hl (by simpa using h0)
   | gen h0 hj h1=>
     intro hl
     rw [←hs _ h0 _ hj,Nat.testBit_and,zkJ.2 (.inl h1),Bool.and_false]
   | pass h0 hj _ h2 ih=>
     intro hl
     rw [←hs _ h0 _ hj,Nat.testBit_and,zkJ.2 (.inr ⟨h2,ih hl⟩),Bool.and_false]
 rw [key hn hl] at hb;cases hb
def FromP (c:DCode) (p q:Nat):Prop:=q=p∨RP (zvl c) p q
theorem FromP.lt {c:DCode} {p q:Nat} (hp:p<c.procs.length) (h:FromP c p q):q<c.procs.length:=by
 rcases h with rfl | h
 · exact hp
 exact h.keeps (p:=fun i=>i<c.procs.length) hp fun i j _ hj=>(zbo.1 hj).1
theorem FromP.trans {c:DCode} {p q r:Nat} (h:FromP c p q) (k:FromP c q r):FromP c p r:=by
 rcases h with rfl | h
 · exact k
 rcases k with rfl | k
 · exact .inr h
 exact .inr (h.trans k)
theorem FromP.call {c:DCode} {p q r:Nat} (h:FromP c p q) (hr:r<c.procs.length) (k:zoo c q 4 r):FromP c p r:=h.trans (.inr (.one (zbo.2 ⟨hr,k⟩)))
noncomputable def zgg (c:DCode) (p:Nat):Nat:=m6 fun l=>¬ ∃ q i,q<c.procs.length∧FromP c p q∧zaX c q i∧(zap c i).op=7∧agN c i=l
inductive LostE (c:DCode):Nat→Nat→Nat→Prop
 | ent {p l:Nat}:LostE c p (eN c p) l
 | unl {p i j l:Nat} (h0:zaX c p i) (hj:j∈zaY c i) (ho:(zap c i).op=7) (ha:agN c i=l):LostE c p j l
 | cal {p i j l:Nat} (h0:zaX c p i) (hj:j∈zaY c i) (ho:(zap c i).op=4) (hk:(zgg c (agN c i)).testBit l=false) (h1:LostE c (agN c i) (zN c (agN c i)) l):LostE c p j l
 | bck {p i j l:Nat} (h0:zaX c p i) (hj:j∈zaY c i) (ho:(zap c i).op=4) (h2:LostE c p i l) (h1:LostE c (agN c i) (zN c (agN c i)) l):LostE c p j l
 | pass {p i j l:Nat} (h0:zaX c p i) (hj:j∈zaY c i) (h6:¬((zap c i).op=6∧agN c i=l)) (h4:¬(zap c i).op=4) (h1:LostE c p i l):LostE c p j l
noncomputable def zdx (c:DCode):Tab:=(List.range c.procs.length).map fun p=>(zgg c p,m6 fun l=>¬LostE c p (zN c p) l)
theorem zkL (c:DCode):(zdx c).length=c.procs.length:=by simp [zdx]
theorem zqN {c:DCode} {p:Nat} (hp:p<c.procs.length):tbl (zdx c) p=(zgg c p,m6 fun l=>¬LostE c p (zN c p) l):=by
 rw [←zho (by rw [zkL];exact hp)];simp [zdx]
theorem zqO {c:DCode} {T:Tab} (hl:T.length=c.procs.length) (h:∀ q,q<c.procs.length→(tbl T q).1<64∧(tbl T q).2<64):ztr c T:=⟨hl,fun q=>by
 rcases Nat.lt_or_ge q c.procs.length with hq | hq
 · exact h q hq
 unfold tbl;rw [List.getD_eq_getElem?_getD,List.getElem?_eq_none (by omega)];simp⟩
theorem zjN (c:DCode):ztr c (zdx c):=zqO (zkL c) fun q hq=>by rw [zqN hq];exact ⟨zng,zng⟩
noncomputable def zdM (c:DCode) (T:Tab) (p:Nat):Nat:=za8 (zcP c T p 0) (zN c p)
theorem zgV {c:DCode} (hc:CodeR c) {T:Tab} {p l:Nat} (hp:p<c.procs.length) (hl:l<6):(zdM c T p).testBit l=false↔LostP c (tK T) (tG T) p (fun l=>(0:Nat).testBit l=true) (zN c p) l:=by
 have hz:=(zni hc (p:=p) (by rw [hc.2.1.1];exact hp)).2.2
 unfold zdM
 rw [zid hz]
 constructor
 · intro h
   refine Classical.byContradiction fun hn=>?_
   rw [zor.2 ⟨hl,hn⟩] at h;cases h
 intro h
 cases e:(m6 fun l=>¬LostP c (tK T) (tG T) p (fun l=>(0:Nat).testBit l=true) (zN c p) l).testBit l
 · rfl
 exact absurd h (zor.1 e).2
theorem zkM {c:DCode} (hc:CodeR c) {T:Tab} {p:Nat} (hp:p<c.procs.length):zdM c T p<64:=by
 have hz:=(zni hc (p:=p) (by rw [hc.2.1.1];exact hp)).2.2
 unfold zdM
 rw [zid hz];exact zng
structure EI (c:DCode) (T:Tab):Prop where
 tab:ztr c T
 keep:∀ p,p<c.procs.length→(tbl T p).1=zgg c p
 snd:∀ p l,p<c.procs.length→l<6→(tbl T p).2.testBit l=false→LostE c p (zN c p) l
 desc:∀ p l,p<c.procs.length→l<6→(tbl T p).2.testBit l=false→(zdM c T p).testBit l=false
theorem EI.lost {c:DCode} (hc:CodeR c) {T:Tab} (h:EI c T) {p i l:Nat} (hp:p<c.procs.length) (hl:l<6) (k:LostP c (tK T) (tG T) p (fun l=>(0:Nat).testBit l=true) i l):LostE c p i l:=by
 have he:=hc.2.1.1
 induction k with
 | ent _=>exact .ent
 | gen h0 hj h1=>
   have hi:=(zbP hc (by rw [he];exact hp) h0).1
   rcases h1 with ⟨h1,h2⟩ | ⟨h1,h2,h3⟩
   · exact .unl h0 hj h1 h2
   have hq:=(zcs hc hi (.inl h1)).2
   refine .cal h0 hj h1 ?_ (h.snd _ _ hq hl (by unfold tG at h3;simpa using h3))
   unfold tK at h2
   rw [h.keep _ hq] at h2
   simpa using h2
 | @pass i j l h0 hj _ h2 ih=>
   have hi:=(zbP hc (by rw [he];exact hp) h0).1
   by_cases h4:(zap c i).op=4
   · have hq:=(zcs hc hi (.inl h4)).2
     refine .bck h0 hj h4 (ih hl) (h.snd _ _ hq hl ?_)
     have:=h2.2
     unfold tG at this
     simpa [h4] using this
   exact .pass h0 hj h2.1 h4 (ih hl)
theorem EI.start (c:DCode) (hc:CodeR c):EI c ((List.range c.procs.length).map fun p=>(zgg c p,63)):=by
 have hl:((List.range c.procs.length).map fun p=>(zgg c p,63)).length=c.procs.length:=by simp
 have hat:∀ p,p<c.procs.length→tbl ((List.range c.procs.length).map fun p=>(zgg c p,63)) p=(zgg c p,63):=fun p hp=>by
   rw [←zho (by rw [hl];exact hp)];simp
 refine ⟨zqO hl fun q hq=>by rw [hat q hq];exact ⟨zng,by omega⟩,fun p hp=>by rw [hat p hp],fun p l hp h6 hb=>?_,fun p l hp h6 hb=>?_⟩
 · rw [hat p hp,zgU h6] at hb;cases hb
 rw [hat p hp,zgU h6] at hb;cases hb
theorem EI.upd {c:DCode} (hc:CodeR c) {T:Tab} (h:EI c T) {p:Nat} (hp:p<c.procs.length):EI c (T.set p ((tbl T p).1,zdM c T p)):=by
 have hpl:p<T.length:=by rw [h.tab.1];exact hp
 have hat:=fun r=>zt9 (T:=T) (q:=p) (r:=r) (v:=((tbl T p).1,zdM c T p)) hpl
 have hle:∀ q l,l<6→(tbl T q).2.testBit l=false→(tbl (T.set p ((tbl T p).1,zdM c T p)) q).2.testBit l=false:=fun q l hl hb=>by
   rw [hat]
   split
   · rename_i e;subst e;exact h.desc p l hp hl hb
   exact hb
 have hmono:∀ {q l:Nat},q<c.procs.length→l<6→(zdM c T q).testBit l=false→(zdM c (T.set p ((tbl T p).1,zdM c T p)) q).testBit l=false:=fun {q l} hq hl hb=>by
   rw [zgV hc hq hl] at hb ⊢
   have key:∀ {i l:Nat},l<6→LostP c (tK T) (tG T) q (fun l=>(0:Nat).testBit l=true) i l→LostP c (tK (T.set p ((tbl T p).1,zdM c T p))) (tG (T.set p ((tbl T p).1,zdM c T p))) q (fun l=>(0:Nat).testBit l=true) i l:=fun {i l} hl k=>by
     have hK:∀ r l,tK (T.set p ((tbl T p).1,zdM c T p)) r l↔tK T r l:=fun r l=>by
       unfold tK
       rw [hat]
       split
       · rename_i e;rw [←e]
       exact Iff.rfl
     have hG:∀ r,tG (T.set p ((tbl T p).1,zdM c T p)) r l→tG T r l:=fun r e=>by
       unfold tG at e ⊢
       refine zeB fun hf=>?_
       rw [hle r l hl hf] at e;cases e
     clear hb
     induction k with
     | ent h0=>exact .ent h0
     | gen h0 hj h1=>exact .gen h0 hj (h1.imp id fun ⟨a,b,d⟩=>⟨a,fun e=>b ((hK _ _).1 e),fun e=>d (hG _ e)⟩)
     | pass h0 hj _ h2 ih=>exact .pass h0 hj (ih hl hG) ⟨h2.1,fun ⟨a,b⟩=>h2.2 ⟨a,hG _ b⟩⟩
   exact key hl hb
 refine ⟨⟨by simp [h.tab.1],fun q=>?_⟩,fun q hq=>?_,fun q l hq hl hb=>?_,fun q l hq hl hb=>?_⟩
 · rw [hat]
   split
   · exact ⟨(h.tab.2 p).1,zkM hc hp⟩
   exact h.tab.2 q
 · rw [hat]
   split
   · rename_i e;subst e;exact h.keep p hp
   exact h.keep q hq
 · rw [hat] at hb
   split at hb
   · rename_i e;subst e
     exact h.lost hc hp hl ((zgV hc hp hl).1 hb)
   exact h.snd q l hq hl hb
 rw [hat] at hb
 split at hb
 · rename_i e;subst e
   exact hmono hp hl hb
 exact hmono hq hl (h.desc q l hq hl hb)
theorem EI.le {c:DCode} (hc:CodeR c) {T:Tab} (h:EI c T) {p:Nat} (hp:p<c.procs.length):zdM c T p≤(tbl T p).2:=by
 refine Nat.le_of_testBit fun l hb=>?_
 have hl:=znh (zkM hc hp) hb
 refine zeB fun hf=>?_
 rw [h.desc p l hp hl hf] at hb;cases hb
theorem EI.fin {c:DCode} (hc:CodeR c) {T:Tab} (h:EI c T) (hs:∀ p,p<c.procs.length→zdM c T p=(tbl T p).2):T=zdx c:=by
 refine List.ext_getElem (by rw [h.tab.1,zkL]) fun p h1 h2=>?_
 have hp:p<c.procs.length:=by rw [←h.tab.1];exact h1
 rw [zho h1,zho h2,zqN hp]
 have key:∀ {p i l:Nat},LostE c p i l→p<c.procs.length→l<6→LostP c (tK T) (tG T) p (fun l=>(0:Nat).testBit l=true) i l:=fun {p i l} k=>by
   have hz:∀ {i l:Nat},(zap c i).op=4→i<c.ins.length→l<6→(agN c i<c.procs.length→l<6→LostP c (tK T) (tG T) (agN c i) (fun l=>(0:Nat).testBit l=true) (zN c (agN c i)) l)→¬tG T (agN c i) l:=fun {i l} ho hi hl k1=>by
     have hq:=(zcs hc hi (.inl ho)).2
     have:=(zgV hc hq hl).2 (k1 hq hl)
     rw [hs _ hq] at this
     unfold tG
     rw [this];simp
   induction k with
   | ent=>exact fun _ _=>.ent (by simp)
   | unl h0 hj ho ha=>exact fun _ _=>.gen h0 hj (.inl ⟨ho,ha⟩)
   | cal h0 hj ho hk _ ih=>
     intro hp hl
     have hi:=(zbP hc (by rw [hc.2.1.1];exact hp) h0).1
     have hq:=(zcs hc hi (.inl ho)).2
     refine .gen h0 hj (.inr ⟨ho,?_,hz ho hi hl ih⟩)
     unfold tK
     rw [h.keep _ hq,hk];simp
   | bck h0 hj ho _ _ ih2 ih1=>
     intro hp hl
     have hi:=(zbP hc (by rw [hc.2.1.1];exact hp) h0).1
     exact .pass h0 hj (ih2 hp hl) ⟨fun h=>by omega,fun h=>hz ho hi hl ih1 h.2⟩
   | pass h0 hj h6 h4 _ ih=>exact fun hp hl=>.pass h0 hj (ih hp hl) ⟨h6,fun h=>h4 h.1⟩
 refine Prod.ext (h.keep p hp) (zsu (h.tab.2 p).2 fun l hl=>⟨fun hb hn=>?_,fun hn=>zeB fun hb=>hn (h.snd p l hp hl hb)⟩)
 have:=(zgV hc hp hl).2 (key hn hp hl)
 rw [hs p hp] at this
 rw [this] at hb;cases hb
def ztt (T:Tab):Nat:=(T.map (·.2)).sum
theorem zsx {T:Tab} {p:Nat} {v:Nat×Nat} (hp:p<T.length):ztt (T.set p v)+(tbl T p).2=ztt T+v.2:=by
 unfold ztt
 rw [List.map_set]
 have:=zkH (l:=T.map (·.2)) (i:=p) (v:=v.2) (by simpa using hp)
 rw [←zbe (by simpa using hp)] at this
 rw [←zho hp]
 simpa using this
def zcZ (c:DCode):Nat:=(plc zgd c.procs).toNat
inductive RootP (c:DCode):Nat→Prop
 | main:RootP c (zcZ c)
 | spawn {r p q:Nat} (h0:RootP c r) (h1:FromP c r p) (h2:zoo c p 5 q) (hq:q<c.procs.length):RootP c q
def UsedP (c:DCode) (p:Nat):Prop:=∃ r,RootP c r∧FromP c r p
theorem zfM {c:DCode} (hc:CodeR c):plc zgd c.procs=(zcZ c:Int)∧zcZ c<c.procs.length:=by
 have h:=zkA hc
 have h2:=hc.2.1.1
 unfold zcZ
 omega
theorem RootP.lt {c:DCode} (hc:CodeR c) {r:Nat} (h:RootP c r):r<c.procs.length:=by
 cases h with
 | main=>exact (zfM hc).2
 | spawn _ _ _ hq=>exact hq
theorem UsedP.lt {c:DCode} (hc:CodeR c) {p:Nat} (h:UsedP c p):p<c.procs.length:=by
 obtain ⟨r,h1,h2⟩:=h
 exact h2.lt (h1.lt hc)
theorem UsedP.call {c:DCode} {p q:Nat} (h:UsedP c p) (hq:q<c.procs.length) (k:zoo c p 4 q):UsedP c q:=by
 obtain ⟨r,h1,h2⟩:=h
 exact ⟨r,h1,h2.call hq k⟩
inductive LostM (c:DCode) (K G:Nat→Nat→Prop):Nat→Option Nat→Nat→Prop
 | root {p l:Nat} (h:RootP c p):LostM c K G p none l
 | call {p i l:Nat} (hu:UsedP c p) (h0:zaX c p i) (ho:(zap c i).op=4) (h:LostM c K G p (some i) l):LostM c K G (agN c i) none l
 | ent {p l:Nat} (h:LostM c K G p none l):LostM c K G p (some (eN c p)) l
 | gen {p i j l:Nat} (h0:zaX c p i) (hj:j∈zaY c i) (h1:zvR c K G i l):LostM c K G p (some j) l
 | pass {p i j l:Nat} (h0:zaX c p i) (hj:j∈zaY c i) (h1:LostM c K G p (some i) l) (h2:zsw c G i l):LostM c K G p (some j) l
noncomputable def zsy (c:DCode) (p:Nat):Nat:=m6 fun l=>¬LostM c (tK (zdx c)) (tG (zdx c)) p none l
noncomputable def zuX (c:DCode):List Nat:=(List.range c.procs.length).map (zsy c)
theorem zkN (c:DCode):(zuX c).length=c.procs.length:=by simp [zuX]
theorem zqP {c:DCode} {p:Nat} (hp:p<c.procs.length):za8 (zuX c) p=zsy c p:=by rw [←zbe (by rw [zkN];exact hp)];simp [zuX]
structure BI (c:DCode) (out:List Nat):Prop where
 len:out.length=c.procs.length
 lt:∀ x∈out,x<64
 snd:∀ p l,p<c.procs.length→l<6→(za8 out p).testBit l=false→LostM c (tK (zdx c)) (tG (zdx c)) p none l
 root:∀ p l,RootP c p→l<6→(za8 out p).testBit l=false
theorem BI.lt0 {c:DCode} {out:List Nat} (h:BI c out) (i:Nat):za8 out i<64:=by
 rcases Nat.lt_or_ge i out.length with hi | hi
 · exact h.lt _ (zkI hi)
 unfold za8;rw [List.getD_eq_getElem?_getD,List.getElem?_eq_none hi];simp
theorem zkO {c:DCode} {T:Tab} {p h i l:Nat} (hi:i<c.ins.length) (hl:l<6):(za8 (zcP c T p h) i).testBit l=false↔LostP c (tK T) (tG T) p (fun l=>h.testBit l=true) i l:=by
 rw [zid hi]
 constructor
 · intro h
   refine Classical.byContradiction fun hn=>?_
   rw [zor.2 ⟨hl,hn⟩] at h;cases h
 intro k
 cases e:(m6 fun l=>¬LostP c (tK T) (tG T) p (fun l=>h.testBit l=true) i l).testBit l
 · rfl
 exact absurd k (zor.1 e).2
theorem BI.start {c:DCode} (hc:CodeR c) (out:List Nat) (hl:out.length=c.procs.length) (h:∀ p,p<c.procs.length→(RootP c p→za8 out p=0)∧(¬RootP c p→za8 out p=63)):BI c out:=by
 refine ⟨hl,fun x hx=>?_,fun p l hp h6 hb=>?_,fun p l hr h6=>?_⟩
 · obtain ⟨i,hi,rfl⟩:=List.getElem_of_mem hx
   rw [zbe hi]
   have:=h i (by omega)
   by_cases hr:RootP c i
   · rw [this.1 hr];omega
   rw [this.2 hr];omega
 · by_cases hr:RootP c p
   · exact .root hr
   rw [(h p hp).2 hr,zgU h6] at hb;cases hb
 rw [(h p (hr.lt hc)).1 hr];simp
theorem BI.lost {c:DCode} {out:List Nat} (h:BI c out) {p i l:Nat} (hp:p<c.procs.length) (hl:l<6) (k:LostP c (tK (zdx c)) (tG (zdx c)) p (fun l=>(za8 out p).testBit l=true) i l):LostM c (tK (zdx c)) (tG (zdx c)) p (some i) l:=by
 induction k with
 | ent h0=>exact .ent (h.snd p _ hp hl (by simpa using h0))
 | gen h0 hj h1=>exact .gen h0 hj h1
 | pass h0 hj _ h2 ih=>exact .pass h0 hj (ih hl) h2
theorem BI.upd {c:DCode} (hc:CodeR c) {out:List Nat} (h:BI c out) {p i:Nat} (hu:UsedP c p) (hi:zaX c p i) (ho:(zap c i).op=4) :
   BI c (out.set (agN c i) (za8 out (agN c i) &&& za8 (zcP c (zdx c) p (za8 out p)) i)):=by
 have hp:=hu.lt hc
 have hil:=(zbP hc (by rw [hc.2.1.1];exact hp) hi).1
 have hq:=(zcs hc hil (.inl ho)).2
 refine ⟨by simp [h.len],fun x hx=>?_,fun r l hr hl hb=>?_,fun r l hr hl=>?_⟩
 · rcases zeW hx with rfl | hx
   · exact Nat.lt_of_le_of_lt Nat.and_le_left (h.lt0 _)
   exact h.lt x hx
 · rw [zcj (by rw [h.len];exact hq)] at hb
   split at hb
   · rename_i e
     subst e
     rw [Nat.testBit_and,Bool.and_eq_false_iff] at hb
     rcases hb with hb | hb
     · exact h.snd _ l hr hl hb
     refine .call hu hi ho ?_
     exact h.lost hp hl ((zkO hil hl).1 hb)
   exact h.snd r l hr hl hb
 rw [zcj (by rw [h.len];exact hq)]
 split
 · rename_i e
   rw [Nat.testBit_and,e,h.root r l hr hl];rfl
 exact h.root r l hr hl
theorem BI.fin {c:DCode} (hc:CodeR c) {out:List Nat} (h:BI c out) (hs:∀ p i,UsedP c p→zaX c p i→(zap c i).op=4→za8 out (agN c i) &&& za8 (zcP c (zdx c) p (za8 out p)) i=za8 out (agN c i)):out=zuX c:=by
 refine List.ext_getElem (by rw [h.len,zkN]) fun p h1 h2=>?_
 have hp:p<c.procs.length:=by rw [←h.len];exact h1
 rw [zbe h1,zbe h2,zqP hp]
 have key:∀ {p:Nat} {o:Option Nat} {l:Nat},LostM c (tK (zdx c)) (tG (zdx c)) p o l→l<6→match o with
     | none=>(za8 out p).testBit l=false
     | some i=>LostP c (tK (zdx c)) (tG (zdx c)) p (fun l=>(za8 out p).testBit l=true) i l:=fun {p o l} k=>by
   induction k with
   | root hr=>exact fun hl=>h.root _ _ hr hl
   | @call p i l hu h0 ho _ ih=>
     intro hl
     have hil:=(zbP hc (by rw [hc.2.1.1];exact hu.lt hc) h0).1
     simp only
     rw [←hs p i hu h0 ho,Nat.testBit_and,(zkO hil hl).2 (ih hl),Bool.and_false]
   | ent _ ih=>exact fun hl=>.ent (by have:=ih hl;simp only at this;rw [this];simp)
   | gen h0 hj h1=>exact fun hl=>.gen h0 hj h1
   | pass h0 hj _ h2 ih=>exact fun hl=>.pass h0 hj (ih hl) h2
 refine zsu (h.lt0 p) fun l hl=>⟨fun hb hn=>?_,fun hn=>zeB fun hb=>hn (h.snd p l hp hl hb)⟩
 have:=key hn hl
 simp only at this
 rw [this] at hb;cases hb
noncomputable def zfm (c:DCode) (i:Nat):Nat:=@ite _ (UsedP c (zar c i).toNat) (Classical.propDecidable _) (za8 (zcP c (zdx c) (zar c i).toNat (zsy c (zar c i).toNat)) i) 63
noncomputable def zjq (c:DCode):List Nat:=(List.range c.ins.length).map (zfm c)
theorem ziS (c:DCode):(zjq c).length=c.ins.length:=by simp [zjq]
theorem zsz {c:DCode} {i:Nat} (hi:i<c.ins.length):za8 (zjq c) i=zfm c i:=by rw [←zbe (by rw [ziS];exact hi)];simp [zjq]
theorem ziT {l:List Nat} (h:∀ x∈l,x<64) (i:Nat):za8 l i<64:=by
 rcases Nat.lt_or_ge i l.length with hi | hi
 · exact h _ (zkI hi)
 unfold za8;rw [List.getD_eq_getElem?_getD,List.getElem?_eq_none hi];simp
theorem zqQ (c:DCode) (i:Nat):zfm c i<64:=by
 unfold zfm
 split
 · exact ziT zkK i
 omega
theorem zos (c:DCode):∀ x∈zjq c,x<64:=fun x hx=>by
 obtain ⟨i,_,rfl⟩:=List.mem_map.1 hx
 exact zqQ c i
theorem znk {c:DCode} {i p:Nat} (hp:zar c i=p) (hu:UsedP c p):zfm c i=za8 (zcP c (zdx c) p (zsy c p)) i:=by
 unfold zfm
 rw [hp,Int.toNat_natCast,if_pos hu]
theorem zpo {c:DCode} {i p:Nat} (hp:zar c i=p) (hu:¬UsedP c p):zfm c i=63:=by
 unfold zfm
 rw [hp,Int.toNat_natCast,if_neg hu]
inductive MetP (c:DCode):Nat→Prop
 | root {p:Nat} (h:RootP c p):MetP c (eN c p)
 | call {i:Nat} (h:MetP c i) (ho:(zap c i).op=4):MetP c (eN c (agN c i))
 | next {i j:Nat} (h:MetP c i) (ho:¬(zap c i).op=4) (hj:j∈zaY c i):MetP c j
 | back {i j:Nat} (h:MetP c i) (ho:(zap c i).op=4) (hz:MetP c (zN c (agN c i))) (hj:j∈zaY c i):MetP c j
theorem MetP.lt {c:DCode} (hc:CodeR c) {i:Nat} (h:MetP c i):i<c.ins.length:=by
 induction h with
 | root h=>exact (zhZ hc (by rw [hc.2.1.1];exact h.lt hc)).2.1
 | call _ ho ih=>exact (zhZ hc (by rw [hc.2.1.1];exact (zcs hc ih (.inl ho)).2)).2.1
 | next _ _ hj ih=>exact (zdm hc ih hj).1
 | back _ _ _ hj ih _=>exact (zdm hc ih hj).1
noncomputable def zuY (c:DCode):List Bool:=zgP c.ins.length (MetP c)
structure MetC (c:DCode) (M:Nat→Prop):Prop where
 root:∀ p,RootP c p→M (eN c p)
 call:∀ i,M i→(zap c i).op=4→M (eN c (agN c i))
 next:∀ i j,M i→¬(zap c i).op=4→j∈zaY c i→M j
 back:∀ i j,M i→(zap c i).op=4→M (zN c (agN c i))→j∈zaY c i→M j
theorem MetC.all {c:DCode} {M:Nat→Prop} (h:MetC c M) {i:Nat} (k:MetP c i):M i:=by
 induction k with
 | root h1=>exact h.root _ h1
 | call _ ho ih=>exact h.call _ ih ho
 | next _ ho hj ih=>exact h.next _ _ ih ho hj
 | back _ ho _ hj ih1 ih2=>exact h.back _ _ ih1 ho ih2 hj
def F230 (a0 a1 a2:Value) (w:World) (R:VW):Prop:=
 oP (Instr.box 84 a0) w fun x3 w=>
 rF 84 x3 0 w fun x7=>
 rL 3 x7 w fun x8=>
 rB .eql 3 T0 U0 x8 (iV 6) w fun x10=>
 BR x10
 (rF 84 x3 1 w fun x12=>
 rL 3 x12 w fun x13=>
 rD (convert 3 105 x13) w fun x14=>
 rB .shl 3 U0 T0 (iV 1) x14 w fun x15=>
 rB .or 3 T0 T0 a2 x15 w fun x16=>
 R x16 w)
 (rB .eql 3 T0 U0 x8 (iV 7) w fun x18=>
 BR x18
 (rF 84 x3 1 w fun x20=>
 rL 3 x20 w fun x21=>
 rD (convert 3 105 x21) w fun x22=>
 rB .shl 3 U0 T0 (iV 1) x22 w fun x23=>
 rB .andNot 3 T0 T0 a2 x23 w fun x24=>
 R x24 w)
 (rB .eql 3 T0 U0 x8 (iV 4) w fun x26=>
 BR x26
 ((fun w=>rF 84 x3 1 w fun x29=>
 rL 3 x29 w fun x30=>
 rX 172 a1 x30 w fun x31=>
 rF 244 x31 0 w fun x32=>
 rL 3 x32 w fun x33=>
 rB .and 3 T0 T0 a2 x33 w fun x34=>
 rF 84 x3 1 w fun x36=>
 rL 3 x36 w fun x37=>
 rX 172 a1 x37 w fun x38=>
 rF 244 x38 1 w fun x39=>
 rL 3 x39 w fun x40=>
 rB .or 3 T0 T0 x34 x40 w fun x41=>
 R x41 w) (World.drew1 w))
 (R a2 w)))
def cfg230:Cfg:=⟨extL,[],[],[(7,[0,1,2,3,4,5,6,7,8,9,10,11,12,13,14,15],0)],[],[],[]⟩
theorem F230_call {a0 a1 a2:Value} {w:World} {R:VW} (h:F230 a0 a1 a2 w R):cL 230 [a0,a1,a2] w R:=co (g:=cfg230) Tryz.func230 (by kernel_rfl) (by kernel_rfl) (by kernel_rfl) h
open Rep (rep)
structure DEffect where
 keep:Int
 gen:Int
theorem DEffect.ext_iff {x y:DEffect}:x=y↔(x.keep=y.keep∧x.gen=y.gen):=⟨fun h=>by rw [h];exact ⟨rfl,rfl⟩,fun h=>by obtain ⟨h0,h1⟩:=h;cases x;cases y;simp only at h0 h1;simp only [h0,h1]⟩
instance:DecidableEq DEffect:=fun x y=>decidable_of_iff (x.keep=y.keep∧x.gen=y.gen) DEffect.ext_iff.symm
instance:Rep DEffect:=Rep.via fun x=>(x.keep,x.gen)
theorem zlO {w:World} {b o:Nat} {x:DEffect} (h:At w b o x):At w b (o+0) x.keep:=zcm (α:=Int) (β:=Int) (p:=(x.keep,x.gen)) h
theorem zhO {w:World} {b o:Nat} {x:DEffect} (h:At w b o x):At w b (o+1) x.gen:=za4 (α:=Int) (β:=Int) (p:=(x.keep,x.gen)) h
instance:RepZ DEffect:=⟨⟨(RepZ.zv:Int),(RepZ.zv:Int)⟩,RepZ.zc (Int×Int),fun w=>RepZ.zr (α:=Int×Int) w⟩
theorem zjr {γ:Type} {H:List Nat→World→γ→Prop} {F:List Nat} {w:World} {b o:Nat} {G:List Nat} {x:DEffect} {upd:DEffect→γ} (h:Lens H F w b o G x upd) :
   ∃ G1,Lens H F w b (o+1) G1 x.gen (fun y=>upd ⟨x.keep,y⟩):=by
 have h':Lens H F w b o G (x.keep,x.gen) (fun p:Int×Int=>upd ⟨p.1,p.2⟩):=⟨h.here,h.sub,fun w' G' y' hc hO hs=>h.back w' G' _ hc hO hs⟩
 obtain ⟨G0,h'⟩:=h'.snd
 exact ⟨_,h'⟩
theorem zpp {w:World} {x:DEffect} (h_keep:I64 x.keep) (h_gen:I64 x.gen):Mine [] w (.agg #[.int .i64 x.keep,.int .i64 x.gen]) x:=⟨⟨[.int .i64 x.keep,.int .i64 x.gen],⟨[],[],[.int .i64 x.keep],[.int .i64 x.gen],rfl,rfl,⟨rfl,rfl,h_keep⟩,⟨rfl,rfl,h_gen⟩⟩,rfl⟩,List.nodup_nil,Wr.nil w⟩
instance:Flat DEffect:=⟨fun h=>Flat.flat (α:=Int×Int) h⟩
def zsA (x:Nat×Nat):DEffect:=⟨(x.1:Int),(x.2:Int)⟩
def zie (T:Tab):List DEffect:=T.map zsA
theorem zfN (T:Tab):(zie T).length=T.length:=by simp [zie]
theorem zif {T:Tab} {q:Nat} (h:q<(zie T).length):(zie T)[q]=zsA (tbl T q):=by
 have h':q<T.length:=by rw [←zfN];exact h
 rw [←zho h'];simp [zie]
theorem zsB (T:Tab) (q:Nat) (v:Nat×Nat):zie (T.set q v)=(zie T).set q (zsA v):=by simp [zie,List.map_set]
theorem znl {n:Nat} (h:n<6):2^n<64:=Nat.pow_lt_pow_right (n:=6) (by omega) h
theorem FL.updM {c:DCode} {T:Tab} {p h m:Nat} {out:List Nat} (hF:FL c T p h out) (hc:CodeR c) (hp:p<c.entry.length) {i j:Nat} (hi:zaX c p i) (hj:j∈zaY c i)
   (hm:∀ l,l<6→m.testBit l=false→LostP c (tK T) (tG T) p (fun l=>h.testBit l=true) i l):FL c T p h (out.set j (za8 out j &&& aft c T i m)):=by
 have hil:=(zbP hc hp hi).1
 have hjl:=(zdm hc hil hj).1
 refine ⟨by simp [hF.len],fun x hx=>?_,fun k l hk hl hb=>?_,fun l hl hb=>?_⟩
 · rcases zeW hx with rfl | hx
   · exact Nat.lt_of_le_of_lt Nat.and_le_left (hF.lt0 j)
   exact hF.lt x hx
 · rw [zcj (by rw [hF.len];exact hjl)] at hb
   split at hb
   · rename_i e
     subst e
     rw [Nat.testBit_and,Bool.and_eq_false_iff] at hb
     rcases hb with hb | hb
     · exact hF.snd j l hk hl hb
     rcases zkJ.1 hb with h1 | ⟨h1,h2⟩
     · exact .gen hi hj h1
     exact .pass hi hj (hm l hl h2) h1
   exact hF.snd k l hk hl hb
 rw [zcj (by rw [hF.len];exact hjl)]
 split
 · rename_i e
   rw [Nat.testBit_and,e,hF.ent l hl hb];rfl
 exact hF.ent l hl hb
theorem zqR {w W0 W1:World} {v0 v1:Value} {c:DCode} {T:Tab} {i m:Nat} (h0:Is W0 v0 (zap c i)) (e0:Ext W0 w) (h1:Is W1 v1 (zie T)) (e1:Ext W1 w) (hc:CodeR c) (hT:ztr c T) (hi:i<c.ins.length) (hm:m<64) :
   CALL Tryz.prog 230 [v0,v1,.int .i64 (m:Int)] w fun r w'=>Ext w w'∧r=.int .i64 (aft c T i m:Nat):=by
 refine F230_call ?_
 unfold F230
 refine zcz h0 e0 fun w1 hx1 hA=>?_
 have hag4:=fun h=>zcs hc hi (.inl h)
 have hag6:=fun h=>znj hc hi h
 have h8:=hc.1.procs8
 have haft:aft c T i m=if (zap c i).op=6 then m ||| 2^agN c i else if (zap c i).op=7 then zpY m (2^agN c i) else if (zap c i).op=4 then (m &&& (tbl T (agN c i)).1) ||| (tbl T (agN c i)).2 else m:=rfl
 rw [haft]
 clear haft
 generalize agN c i=q at *
 generalize zap c i=I at *
 refine zaa zbx ?_
 refine zac ty3 (zaC hA) (Ext.refl _) fun _=>?_
 refine zaf ?_
 refine br (fun c6=>?_) (fun c6=>?_)
 · obtain ⟨ha,_,hq⟩:=hag6 (.inl c6)
   have hp:=znl hq
   rw [if_pos c6]
   refine zaa zby ?_
   refine zac ty3 (zaD hA) (Ext.refl _) fun _=>?_
   rw [ha]
   refine zdU (by kernel_rfl) zqd (by omega) ?_
   refine zeQ (by omega) ?_
   refine zkf (by omega) (by omega) ?_
   exact ⟨hx1,rfl⟩
 rw [if_neg c6]
 refine zaf ?_
 refine br (fun c7=>?_) (fun c7=>?_)
 · obtain ⟨ha,_,hq⟩:=hag6 (.inr c7)
   have hp:=znl hq
   rw [if_pos c7]
   refine zaa zby ?_
   refine zac ty3 (zaD hA) (Ext.refl _) fun _=>?_
   rw [ha]
   refine zdU (by kernel_rfl) zqd (by omega) ?_
   refine zeQ (by omega) ?_
   refine ziQ (by omega) (by omega) ?_
   exact ⟨hx1,rfl⟩
 rw [if_neg c7]
 refine zaf ?_
 refine br (fun c4=>?_) (fun c4=>?_)
 · obtain ⟨ha,hq⟩:=hag4 c4
   rw [if_pos c4]
   have hx2:=zak w1
   generalize World.drew1 w1=w2 at *
   have hql:q<(zie T).length:=by rw [zfN,hT.1];exact hq
   have hr:=hT.2 q
   have hx12:=hx1.trans hx2
   refine zaa zby ?_
   refine zac ty3 (zaD hA) hx2 fun _=>?_
   rw [ha]
   refine zad zuW zqg h1 hql fun b1 o1 hE=>?_
   rw [zif] at hE
   refine zaa zt0 ?_
   refine zac ty3 (zlO hE) (e1.trans hx12) fun _=>?_
   refine zgS (n:=(tbl T q).1) (by omega) (by omega) ?_
   refine zaa zby ?_
   refine zac ty3 (zaD hA) hx2 fun _=>?_
   rw [ha]
   refine zad zuW zqg h1 hql fun b2 o2 hE2=>?_
   rw [zif] at hE2
   refine zaa zmQ ?_
   refine zac ty3 (zhO hE2) (e1.trans hx12) fun _=>?_
   have:=Nat.and_le_left (n:=m) (m:=(tbl T q).1)
   refine zkf (n:=(tbl T q).2) (by omega) (by omega) ?_
   exact ⟨hx12,rfl⟩
 rw [if_neg c4]
 exact ⟨hx1,rfl⟩
end Go.Proofs.YtcnglfeoglgebaaGreat
