/-
  Names: the program's and the reference's tests.
-/
import Derived.Test.YteephmhilnlkpaaGreatConv
import Derived.Test.YteephmhilnlkpaaGreatTerm
namespace Go.Proofs.YteephmhilnlkpaaGreat
open Go Go.Sh Go.Proofs
set_option linter.unusedVariables false
set_option linter.unusedSimpArgs false

def letB (b : UInt8) : Bool := decide ((97 : Int) ≤ (b.toNat : Int) ∧ (b.toNat : Int) ≤ 122)
def figB (b : UInt8) : Bool := decide ((48 : Int) ≤ (b.toNat : Int) ∧ (b.toNat : Int) ≤ 57)
def wordB (s : ByteArray) : Bool := decide (s.size ≤ 12) && (bts s).head?.any letB && (bts s).all (fun b => letB b || figB b)
def kw : List ByteArray := [.mk #[97, 110, 100], .mk #[99, 97, 108, 108], .mk #[101, 108, 115, 101], .mk #[103, 108, 111, 98, 97, 108, 115], .mk #[105, 102], .mk #[108, 111, 99, 107], .mk #[108, 111, 99, 107, 115],
  .mk #[110, 111, 116], .mk #[112, 114, 111, 99], .mk #[115, 107, 105, 112], .mk #[115, 112, 97, 119, 110], .mk #[117, 110, 108, 111, 99, 107], .mk #[119, 104, 105, 108, 101]]
/-- is it a name? -/
def nameB (s : ByteArray) : Bool := wordB s && !decide (s ∈ kw)

/-- impl.isSmall -/
def F281 (a0 : Value) (w : World) (R : Value → World → Prop) : Prop :=
  RD Tryz.prog (bin .geq 5 (.tmp 0) (.const undef) a0 (Value.int .u8 97)) w fun x4 =>
  BR x4
  (RD Tryz.prog (bin .leq 5 (.tmp 0) (.const undef) a0 (Value.int .u8 122)) w fun x7 =>
  R x7 w)
  (R (Value.bool false) w)
def cfg281 : Cfg := { ext := extL, joins := [], loops := [], draws := [], pars := [] }
theorem F281_eq (a0 : Value) (w : World) (R : Value → World → Prop) : vcF Tryz.prog cfg281 Tryz.f281 [a0] w R = F281 a0 w R := by kernel_rfl
theorem F281_call {a0 : Value} {w : World} {R : Value → World → Prop} (h : F281 a0 w R) : CALL Tryz.prog 281 [a0] w R :=
  call_of (g := cfg281) ent mixed Tryz.func281 (Nat.le_of_ble_eq_true (by kernel_rfl)) (by kernel_rfl) (F281_eq a0 w R ▸ h)


theorem isSmall_ok {w : World} {n : Nat}    :
    CALL Tryz.prog 281 [.int .u8 (n : Int)] w fun r w' => Ext w w' ∧ (r = .bool (decide ((97 : Int) ≤ (n : Int) ∧ (n : Int) ≤ 122))) := by
  refine F281_call ?_
  unfold F281
  refine rd_geq ?_
  refine br (fun c1 => ?_) (fun c1 => ?_)
  · refine rd_leq ?_
    refine ⟨Ext.refl w, ?_⟩
    simp [c1]
  · refine ⟨Ext.refl w, ?_⟩
    simp [c1]

/-- impl.isFigure -/
def F282 (a0 : Value) (w : World) (R : Value → World → Prop) : Prop :=
  RD Tryz.prog (bin .geq 5 (.tmp 0) (.const undef) a0 (Value.int .u8 48)) w fun x4 =>
  BR x4
  (RD Tryz.prog (bin .leq 5 (.tmp 0) (.const undef) a0 (Value.int .u8 57)) w fun x7 =>
  R x7 w)
  (R (Value.bool false) w)
def cfg282 : Cfg := { ext := extL, joins := [], loops := [], draws := [], pars := [] }
theorem F282_eq (a0 : Value) (w : World) (R : Value → World → Prop) : vcF Tryz.prog cfg282 Tryz.f282 [a0] w R = F282 a0 w R := by kernel_rfl
theorem F282_call {a0 : Value} {w : World} {R : Value → World → Prop} (h : F282 a0 w R) : CALL Tryz.prog 282 [a0] w R :=
  call_of (g := cfg282) ent mixed Tryz.func282 (Nat.le_of_ble_eq_true (by kernel_rfl)) (by kernel_rfl) (F282_eq a0 w R ▸ h)


theorem isFigure_ok {w : World} {n : Nat}    :
    CALL Tryz.prog 282 [.int .u8 (n : Int)] w fun r w' => Ext w w' ∧ (r = .bool (decide ((48 : Int) ≤ (n : Int) ∧ (n : Int) ≤ 57))) := by
  refine F282_call ?_
  unfold F282
  refine rd_geq ?_
  refine br (fun c1 => ?_) (fun c1 => ?_)
  · refine rd_leq ?_
    refine ⟨Ext.refl w, ?_⟩
    simp [c1]
  · refine ⟨Ext.refl w, ?_⟩
    simp [c1]

/-- spec.l02Letter -/
def F300 (a0 : Value) (w : World) (R : Value → World → Prop) : Prop :=
  RD Tryz.prog (bin .geq 5 (.tmp 0) (.const undef) a0 (Value.int .u8 97)) w fun x4 =>
  BR x4
  (RD Tryz.prog (bin .leq 5 (.tmp 0) (.const undef) a0 (Value.int .u8 122)) w fun x7 =>
  R x7 w)
  (R (Value.bool false) w)
def cfg300 : Cfg := { ext := extL, joins := [], loops := [], draws := [], pars := [] }
theorem F300_eq (a0 : Value) (w : World) (R : Value → World → Prop) : vcF Tryz.prog cfg300 Tryz.f300 [a0] w R = F300 a0 w R := by kernel_rfl
theorem F300_call {a0 : Value} {w : World} {R : Value → World → Prop} (h : F300 a0 w R) : CALL Tryz.prog 300 [a0] w R :=
  call_of (g := cfg300) ent mixed Tryz.func300 (Nat.le_of_ble_eq_true (by kernel_rfl)) (by kernel_rfl) (F300_eq a0 w R ▸ h)


theorem l02Letter_ok {w : World} {n : Nat}    :
    CALL Tryz.prog 300 [.int .u8 (n : Int)] w fun r w' => Ext w w' ∧ (r = .bool (decide ((97 : Int) ≤ (n : Int) ∧ (n : Int) ≤ 122))) := by
  refine F300_call ?_
  unfold F300
  refine rd_geq ?_
  refine br (fun c1 => ?_) (fun c1 => ?_)
  · refine rd_leq ?_
    refine ⟨Ext.refl w, ?_⟩
    simp [c1]
  · refine ⟨Ext.refl w, ?_⟩
    simp [c1]

/-- spec.l02Figure -/
def F301 (a0 : Value) (w : World) (R : Value → World → Prop) : Prop :=
  RD Tryz.prog (bin .geq 5 (.tmp 0) (.const undef) a0 (Value.int .u8 48)) w fun x4 =>
  BR x4
  (RD Tryz.prog (bin .leq 5 (.tmp 0) (.const undef) a0 (Value.int .u8 57)) w fun x7 =>
  R x7 w)
  (R (Value.bool false) w)
def cfg301 : Cfg := { ext := extL, joins := [], loops := [], draws := [], pars := [] }
theorem F301_eq (a0 : Value) (w : World) (R : Value → World → Prop) : vcF Tryz.prog cfg301 Tryz.f301 [a0] w R = F301 a0 w R := by kernel_rfl
theorem F301_call {a0 : Value} {w : World} {R : Value → World → Prop} (h : F301 a0 w R) : CALL Tryz.prog 301 [a0] w R :=
  call_of (g := cfg301) ent mixed Tryz.func301 (Nat.le_of_ble_eq_true (by kernel_rfl)) (by kernel_rfl) (F301_eq a0 w R ▸ h)


theorem l02Figure_ok {w : World} {n : Nat}    :
    CALL Tryz.prog 301 [.int .u8 (n : Int)] w fun r w' => Ext w w' ∧ (r = .bool (decide ((48 : Int) ≤ (n : Int) ∧ (n : Int) ≤ 57))) := by
  refine F301_call ?_
  unfold F301
  refine rd_geq ?_
  refine br (fun c1 => ?_) (fun c1 => ?_)
  · refine rd_leq ?_
    refine ⟨Ext.refl w, ?_⟩
    simp [c1]
  · refine ⟨Ext.refl w, ?_⟩
    simp [c1]

theorem head_bts {s : ByteArray} (h : 0 < s.size) : (bts s).head? = some ((bts s)[0]'(by rw [bts_len]; exact h)) := by
  rw [List.head?_eq_getElem?, List.getElem?_eq_getElem (by rw [bts_len]; exact h)]
theorem word_empty {s : ByteArray} (h : s.size = 0) : wordB s = false := by
  have : bts s = [] := List.eq_nil_of_length_eq_zero (by rw [bts_len]; exact h)
  simp [wordB, this]
theorem word_long {s : ByteArray} (h : 12 < s.size) : wordB s = false := by
  simp [wordB, Nat.not_le.2 h]
theorem word_head {s : ByteArray} (h : 0 < s.size) (c : ¬ ((97 : Int) ≤ (((bts s)[0]'(by rw [bts_len]; exact h)).toNat : Int) ∧ (((bts s)[0]'(by rw [bts_len]; exact h)).toNat : Int) ≤ 122)) : wordB s = false := by
  have : letB ((bts s)[0]'(by rw [bts_len]; exact h)) = false := by simp only [letB, c, decide_false]
  simp [wordB, head_bts h, this]
theorem word_at {s : ByteArray} {k : Nat} (h : k < s.size) (c1 : ¬ ((97 : Int) ≤ (((bts s)[k]'(by rw [bts_len]; exact h)).toNat : Int) ∧ (((bts s)[k]'(by rw [bts_len]; exact h)).toNat : Int) ≤ 122))
    (c2 : ¬ ((48 : Int) ≤ (((bts s)[k]'(by rw [bts_len]; exact h)).toNat : Int) ∧ (((bts s)[k]'(by rw [bts_len]; exact h)).toNat : Int) ≤ 57)) : wordB s = false := by
  have h1 : letB ((bts s)[k]'(by rw [bts_len]; exact h)) = false := by simp only [letB, c1, decide_false]
  have h2 : figB ((bts s)[k]'(by rw [bts_len]; exact h)) = false := by simp only [figB, c2, decide_false]
  have : (bts s).all (fun b => letB b || figB b) = false := by
    rw [List.all_eq_false]
    exact ⟨_, List.getElem_mem (by rw [bts_len]; exact h), by simp [h1, h2]⟩
  simp [wordB, this]
theorem word_step {s : ByteArray} {k : Nat} (h : k < s.size) (hi : ∀ b ∈ (bts s).take k, (letB b || figB b) = true) (c : letB ((bts s)[k]'(by rw [bts_len]; exact h)) = true ∨ figB ((bts s)[k]'(by rw [bts_len]; exact h)) = true) :
    ∀ b ∈ (bts s).take (k + 1), (letB b || figB b) = true := by
  rw [List.take_succ_eq_append_getElem (by rw [bts_len]; exact h)]
  intro b hb
  rcases List.mem_append.1 hb with hb | hb
  · exact hi b hb
  · simp only [List.mem_cons, List.not_mem_nil, or_false] at hb
    subst hb
    simpa using c
theorem word_all {s : ByteArray} {k : Nat} (h0 : 0 < s.size) (h1 : s.size ≤ 12) (c : (97 : Int) ≤ (((bts s)[0]'(by rw [bts_len]; exact h0)).toNat : Int) ∧ (((bts s)[0]'(by rw [bts_len]; exact h0)).toNat : Int) ≤ 122) (hk : s.size ≤ k)
    (hi : ∀ b ∈ (bts s).take k, (letB b || figB b) = true) : wordB s = true := by
  rw [List.take_of_length_le (by rw [bts_len]; exact hk)] at hi
  have e1 : letB ((bts s)[0]'(by rw [bts_len]; exact h0)) = true := by simp only [letB, c, and_self, decide_true]
  have e2 : (bts s).all (fun b => letB b || figB b) = true := List.all_eq_true.2 hi
  simp [wordB, head_bts h0, e1, e2, h1]
/-- spec.l02Word -/
def F280 (a0 : Value) (w : World) (R : Value → World → Prop) : Prop :=
  RD Tryz.prog (Builtin.len_ #[9] 3 [a0].toArray) w fun x5 =>
  RD Tryz.prog (bin .eql 3 (.tmp 0) (.const undef) x5 (Value.int .i64 0)) w fun x6 =>
  BR x6
  (R (Value.bool false) w)
  (RD Tryz.prog (Builtin.len_ #[9] 3 [a0].toArray) w fun x9 =>
  RD Tryz.prog (bin .gtr 3 (.tmp 0) (.const undef) x9 (Value.int .i64 12)) w fun x10 =>
  BR x10
  (R (Value.bool false) w)
  (RD Tryz.prog (Instr.index 9 a0 (Value.int .i64 0)) w fun x14 =>
  CALL Tryz.prog 300 [x14] w fun x15 w =>
  RD Tryz.prog (Op.unary .not x15) w fun x16 =>
  BR x16
   (R (Value.bool false) w)
   (LOOPI [3] [(Value.int .i64 0)] w fun u4 w next4 =>
    RD Tryz.prog (Builtin.len_ #[9] 3 [a0].toArray) w fun x20 =>
    RD Tryz.prog (bin .lss 3 (.tmp 0) (.tmp 0) (u4 3) x20) w fun x21 =>
    BR x21
     (RD Tryz.prog (Instr.index 9 a0 (u4 3)) w fun x26 =>
     CALL Tryz.prog 300 [x26] w fun x27 w =>
     RD Tryz.prog (Op.unary .not x27) w fun x28 =>
     BR x28
     (RD Tryz.prog (Instr.index 9 a0 (u4 3)) w fun x32 =>
     CALL Tryz.prog 301 [x32] w fun x33 w =>
     RD Tryz.prog (Op.unary .not x33) w fun x34 =>
     BR x34
      (R (Value.bool false) w)
      (RD Tryz.prog (bin .add 3 (.tmp 0) (.const undef) (u4 3) (Value.int .i64 1)) w fun x23 =>
      next4 [x23] w))
     (RD Tryz.prog (bin .add 3 (.tmp 0) (.const undef) (u4 3) (Value.int .i64 1)) w fun x23 =>
      next4 [x23] w))
     (R (Value.bool true) w))))
def cfg280 : Cfg := { ext := extL, joins := [], loops := [(4, 68719214604, [3])], draws := [], pars := [] }
theorem F280_eq (a0 : Value) (w : World) (R : Value → World → Prop) : vcF Tryz.prog cfg280 Tryz.f280 [a0] w R = F280 a0 w R := by kernel_rfl
theorem F280_call {a0 : Value} {w : World} {R : Value → World → Prop} (h : F280 a0 w R) : CALL Tryz.prog 280 [a0] w R :=
  call_of (g := cfg280) ent mixed Tryz.func280 (Nat.le_of_ble_eq_true (by kernel_rfl)) (by kernel_rfl) (F280_eq a0 w R ▸ h)


theorem l02Word_ok {w : World} {s : ByteArray}    :
    CALL Tryz.prog 280 [.string s] w fun r w' => Ext w w' ∧ (r = .bool (wordB s)) := by
  refine F280_call ?_
  unfold F280
  refine rd_lenS u9 ?_
  refine rd_eql ?_
  refine br (fun c1 => ?_) (fun c1 => ?_)
  · refine ⟨Ext.refl w, ?_⟩
    rw [word_empty (by omega)]
  · refine rd_lenS u9 ?_
    refine rd_gtr ?_
    refine br (fun c2 => ?_) (fun c2 => ?_)
    · refine ⟨Ext.refl w, ?_⟩
      rw [word_long (by omega)]
    · refine rd_indexS (i := 0) u9 (by omega) ?_
      refine (l02Letter_ok ).mono ?_
      rintro _ w1_ ⟨hx1_, rfl⟩
      refine rd_nodec ?_
      refine br (fun c3 => ?_) (fun c3 => ?_)
      · refine ⟨hx1_, ?_⟩
        rw [word_head (by omega) c3]
      · refine loopC (s.size) (fun k us w' => us = [.int .i64 (k : Int)] ∧ Ext w1_ w' ∧ (∀ b ∈ (bts s).take k, (letB b || figB b) = true)) (0) (by omega) ⟨by simp, Ext.refl w1_, by simp⟩ ?_
        rintro k m4 uu4 w2_ hk4 ⟨hu, hx2_, hinv⟩
        simp only [List.map_cons, List.map_nil, List.cons.injEq, and_true] at hu
        try rw [hu]
        try clear hu
        refine rd_lenS u9 ?_
        refine rd_lss ?_
        refine br (fun c4 => ?_) (fun c4 => ?_)
        · refine rd_indexS u9 (by omega) ?_
          refine (l02Letter_ok ).mono ?_
          rintro _ w3_ ⟨hx3_, rfl⟩
          refine rd_nodec ?_
          refine br (fun c5 => ?_) (fun c5 => ?_)
          · refine rd_indexS u9 (by omega) ?_
            refine (l02Figure_ok ).mono ?_
            rintro _ w4_ ⟨hx4_, rfl⟩
            refine rd_nodec ?_
            refine br (fun c6 => ?_) (fun c6 => ?_)
            · refine ⟨(hx1_.trans (hx2_.trans (hx3_.trans hx4_))), ?_⟩
              rw [word_at (by omega) c5 c6]
            · refine rd_inc (by omega) ?_
              refine ⟨m4 - 1, by omega, k + 1, by omega, by simp, (hx2_.trans (hx3_.trans hx4_)), ?_⟩
              exact word_step (by omega) hinv (.inr (by simp only [figB, Decidable.not_not.1 c6, and_self, decide_true]))
          · refine rd_inc (by omega) ?_
            refine ⟨m4 - 1, by omega, k + 1, by omega, by simp, (hx2_.trans hx3_), ?_⟩
            exact word_step (by omega) hinv (.inl (by simp only [letB, Decidable.not_not.1 c5, and_self, decide_true]))
        · refine ⟨(hx1_.trans hx2_), ?_⟩
          rw [word_all (by omega) (by omega) (Decidable.not_not.1 c3) (by omega) hinv]

/-- spec.IsName -/
def F252 (a0 : Value) (w : World) (R : Value → World → Prop) : Prop :=
  RD Tryz.prog (bin .eql 9 (.tmp 0) (.const undef) a0 (Value.string (ByteArray.mk #[97, 110, 100]))) w fun x5 =>
  BR x5
   (R (Value.bool false) w)
   (RD Tryz.prog (bin .eql 9 (.tmp 0) (.const undef) a0 (Value.string (ByteArray.mk #[99, 97, 108, 108]))) w fun x6 =>
   BR x6
    (R (Value.bool false) w)
    (RD Tryz.prog (bin .eql 9 (.tmp 0) (.const undef) a0 (Value.string (ByteArray.mk #[101, 108, 115, 101]))) w fun x7 =>
    BR x7
     (R (Value.bool false) w)
     (RD Tryz.prog (bin .eql 9 (.tmp 0) (.const undef) a0 (Value.string (ByteArray.mk #[103, 108, 111, 98, 97, 108, 115]))) w fun x8 =>
     BR x8
      (R (Value.bool false) w)
      (RD Tryz.prog (bin .eql 9 (.tmp 0) (.const undef) a0 (Value.string (ByteArray.mk #[105, 102]))) w fun x9 =>
      BR x9
       (R (Value.bool false) w)
       (RD Tryz.prog (bin .eql 9 (.tmp 0) (.const undef) a0 (Value.string (ByteArray.mk #[108, 111, 99, 107]))) w fun x10 =>
       BR x10
        (R (Value.bool false) w)
        (RD Tryz.prog (bin .eql 9 (.tmp 0) (.const undef) a0 (Value.string (ByteArray.mk #[108, 111, 99, 107, 115]))) w fun x11 =>
        BR x11
         (R (Value.bool false) w)
         (RD Tryz.prog (bin .eql 9 (.tmp 0) (.const undef) a0 (Value.string (ByteArray.mk #[110, 111, 116]))) w fun x12 =>
         BR x12
          (R (Value.bool false) w)
          (RD Tryz.prog (bin .eql 9 (.tmp 0) (.const undef) a0 (Value.string (ByteArray.mk #[112, 114, 111, 99]))) w fun x13 =>
          BR x13
           (R (Value.bool false) w)
           (RD Tryz.prog (bin .eql 9 (.tmp 0) (.const undef) a0 (Value.string (ByteArray.mk #[115, 107, 105, 112]))) w fun x14 =>
           BR x14
            (R (Value.bool false) w)
            (RD Tryz.prog (bin .eql 9 (.tmp 0) (.const undef) a0 (Value.string (ByteArray.mk #[115, 112, 97, 119, 110]))) w fun x15 =>
            BR x15
             (R (Value.bool false) w)
             (RD Tryz.prog (bin .eql 9 (.tmp 0) (.const undef) a0 (Value.string (ByteArray.mk #[117, 110, 108, 111, 99, 107]))) w fun x16 =>
             BR x16
              (R (Value.bool false) w)
              (RD Tryz.prog (bin .eql 9 (.tmp 0) (.const undef) a0 (Value.string (ByteArray.mk #[119, 104, 105, 108, 101]))) w fun x17 =>
              BR x17
               (R (Value.bool false) w)
               (CALL Tryz.prog 280 [a0] w fun x19 w =>
               R x19 w)))))))))))))
def cfg252 : Cfg := { ext := extL, joins := [], loops := [], draws := [], pars := [] }
theorem F252_eq (a0 : Value) (w : World) (R : Value → World → Prop) : vcF Tryz.prog cfg252 Tryz.f252 [a0] w R = F252 a0 w R := by kernel_rfl
theorem F252_call {a0 : Value} {w : World} {R : Value → World → Prop} (h : F252 a0 w R) : CALL Tryz.prog 252 [a0] w R :=
  call_of (g := cfg252) ent mixed Tryz.func252 (Nat.le_of_ble_eq_true (by kernel_rfl)) (by kernel_rfl) (F252_eq a0 w R ▸ h)


theorem specIsName_ok {w : World} {s : ByteArray}    :
    CALL Tryz.prog 252 [.string s] w fun r w' => Ext w w' ∧ (r = .bool (nameB s)) := by
  refine F252_call ?_
  unfold F252
  refine rd_eqlS ?_
  refine br (fun c1 => ?_) (fun c1 => ?_)
  · refine ⟨Ext.refl w, ?_⟩
    have hm : s ∈ kw := by simp [kw, *]
    simp [nameB, hm]
  · refine rd_eqlS ?_
    refine br (fun c2 => ?_) (fun c2 => ?_)
    · refine ⟨Ext.refl w, ?_⟩
      have hm : s ∈ kw := by simp [kw, *]
      simp [nameB, hm]
    · refine rd_eqlS ?_
      refine br (fun c3 => ?_) (fun c3 => ?_)
      · refine ⟨Ext.refl w, ?_⟩
        have hm : s ∈ kw := by simp [kw, *]
        simp [nameB, hm]
      · refine rd_eqlS ?_
        refine br (fun c4 => ?_) (fun c4 => ?_)
        · refine ⟨Ext.refl w, ?_⟩
          have hm : s ∈ kw := by simp [kw, *]
          simp [nameB, hm]
        · refine rd_eqlS ?_
          refine br (fun c5 => ?_) (fun c5 => ?_)
          · refine ⟨Ext.refl w, ?_⟩
            have hm : s ∈ kw := by simp [kw, *]
            simp [nameB, hm]
          · refine rd_eqlS ?_
            refine br (fun c6 => ?_) (fun c6 => ?_)
            · refine ⟨Ext.refl w, ?_⟩
              have hm : s ∈ kw := by simp [kw, *]
              simp [nameB, hm]
            · refine rd_eqlS ?_
              refine br (fun c7 => ?_) (fun c7 => ?_)
              · refine ⟨Ext.refl w, ?_⟩
                have hm : s ∈ kw := by simp [kw, *]
                simp [nameB, hm]
              · refine rd_eqlS ?_
                refine br (fun c8 => ?_) (fun c8 => ?_)
                · refine ⟨Ext.refl w, ?_⟩
                  have hm : s ∈ kw := by simp [kw, *]
                  simp [nameB, hm]
                · refine rd_eqlS ?_
                  refine br (fun c9 => ?_) (fun c9 => ?_)
                  · refine ⟨Ext.refl w, ?_⟩
                    have hm : s ∈ kw := by simp [kw, *]
                    simp [nameB, hm]
                  · refine rd_eqlS ?_
                    refine br (fun c10 => ?_) (fun c10 => ?_)
                    · refine ⟨Ext.refl w, ?_⟩
                      have hm : s ∈ kw := by simp [kw, *]
                      simp [nameB, hm]
                    · refine rd_eqlS ?_
                      refine br (fun c11 => ?_) (fun c11 => ?_)
                      · refine ⟨Ext.refl w, ?_⟩
                        have hm : s ∈ kw := by simp [kw, *]
                        simp [nameB, hm]
                      · refine rd_eqlS ?_
                        refine br (fun c12 => ?_) (fun c12 => ?_)
                        · refine ⟨Ext.refl w, ?_⟩
                          have hm : s ∈ kw := by simp [kw, *]
                          simp [nameB, hm]
                        · refine rd_eqlS ?_
                          refine br (fun c13 => ?_) (fun c13 => ?_)
                          · refine ⟨Ext.refl w, ?_⟩
                            have hm : s ∈ kw := by simp [kw, *]
                            simp [nameB, hm]
                          · refine (l02Word_ok ).mono ?_
                            rintro _ w1_ ⟨hx1_, rfl⟩
                            refine ⟨hx1_, ?_⟩
                            have hm : s ∉ kw := by simp [kw, *]
                            simp [nameB, hm]

/-- impl.IsName -/
def F254 (a0 : Value) (w : World) (R : Value → World → Prop) : Prop :=
  RD Tryz.prog (Builtin.len_ #[9] 3 [a0].toArray) w fun x5 =>
  RD Tryz.prog (bin .lss 3 (.tmp 0) (.const undef) x5 (Value.int .i64 1)) w fun x6 =>
  BR x6
  (R (Value.bool false) w)
  (RD Tryz.prog (Builtin.len_ #[9] 3 [a0].toArray) w fun x9 =>
  RD Tryz.prog (bin .gtr 3 (.tmp 0) (.const undef) x9 (Value.int .i64 12)) w fun x10 =>
  BR x10
  (R (Value.bool false) w)
  (RD Tryz.prog (Instr.index 9 a0 (Value.int .i64 0)) w fun x14 =>
  CALL Tryz.prog 281 [x14] w fun x15 w =>
  RD Tryz.prog (Op.unary .not x15) w fun x16 =>
  BR x16
   (R (Value.bool false) w)
   (LOOPI [3] [(Value.int .i64 0)] w fun u4 w next4 =>
    RD Tryz.prog (Builtin.len_ #[9] 3 [a0].toArray) w fun x20 =>
    RD Tryz.prog (bin .lss 3 (.tmp 0) (.tmp 0) (u4 3) x20) w fun x21 =>
    BR x21
     (RD Tryz.prog (Instr.index 9 a0 (u4 3)) w fun x26 =>
     CALL Tryz.prog 281 [x26] w fun x27 w =>
     RD Tryz.prog (Op.unary .not x27) w fun x28 =>
     BR x28
     (RD Tryz.prog (Instr.index 9 a0 (u4 3)) w fun x32 =>
     CALL Tryz.prog 282 [x32] w fun x33 w =>
     RD Tryz.prog (Op.unary .not x33) w fun x34 =>
     BR x34
      (R (Value.bool false) w)
      (RD Tryz.prog (bin .add 3 (.tmp 0) (.const undef) (u4 3) (Value.int .i64 1)) w fun x23 =>
      next4 [x23] w))
     (RD Tryz.prog (bin .add 3 (.tmp 0) (.const undef) (u4 3) (Value.int .i64 1)) w fun x23 =>
      next4 [x23] w))
     (RD Tryz.prog (bin .eql 9 (.tmp 0) (.const undef) a0 (Value.string (ByteArray.mk #[97, 110, 100]))) w fun x38 =>
     BR x38
      (R (Value.bool false) w)
      (RD Tryz.prog (bin .eql 9 (.tmp 0) (.const undef) a0 (Value.string (ByteArray.mk #[99, 97, 108, 108]))) w fun x39 =>
      BR x39
       (R (Value.bool false) w)
       (RD Tryz.prog (bin .eql 9 (.tmp 0) (.const undef) a0 (Value.string (ByteArray.mk #[101, 108, 115, 101]))) w fun x40 =>
       BR x40
        (R (Value.bool false) w)
        (RD Tryz.prog (bin .eql 9 (.tmp 0) (.const undef) a0 (Value.string (ByteArray.mk #[103, 108, 111, 98, 97, 108, 115]))) w fun x41 =>
        BR x41
         (R (Value.bool false) w)
         (RD Tryz.prog (bin .eql 9 (.tmp 0) (.const undef) a0 (Value.string (ByteArray.mk #[105, 102]))) w fun x42 =>
         BR x42
          (R (Value.bool false) w)
          (RD Tryz.prog (bin .eql 9 (.tmp 0) (.const undef) a0 (Value.string (ByteArray.mk #[108, 111, 99, 107]))) w fun x43 =>
          BR x43
           (R (Value.bool false) w)
           (RD Tryz.prog (bin .eql 9 (.tmp 0) (.const undef) a0 (Value.string (ByteArray.mk #[108, 111, 99, 107, 115]))) w fun x44 =>
           BR x44
            (R (Value.bool false) w)
            (RD Tryz.prog (bin .eql 9 (.tmp 0) (.const undef) a0 (Value.string (ByteArray.mk #[110, 111, 116]))) w fun x45 =>
            BR x45
             (R (Value.bool false) w)
             (RD Tryz.prog (bin .eql 9 (.tmp 0) (.const undef) a0 (Value.string (ByteArray.mk #[112, 114, 111, 99]))) w fun x46 =>
             BR x46
              (R (Value.bool false) w)
              (RD Tryz.prog (bin .eql 9 (.tmp 0) (.const undef) a0 (Value.string (ByteArray.mk #[115, 107, 105, 112]))) w fun x47 =>
              BR x47
               (R (Value.bool false) w)
               (RD Tryz.prog (bin .eql 9 (.tmp 0) (.const undef) a0 (Value.string (ByteArray.mk #[115, 112, 97, 119, 110]))) w fun x48 =>
               BR x48
                (R (Value.bool false) w)
                (RD Tryz.prog (bin .eql 9 (.tmp 0) (.const undef) a0 (Value.string (ByteArray.mk #[117, 110, 108, 111, 99, 107]))) w fun x49 =>
                BR x49
                 (R (Value.bool false) w)
                 (RD Tryz.prog (bin .eql 9 (.tmp 0) (.const undef) a0 (Value.string (ByteArray.mk #[119, 104, 105, 108, 101]))) w fun x50 =>
                 BR x50
                  (R (Value.bool false) w)
                  (R (Value.bool true) w)))))))))))))))))
def cfg254 : Cfg := { ext := extL, joins := [], loops := [(4, 68719214604, [3])], draws := [], pars := [] }
theorem F254_eq (a0 : Value) (w : World) (R : Value → World → Prop) : vcF Tryz.prog cfg254 Tryz.f254 [a0] w R = F254 a0 w R := by kernel_rfl
theorem F254_call {a0 : Value} {w : World} {R : Value → World → Prop} (h : F254 a0 w R) : CALL Tryz.prog 254 [a0] w R :=
  call_of (g := cfg254) ent mixed Tryz.func254 (Nat.le_of_ble_eq_true (by kernel_rfl)) (by kernel_rfl) (F254_eq a0 w R ▸ h)


theorem implIsName_ok {w : World} {s : ByteArray}    :
    CALL Tryz.prog 254 [.string s] w fun r w' => Ext w w' ∧ (r = .bool (nameB s)) := by
  refine F254_call ?_
  unfold F254
  refine rd_lenS u9 ?_
  refine rd_lss ?_
  refine br (fun c1 => ?_) (fun c1 => ?_)
  · refine ⟨Ext.refl w, ?_⟩
    simp [nameB, word_empty (s := s) (by omega)]
  · refine rd_lenS u9 ?_
    refine rd_gtr ?_
    refine br (fun c2 => ?_) (fun c2 => ?_)
    · refine ⟨Ext.refl w, ?_⟩
      simp [nameB, word_long (s := s) (by omega)]
    · refine rd_indexS (i := 0) u9 (by omega) ?_
      refine (isSmall_ok ).mono ?_
      rintro _ w1_ ⟨hx1_, rfl⟩
      refine rd_nodec ?_
      refine br (fun c3 => ?_) (fun c3 => ?_)
      · refine ⟨hx1_, ?_⟩
        simp [nameB, word_head (s := s) (by omega) c3]
      · refine loopC (s.size) (fun k us w' => us = [.int .i64 (k : Int)] ∧ Ext w1_ w' ∧ (∀ b ∈ (bts s).take k, (letB b || figB b) = true)) (0) (by omega) ⟨by simp, Ext.refl w1_, by simp⟩ ?_
        rintro k m4 uu4 w2_ hk4 ⟨hu, hx2_, hinv⟩
        simp only [List.map_cons, List.map_nil, List.cons.injEq, and_true] at hu
        try rw [hu]
        try clear hu
        refine rd_lenS u9 ?_
        refine rd_lss ?_
        refine br (fun c4 => ?_) (fun c4 => ?_)
        · refine rd_indexS u9 (by omega) ?_
          refine (isSmall_ok ).mono ?_
          rintro _ w3_ ⟨hx3_, rfl⟩
          refine rd_nodec ?_
          refine br (fun c5 => ?_) (fun c5 => ?_)
          · refine rd_indexS u9 (by omega) ?_
            refine (isFigure_ok ).mono ?_
            rintro _ w4_ ⟨hx4_, rfl⟩
            refine rd_nodec ?_
            refine br (fun c6 => ?_) (fun c6 => ?_)
            · refine ⟨(hx1_.trans (hx2_.trans (hx3_.trans hx4_))), ?_⟩
              simp [nameB, word_at (s := s) (by omega) c5 c6]
            · refine rd_inc (by omega) ?_
              refine ⟨m4 - 1, by omega, k + 1, by omega, by simp, (hx2_.trans (hx3_.trans hx4_)), ?_⟩
              exact word_step (by omega) hinv (.inr (by simp only [figB, Decidable.not_not.1 c6, and_self, decide_true]))
          · refine rd_inc (by omega) ?_
            refine ⟨m4 - 1, by omega, k + 1, by omega, by simp, (hx2_.trans hx3_), ?_⟩
            exact word_step (by omega) hinv (.inl (by simp only [letB, Decidable.not_not.1 c5, and_self, decide_true]))
        · refine rd_eqlS ?_
          refine br (fun c7 => ?_) (fun c7 => ?_)
          · refine ⟨(hx1_.trans hx2_), ?_⟩
            have hm : s ∈ kw := by simp only [kw, List.mem_cons, *, true_or, or_true]
            simp [nameB, hm]
          · refine rd_eqlS ?_
            refine br (fun c8 => ?_) (fun c8 => ?_)
            · refine ⟨(hx1_.trans hx2_), ?_⟩
              have hm : s ∈ kw := by simp only [kw, List.mem_cons, *, true_or, or_true]
              simp [nameB, hm]
            · refine rd_eqlS ?_
              refine br (fun c9 => ?_) (fun c9 => ?_)
              · refine ⟨(hx1_.trans hx2_), ?_⟩
                have hm : s ∈ kw := by simp only [kw, List.mem_cons, *, true_or, or_true]
                simp [nameB, hm]
              · refine rd_eqlS ?_
                refine br (fun c10 => ?_) (fun c10 => ?_)
                · refine ⟨(hx1_.trans hx2_), ?_⟩
                  have hm : s ∈ kw := by simp only [kw, List.mem_cons, *, true_or, or_true]
                  simp [nameB, hm]
                · refine rd_eqlS ?_
                  refine br (fun c11 => ?_) (fun c11 => ?_)
                  · refine ⟨(hx1_.trans hx2_), ?_⟩
                    have hm : s ∈ kw := by simp only [kw, List.mem_cons, *, true_or, or_true]
                    simp [nameB, hm]
                  · refine rd_eqlS ?_
                    refine br (fun c12 => ?_) (fun c12 => ?_)
                    · refine ⟨(hx1_.trans hx2_), ?_⟩
                      have hm : s ∈ kw := by simp only [kw, List.mem_cons, *, true_or, or_true]
                      simp [nameB, hm]
                    · refine rd_eqlS ?_
                      refine br (fun c13 => ?_) (fun c13 => ?_)
                      · refine ⟨(hx1_.trans hx2_), ?_⟩
                        have hm : s ∈ kw := by simp only [kw, List.mem_cons, *, true_or, or_true]
                        simp [nameB, hm]
                      · refine rd_eqlS ?_
                        refine br (fun c14 => ?_) (fun c14 => ?_)
                        · refine ⟨(hx1_.trans hx2_), ?_⟩
                          have hm : s ∈ kw := by simp only [kw, List.mem_cons, *, true_or, or_true]
                          simp [nameB, hm]
                        · refine rd_eqlS ?_
                          refine br (fun c15 => ?_) (fun c15 => ?_)
                          · refine ⟨(hx1_.trans hx2_), ?_⟩
                            have hm : s ∈ kw := by simp only [kw, List.mem_cons, *, true_or, or_true]
                            simp [nameB, hm]
                          · refine rd_eqlS ?_
                            refine br (fun c16 => ?_) (fun c16 => ?_)
                            · refine ⟨(hx1_.trans hx2_), ?_⟩
                              have hm : s ∈ kw := by simp only [kw, List.mem_cons, *, true_or, or_true]
                              simp [nameB, hm]
                            · refine rd_eqlS ?_
                              refine br (fun c17 => ?_) (fun c17 => ?_)
                              · refine ⟨(hx1_.trans hx2_), ?_⟩
                                have hm : s ∈ kw := by simp only [kw, List.mem_cons, *, true_or, or_true]
                                simp [nameB, hm]
                              · refine rd_eqlS ?_
                                refine br (fun c18 => ?_) (fun c18 => ?_)
                                · refine ⟨(hx1_.trans hx2_), ?_⟩
                                  have hm : s ∈ kw := by simp only [kw, List.mem_cons, *, true_or, or_true]
                                  simp [nameB, hm]
                                · refine rd_eqlS ?_
                                  refine br (fun c19 => ?_) (fun c19 => ?_)
                                  · refine ⟨(hx1_.trans hx2_), ?_⟩
                                    have hm : s ∈ kw := by simp only [kw, List.mem_cons, *, true_or, or_true]
                                    simp [nameB, hm]
                                  · refine ⟨(hx1_.trans hx2_), ?_⟩
                                    have hm : s ∉ kw := by simp only [kw, List.mem_cons, List.not_mem_nil, or_false, *, not_false_eq_true]
                                    simp [nameB, hm, word_all (by omega) (by omega) (Decidable.not_not.1 c3) (by omega) hinv]

end Go.Proofs.YteephmhilnlkpaaGreat
