/-
  Parts of the proof, put together by program.
-/
import Derived.Test.YtjgfldfbljmhhaaGreatPSeenAll2
namespace Go.Proofs.YtjgfldfbljmhhaaGreat
open Go Go.Sh Go.Proofs
set_option linter.unusedVariables false
set_option linter.unusedSimpArgs false
def letB (b : UInt8) : Bool := decide ((97 : Int) ≤ (b.toNat : Int) ∧ (b.toNat : Int) ≤ 122)
def figB (b : UInt8) : Bool := decide ((48 : Int) ≤ (b.toNat : Int) ∧ (b.toNat : Int) ≤ 57)
def wordB (s : ByteArray) : Bool := decide (s.size ≤ 12) && (bts s).head?.any letB && (bts s).all (fun b => letB b || figB b)
def kw : List ByteArray := [.mk #[97, 110, 100], .mk #[99, 97, 108, 108], .mk #[101, 108, 115, 101], .mk #[103, 108, 111, 98, 97, 108, 115], .mk #[105, 102], .mk #[108, 111, 99, 107], .mk #[108, 111, 99, 107, 115],
  .mk #[110, 111, 116], .mk #[112, 114, 111, 99], .mk #[115, 107, 105, 112], .mk #[115, 112, 97, 119, 110], .mk #[117, 110, 108, 111, 99, 107], .mk #[119, 104, 105, 108, 101]]
def nameB (s : ByteArray) : Bool := wordB s && !decide (s ∈ kw)
def F310 (a0 : Value) (w : World) (R : Value → World → Prop) : Prop :=
 RD Tryz.prog (bin .geq 5 (.tmp 0) (.const undef) a0 (Value.int .u8 97)) w fun x4 =>
 BR x4
 (RD Tryz.prog (bin .leq 5 (.tmp 0) (.const undef) a0 (Value.int .u8 122)) w fun x7 =>
 R x7 w)
 (R (Value.bool false) w)
def cfg310 : Cfg := { ext := extL, joins := [], loops := [], draws := [], pars := [] }
theorem F310_eq (a0 : Value) (w : World) (R : Value → World → Prop) : vcF Tryz.prog cfg310 Tryz.f310 [a0] w R = F310 a0 w R := by kernel_rfl
theorem F310_call {a0 : Value} {w : World} {R : Value → World → Prop} (h : F310 a0 w R) : CALL Tryz.prog 310 [a0] w R :=
  call_of (g := cfg310) ent mixed Tryz.func310 (Nat.le_of_ble_eq_true (by kernel_rfl)) (by kernel_rfl) (F310_eq a0 w R ▸ h)
theorem isSmall_ok {w : World} {n : Nat}    :
    CALL Tryz.prog 310 [.int .u8 (n : Int)] w fun r w' => Ext w w' ∧ (r = .bool (decide ((97 : Int) ≤ (n : Int) ∧ (n : Int) ≤ 122))) := by
  refine F310_call ?_
  unfold F310
  refine rd_geq ?_
  refine br (fun c1 => ?_) (fun c1 => ?_)
  · refine rd_leq ?_
    refine ⟨Ext.refl w, ?_⟩
    simp [c1]
  · refine ⟨Ext.refl w, ?_⟩
    simp [c1]
def F311 (a0 : Value) (w : World) (R : Value → World → Prop) : Prop :=
 RD Tryz.prog (bin .geq 5 (.tmp 0) (.const undef) a0 (Value.int .u8 48)) w fun x4 =>
 BR x4
 (RD Tryz.prog (bin .leq 5 (.tmp 0) (.const undef) a0 (Value.int .u8 57)) w fun x7 =>
 R x7 w)
 (R (Value.bool false) w)
def cfg311 : Cfg := { ext := extL, joins := [], loops := [], draws := [], pars := [] }
theorem F311_eq (a0 : Value) (w : World) (R : Value → World → Prop) : vcF Tryz.prog cfg311 Tryz.f311 [a0] w R = F311 a0 w R := by kernel_rfl
theorem F311_call {a0 : Value} {w : World} {R : Value → World → Prop} (h : F311 a0 w R) : CALL Tryz.prog 311 [a0] w R :=
  call_of (g := cfg311) ent mixed Tryz.func311 (Nat.le_of_ble_eq_true (by kernel_rfl)) (by kernel_rfl) (F311_eq a0 w R ▸ h)
theorem isFigure_ok {w : World} {n : Nat}    :
    CALL Tryz.prog 311 [.int .u8 (n : Int)] w fun r w' => Ext w w' ∧ (r = .bool (decide ((48 : Int) ≤ (n : Int) ∧ (n : Int) ≤ 57))) := by
  refine F311_call ?_
  unfold F311
  refine rd_geq ?_
  refine br (fun c1 => ?_) (fun c1 => ?_)
  · refine rd_leq ?_
    refine ⟨Ext.refl w, ?_⟩
    simp [c1]
  · refine ⟨Ext.refl w, ?_⟩
    simp [c1]
def F312 (a0 : Value) (w : World) (R : Value → World → Prop) : Prop :=
 RD Tryz.prog (bin .geq 5 (.tmp 0) (.const undef) a0 (Value.int .u8 97)) w fun x4 =>
 BR x4
 (RD Tryz.prog (bin .leq 5 (.tmp 0) (.const undef) a0 (Value.int .u8 122)) w fun x7 =>
 R x7 w)
 (R (Value.bool false) w)
def cfg312 : Cfg := { ext := extL, joins := [], loops := [], draws := [], pars := [] }
theorem F312_eq (a0 : Value) (w : World) (R : Value → World → Prop) : vcF Tryz.prog cfg312 Tryz.f312 [a0] w R = F312 a0 w R := by kernel_rfl
theorem F312_call {a0 : Value} {w : World} {R : Value → World → Prop} (h : F312 a0 w R) : CALL Tryz.prog 312 [a0] w R :=
  call_of (g := cfg312) ent mixed Tryz.func312 (Nat.le_of_ble_eq_true (by kernel_rfl)) (by kernel_rfl) (F312_eq a0 w R ▸ h)
theorem l02Letter_ok {w : World} {n : Nat}    :
    CALL Tryz.prog 312 [.int .u8 (n : Int)] w fun r w' => Ext w w' ∧ (r = .bool (decide ((97 : Int) ≤ (n : Int) ∧ (n : Int) ≤ 122))) := by
  refine F312_call ?_
  unfold F312
  refine rd_geq ?_
  refine br (fun c1 => ?_) (fun c1 => ?_)
  · refine rd_leq ?_
    refine ⟨Ext.refl w, ?_⟩
    simp [c1]
  · refine ⟨Ext.refl w, ?_⟩
    simp [c1]
def F313 (a0 : Value) (w : World) (R : Value → World → Prop) : Prop :=
 RD Tryz.prog (bin .geq 5 (.tmp 0) (.const undef) a0 (Value.int .u8 48)) w fun x4 =>
 BR x4
 (RD Tryz.prog (bin .leq 5 (.tmp 0) (.const undef) a0 (Value.int .u8 57)) w fun x7 =>
 R x7 w)
 (R (Value.bool false) w)
def cfg313 : Cfg := { ext := extL, joins := [], loops := [], draws := [], pars := [] }
theorem F313_eq (a0 : Value) (w : World) (R : Value → World → Prop) : vcF Tryz.prog cfg313 Tryz.f313 [a0] w R = F313 a0 w R := by kernel_rfl
theorem F313_call {a0 : Value} {w : World} {R : Value → World → Prop} (h : F313 a0 w R) : CALL Tryz.prog 313 [a0] w R :=
  call_of (g := cfg313) ent mixed Tryz.func313 (Nat.le_of_ble_eq_true (by kernel_rfl)) (by kernel_rfl) (F313_eq a0 w R ▸ h)
theorem l02Figure_ok {w : World} {n : Nat}    :
    CALL Tryz.prog 313 [.int .u8 (n : Int)] w fun r w' => Ext w w' ∧ (r = .bool (decide ((48 : Int) ≤ (n : Int) ∧ (n : Int) ≤ 57))) := by
  refine F313_call ?_
  unfold F313
  refine rd_geq ?_
  refine br (fun c1 => ?_) (fun c1 => ?_)
  · refine rd_leq ?_
    refine ⟨Ext.refl w, ?_⟩
    simp [c1]
  · refine ⟨Ext.refl w, ?_⟩
    simp [c1]
theorem head_bts {s : ByteArray} (h : 0 < s.size) : (bts s).head? = some ((bts s)[0]'(by rw [bts_len]; exact h)) := by
  rw [List.head?_eq_getElem?, List.getElem?_eq_getElem (by rw [bts_len]; exact h)]
theorem word_empty {s : ByteArray} (h : s.size = 0) : wordB s = false := by
  have : bts s = [] := List.eq_nil_of_length_eq_zero (by rw [bts_len]; exact h)
  simp [wordB, this]
theorem word_long {s : ByteArray} (h : 12 < s.size) : wordB s = false := by
  simp [wordB, Nat.not_le.2 h]
theorem word_head {s : ByteArray} (h : 0 < s.size) (c : ¬ ((97 : Int) ≤ (((bts s)[0]'(by rw [bts_len]; exact h)).toNat : Int) ∧ (((bts s)[0]'(by rw [bts_len]; exact h)).toNat : Int) ≤ 122)) : wordB s = false := by
  have : letB ((bts s)[0]'(by rw [bts_len]; exact h)) = false := by simp only [letB, c, decide_false]
  simp [wordB, head_bts h, this]
theorem word_at {s : ByteArray} {k : Nat} (h : k < s.size) (c1 : ¬ ((97 : Int) ≤ (((bts s)[k]'(by rw [bts_len]; exact h)).toNat : Int) ∧ (((bts s)[k]'(by rw [bts_len]; exact h)).toNat : Int) ≤ 122))
    (c2 : ¬ ((48 : Int) ≤ (((bts s)[k]'(by rw [bts_len]; exact h)).toNat : Int) ∧ (((bts s)[k]'(by rw [bts_len]; exact h)).toNat : Int) ≤ 57)) : wordB s = false := by
  have h1 : letB ((bts s)[k]'(by rw [bts_len]; exact h)) = false := by simp only [letB, c1, decide_false]
  have h2 : figB ((bts s)[k]'(by rw [bts_len]; exact h)) = false := by simp only [figB, c2, decide_false]
  have : (bts s).all (fun b => letB b || figB b) = false := by
    rw [List.all_eq_false]
    exact ⟨_, List.getElem_mem (by rw [bts_len]; exact h), by simp [h1, h2]⟩
  simp [wordB, this]
theorem word_step {s : ByteArray} {k : Nat} (h : k < s.size) (hi : ∀ b ∈ (bts s).take k, (letB b || figB b) = true) (c : letB ((bts s)[k]'(by rw [bts_len]; exact h)) = true ∨ figB ((bts s)[k]'(by rw [bts_len]; exact h)) = true) :
    ∀ b ∈ (bts s).take (k + 1), (letB b || figB b) = true := by
  rw [List.take_succ_eq_append_getElem (by rw [bts_len]; exact h)]
  intro b hb
  rcases List.mem_append.1 hb with hb | hb
  · exact hi b hb
  · simp only [List.mem_cons, List.not_mem_nil, or_false] at hb
    subst hb
    simpa using c
theorem word_all {s : ByteArray} {k : Nat} (h0 : 0 < s.size) (h1 : s.size ≤ 12) (c : (97 : Int) ≤ (((bts s)[0]'(by rw [bts_len]; exact h0)).toNat : Int) ∧ (((bts s)[0]'(by rw [bts_len]; exact h0)).toNat : Int) ≤ 122) (hk : s.size ≤ k)
    (hi : ∀ b ∈ (bts s).take k, (letB b || figB b) = true) : wordB s = true := by
  rw [List.take_of_length_le (by rw [bts_len]; exact hk)] at hi
  have e1 : letB ((bts s)[0]'(by rw [bts_len]; exact h0)) = true := by simp only [letB, c, and_self, decide_true]
  have e2 : (bts s).all (fun b => letB b || figB b) = true := List.all_eq_true.2 hi
  simp [wordB, head_bts h0, e1, e2, h1]
def F288 (a0 : Value) (w : World) (R : Value → World → Prop) : Prop :=
 RD Tryz.prog (Builtin.len_ #[9] 3 [a0].toArray) w fun x5 =>
 RD Tryz.prog (bin .eql 3 (.tmp 0) (.const undef) x5 (Value.int .i64 0)) w fun x6 =>
 BR x6
 (R (Value.bool false) w)
 (RD Tryz.prog (Builtin.len_ #[9] 3 [a0].toArray) w fun x9 =>
 RD Tryz.prog (bin .gtr 3 (.tmp 0) (.const undef) x9 (Value.int .i64 12)) w fun x10 =>
 BR x10
 (R (Value.bool false) w)
 (RD Tryz.prog (Instr.index 9 a0 (Value.int .i64 0)) w fun x14 =>
 CALL Tryz.prog 312 [x14] w fun x15 w =>
 RD Tryz.prog (Op.unary .not x15) w fun x16 =>
 BR x16
 (R (Value.bool false) w)
 (LOOPI [3] [(Value.int .i64 0)] w fun u4 w next4 =>
 RD Tryz.prog (Builtin.len_ #[9] 3 [a0].toArray) w fun x20 =>
 RD Tryz.prog (bin .lss 3 (.tmp 0) (.tmp 0) (u4 3) x20) w fun x21 =>
 BR x21
 (RD Tryz.prog (Instr.index 9 a0 (u4 3)) w fun x26 =>
 CALL Tryz.prog 312 [x26] w fun x27 w =>
 RD Tryz.prog (Op.unary .not x27) w fun x28 =>
 BR x28
 (RD Tryz.prog (Instr.index 9 a0 (u4 3)) w fun x32 =>
 CALL Tryz.prog 313 [x32] w fun x33 w =>
 RD Tryz.prog (Op.unary .not x33) w fun x34 =>
 BR x34
 (R (Value.bool false) w)
 (RD Tryz.prog (bin .add 3 (.tmp 0) (.const undef) (u4 3) (Value.int .i64 1)) w fun x23 =>
 next4 [x23] w))
 (RD Tryz.prog (bin .add 3 (.tmp 0) (.const undef) (u4 3) (Value.int .i64 1)) w fun x23 =>
 next4 [x23] w))
 (R (Value.bool true) w))))
def cfg288 : Cfg := { ext := extL, joins := [], loops := [(4, 68719214604, [3])], draws := [], pars := [] }
theorem F288_eq (a0 : Value) (w : World) (R : Value → World → Prop) : vcF Tryz.prog cfg288 Tryz.f288 [a0] w R = F288 a0 w R := by kernel_rfl
theorem F288_call {a0 : Value} {w : World} {R : Value → World → Prop} (h : F288 a0 w R) : CALL Tryz.prog 288 [a0] w R :=
  call_of (g := cfg288) ent mixed Tryz.func288 (Nat.le_of_ble_eq_true (by kernel_rfl)) (by kernel_rfl) (F288_eq a0 w R ▸ h)
theorem l02Word_ok {w : World} {s : ByteArray}    :
    CALL Tryz.prog 288 [.string s] w fun r w' => Ext w w' ∧ (r = .bool (wordB s)) := by
  refine F288_call ?_
  unfold F288
  refine rd_lenS u9 ?_
  refine rd_eql ?_
  refine br (fun c1 => ?_) (fun c1 => ?_)
  · refine ⟨Ext.refl w, ?_⟩
    rw [word_empty (by omega)]
  · refine rd_lenS u9 ?_
    refine rd_gtr ?_
    refine br (fun c2 => ?_) (fun c2 => ?_)
    · refine ⟨Ext.refl w, ?_⟩
      rw [word_long (by omega)]
    · refine rd_indexS (i := 0) u9 (by omega) ?_
      refine (l02Letter_ok ).mono ?_
      rintro _ w1_ ⟨hx1_, rfl⟩
      refine rd_nodec ?_
      refine br (fun c3 => ?_) (fun c3 => ?_)
      · refine ⟨hx1_, ?_⟩
        rw [word_head (by omega) c3]
      · refine loopC (s.size) (fun k us w' => us = [.int .i64 (k : Int)] ∧ Ext w1_ w' ∧ (∀ b ∈ (bts s).take k, (letB b || figB b) = true)) (0) (by omega) ⟨by simp, Ext.refl w1_, by simp⟩ ?_
        rintro k m4 uu4 w2_ hk4 ⟨hu, hx2_, hinv⟩
        simp only [List.map_cons, List.map_nil, List.cons.injEq, and_true] at hu
        try rw [hu]
        try clear hu
        refine rd_lenS u9 ?_
        refine rd_lss ?_
        refine br (fun c4 => ?_) (fun c4 => ?_)
        · refine rd_indexS u9 (by omega) ?_
          refine (l02Letter_ok ).mono ?_
          rintro _ w3_ ⟨hx3_, rfl⟩
          refine rd_nodec ?_
          refine br (fun c5 => ?_) (fun c5 => ?_)
          · refine rd_indexS u9 (by omega) ?_
            refine (l02Figure_ok ).mono ?_
            rintro _ w4_ ⟨hx4_, rfl⟩
            refine rd_nodec ?_
            refine br (fun c6 => ?_) (fun c6 => ?_)
            · refine ⟨(hx1_.trans (hx2_.trans (hx3_.trans hx4_))), ?_⟩
              rw [word_at (by omega) c5 c6]
            · refine rd_inc (by omega) ?_
              refine ⟨m4 - 1, by omega, k + 1, by omega, by simp, (hx2_.trans (hx3_.trans hx4_)), ?_⟩
              exact word_step (by omega) hinv (.inr (by simp only [figB, Decidable.not_not.1 c6, and_self, decide_true]))
          · refine rd_inc (by omega) ?_
            refine ⟨m4 - 1, by omega, k + 1, by omega, by simp, (hx2_.trans hx3_), ?_⟩
            exact word_step (by omega) hinv (.inl (by simp only [letB, Decidable.not_not.1 c5, and_self, decide_true]))
        · refine ⟨(hx1_.trans hx2_), ?_⟩
          rw [word_all (by omega) (by omega) (Decidable.not_not.1 c3) (by omega) hinv]
def F245 (a0 : Value) (w : World) (R : Value → World → Prop) : Prop :=
 RD Tryz.prog (bin .eql 9 (.tmp 0) (.const undef) a0 (Value.string (ByteArray.mk #[97, 110, 100]))) w fun x5 =>
 BR x5
 (R (Value.bool false) w)
 (RD Tryz.prog (bin .eql 9 (.tmp 0) (.const undef) a0 (Value.string (ByteArray.mk #[99, 97, 108, 108]))) w fun x6 =>
 BR x6
 (R (Value.bool false) w)
 (RD Tryz.prog (bin .eql 9 (.tmp 0) (.const undef) a0 (Value.string (ByteArray.mk #[101, 108, 115, 101]))) w fun x7 =>
 BR x7
 (R (Value.bool false) w)
 (RD Tryz.prog (bin .eql 9 (.tmp 0) (.const undef) a0 (Value.string (ByteArray.mk #[103, 108, 111, 98, 97, 108, 115]))) w fun x8 =>
 BR x8
 (R (Value.bool false) w)
 (RD Tryz.prog (bin .eql 9 (.tmp 0) (.const undef) a0 (Value.string (ByteArray.mk #[105, 102]))) w fun x9 =>
 BR x9
 (R (Value.bool false) w)
 (RD Tryz.prog (bin .eql 9 (.tmp 0) (.const undef) a0 (Value.string (ByteArray.mk #[108, 111, 99, 107]))) w fun x10 =>
 BR x10
 (R (Value.bool false) w)
 (RD Tryz.prog (bin .eql 9 (.tmp 0) (.const undef) a0 (Value.string (ByteArray.mk #[108, 111, 99, 107, 115]))) w fun x11 =>
 BR x11
 (R (Value.bool false) w)
 (RD Tryz.prog (bin .eql 9 (.tmp 0) (.const undef) a0 (Value.string (ByteArray.mk #[110, 111, 116]))) w fun x12 =>
 BR x12
 (R (Value.bool false) w)
 (RD Tryz.prog (bin .eql 9 (.tmp 0) (.const undef) a0 (Value.string (ByteArray.mk #[112, 114, 111, 99]))) w fun x13 =>
 BR x13
 (R (Value.bool false) w)
 (RD Tryz.prog (bin .eql 9 (.tmp 0) (.const undef) a0 (Value.string (ByteArray.mk #[115, 107, 105, 112]))) w fun x14 =>
 BR x14
 (R (Value.bool false) w)
 (RD Tryz.prog (bin .eql 9 (.tmp 0) (.const undef) a0 (Value.string (ByteArray.mk #[115, 112, 97, 119, 110]))) w fun x15 =>
 BR x15
 (R (Value.bool false) w)
 (RD Tryz.prog (bin .eql 9 (.tmp 0) (.const undef) a0 (Value.string (ByteArray.mk #[117, 110, 108, 111, 99, 107]))) w fun x16 =>
 BR x16
 (R (Value.bool false) w)
 (RD Tryz.prog (bin .eql 9 (.tmp 0) (.const undef) a0 (Value.string (ByteArray.mk #[119, 104, 105, 108, 101]))) w fun x17 =>
 BR x17
 (R (Value.bool false) w)
 (CALL Tryz.prog 288 [a0] w fun x19 w =>
 R x19 w)))))))))))))
def cfg245 : Cfg := { ext := extL, joins := [], loops := [], draws := [], pars := [] }
theorem F245_eq (a0 : Value) (w : World) (R : Value → World → Prop) : vcF Tryz.prog cfg245 Tryz.f245 [a0] w R = F245 a0 w R := by kernel_rfl
theorem F245_call {a0 : Value} {w : World} {R : Value → World → Prop} (h : F245 a0 w R) : CALL Tryz.prog 245 [a0] w R :=
  call_of (g := cfg245) ent mixed Tryz.func245 (Nat.le_of_ble_eq_true (by kernel_rfl)) (by kernel_rfl) (F245_eq a0 w R ▸ h)
theorem specIsName_ok {w : World} {s : ByteArray}    :
    CALL Tryz.prog 245 [.string s] w fun r w' => Ext w w' ∧ (r = .bool (nameB s)) := by
  refine F245_call ?_
  unfold F245
  refine rd_eqlS ?_
  refine br (fun c1 => ?_) (fun c1 => ?_)
  · refine ⟨Ext.refl w, ?_⟩
    have hm : s ∈ kw := by simp [kw, *]
    simp [nameB, hm]
  · refine rd_eqlS ?_
    refine br (fun c2 => ?_) (fun c2 => ?_)
    · refine ⟨Ext.refl w, ?_⟩
      have hm : s ∈ kw := by simp [kw, *]
      simp [nameB, hm]
    · refine rd_eqlS ?_
      refine br (fun c3 => ?_) (fun c3 => ?_)
      · refine ⟨Ext.refl w, ?_⟩
        have hm : s ∈ kw := by simp [kw, *]
        simp [nameB, hm]
      · refine rd_eqlS ?_
        refine br (fun c4 => ?_) (fun c4 => ?_)
        · refine ⟨Ext.refl w, ?_⟩
          have hm : s ∈ kw := by simp [kw, *]
          simp [nameB, hm]
        · refine rd_eqlS ?_
          refine br (fun c5 => ?_) (fun c5 => ?_)
          · refine ⟨Ext.refl w, ?_⟩
            have hm : s ∈ kw := by simp [kw, *]
            simp [nameB, hm]
          · refine rd_eqlS ?_
            refine br (fun c6 => ?_) (fun c6 => ?_)
            · refine ⟨Ext.refl w, ?_⟩
              have hm : s ∈ kw := by simp [kw, *]
              simp [nameB, hm]
            · refine rd_eqlS ?_
              refine br (fun c7 => ?_) (fun c7 => ?_)
              · refine ⟨Ext.refl w, ?_⟩
                have hm : s ∈ kw := by simp [kw, *]
                simp [nameB, hm]
              · refine rd_eqlS ?_
                refine br (fun c8 => ?_) (fun c8 => ?_)
                · refine ⟨Ext.refl w, ?_⟩
                  have hm : s ∈ kw := by simp [kw, *]
                  simp [nameB, hm]
                · refine rd_eqlS ?_
                  refine br (fun c9 => ?_) (fun c9 => ?_)
                  · refine ⟨Ext.refl w, ?_⟩
                    have hm : s ∈ kw := by simp [kw, *]
                    simp [nameB, hm]
                  · refine rd_eqlS ?_
                    refine br (fun c10 => ?_) (fun c10 => ?_)
                    · refine ⟨Ext.refl w, ?_⟩
                      have hm : s ∈ kw := by simp [kw, *]
                      simp [nameB, hm]
                    · refine rd_eqlS ?_
                      refine br (fun c11 => ?_) (fun c11 => ?_)
                      · refine ⟨Ext.refl w, ?_⟩
                        have hm : s ∈ kw := by simp [kw, *]
                        simp [nameB, hm]
                      · refine rd_eqlS ?_
                        refine br (fun c12 => ?_) (fun c12 => ?_)
                        · refine ⟨Ext.refl w, ?_⟩
                          have hm : s ∈ kw := by simp [kw, *]
                          simp [nameB, hm]
                        · refine rd_eqlS ?_
                          refine br (fun c13 => ?_) (fun c13 => ?_)
                          · refine ⟨Ext.refl w, ?_⟩
                            have hm : s ∈ kw := by simp [kw, *]
                            simp [nameB, hm]
                          · refine (l02Word_ok ).mono ?_
                            rintro _ w1_ ⟨hx1_, rfl⟩
                            refine ⟨hx1_, ?_⟩
                            have hm : s ∉ kw := by simp [kw, *]
                            simp [nameB, hm]
def F286 (a0 : Value) (w : World) (R : Value → World → Prop) : Prop :=
 RD Tryz.prog (Builtin.len_ #[9] 3 [a0].toArray) w fun x5 =>
 RD Tryz.prog (bin .lss 3 (.tmp 0) (.const undef) x5 (Value.int .i64 1)) w fun x6 =>
 BR x6
 (R (Value.bool false) w)
 (RD Tryz.prog (Builtin.len_ #[9] 3 [a0].toArray) w fun x9 =>
 RD Tryz.prog (bin .gtr 3 (.tmp 0) (.const undef) x9 (Value.int .i64 12)) w fun x10 =>
 BR x10
 (R (Value.bool false) w)
 (RD Tryz.prog (Instr.index 9 a0 (Value.int .i64 0)) w fun x14 =>
 CALL Tryz.prog 310 [x14] w fun x15 w =>
 RD Tryz.prog (Op.unary .not x15) w fun x16 =>
 BR x16
 (R (Value.bool false) w)
 (LOOPI [3] [(Value.int .i64 0)] w fun u4 w next4 =>
 RD Tryz.prog (Builtin.len_ #[9] 3 [a0].toArray) w fun x20 =>
 RD Tryz.prog (bin .lss 3 (.tmp 0) (.tmp 0) (u4 3) x20) w fun x21 =>
 BR x21
 (RD Tryz.prog (Instr.index 9 a0 (u4 3)) w fun x26 =>
 CALL Tryz.prog 310 [x26] w fun x27 w =>
 RD Tryz.prog (Op.unary .not x27) w fun x28 =>
 BR x28
 (RD Tryz.prog (Instr.index 9 a0 (u4 3)) w fun x32 =>
 CALL Tryz.prog 311 [x32] w fun x33 w =>
 RD Tryz.prog (Op.unary .not x33) w fun x34 =>
 BR x34
 (R (Value.bool false) w)
 (RD Tryz.prog (bin .add 3 (.tmp 0) (.const undef) (u4 3) (Value.int .i64 1)) w fun x23 =>
 next4 [x23] w))
 (RD Tryz.prog (bin .add 3 (.tmp 0) (.const undef) (u4 3) (Value.int .i64 1)) w fun x23 =>
 next4 [x23] w))
 (RD Tryz.prog (bin .eql 9 (.tmp 0) (.const undef) a0 (Value.string (ByteArray.mk #[97, 110, 100]))) w fun x38 =>
 BR x38
 (R (Value.bool false) w)
 (RD Tryz.prog (bin .eql 9 (.tmp 0) (.const undef) a0 (Value.string (ByteArray.mk #[99, 97, 108, 108]))) w fun x39 =>
 BR x39
 (R (Value.bool false) w)
 (RD Tryz.prog (bin .eql 9 (.tmp 0) (.const undef) a0 (Value.string (ByteArray.mk #[101, 108, 115, 101]))) w fun x40 =>
 BR x40
 (R (Value.bool false) w)
 (RD Tryz.prog (bin .eql 9 (.tmp 0) (.const undef) a0 (Value.string (ByteArray.mk #[103, 108, 111, 98, 97, 108, 115]))) w fun x41 =>
 BR x41
 (R (Value.bool false) w)
 (RD Tryz.prog (bin .eql 9 (.tmp 0) (.const undef) a0 (Value.string (ByteArray.mk #[105, 102]))) w fun x42 =>
 BR x42
 (R (Value.bool false) w)
 (RD Tryz.prog (bin .eql 9 (.tmp 0) (.const undef) a0 (Value.string (ByteArray.mk #[108, 111, 99, 107]))) w fun x43 =>
 BR x43
 (R (Value.bool false) w)
 (RD Tryz.prog (bin .eql 9 (.tmp 0) (.const undef) a0 (Value.string (ByteArray.mk #[108, 111, 99, 107, 115]))) w fun x44 =>
 BR x44
 (R (Value.bool false) w)
 (RD Tryz.prog (bin .eql 9 (.tmp 0) (.const undef) a0 (Value.string (ByteArray.mk #[110, 111, 116]))) w fun x45 =>
 BR x45
 (R (Value.bool false) w)
 (RD Tryz.prog (bin .eql 9 (.tmp 0) (.const undef) a0 (Value.string (ByteArray.mk #[112, 114, 111, 99]))) w fun x46 =>
 BR x46
 (R (Value.bool false) w)
 (RD Tryz.prog (bin .eql 9 (.tmp 0) (.const undef) a0 (Value.string (ByteArray.mk #[115, 107, 105, 112]))) w fun x47 =>
 BR x47
 (R (Value.bool false) w)
 (RD Tryz.prog (bin .eql 9 (.tmp 0) (.const undef) a0 (Value.string (ByteArray.mk #[115, 112, 97, 119, 110]))) w fun x48 =>
 BR x48
 (R (Value.bool false) w)
 (RD Tryz.prog (bin .eql 9 (.tmp 0) (.const undef) a0 (Value.string (ByteArray.mk #[117, 110, 108, 111, 99, 107]))) w fun x49 =>
 BR x49
 (R (Value.bool false) w)
 (RD Tryz.prog (bin .eql 9 (.tmp 0) (.const undef) a0 (Value.string (ByteArray.mk #[119, 104, 105, 108, 101]))) w fun x50 =>
 BR x50
 (R (Value.bool false) w)
 (R (Value.bool true) w)))))))))))))))))
def cfg286 : Cfg := { ext := extL, joins := [], loops := [(4, 68719214604, [3])], draws := [], pars := [] }
theorem F286_eq (a0 : Value) (w : World) (R : Value → World → Prop) : vcF Tryz.prog cfg286 Tryz.f286 [a0] w R = F286 a0 w R := by kernel_rfl
theorem F286_call {a0 : Value} {w : World} {R : Value → World → Prop} (h : F286 a0 w R) : CALL Tryz.prog 286 [a0] w R :=
  call_of (g := cfg286) ent mixed Tryz.func286 (Nat.le_of_ble_eq_true (by kernel_rfl)) (by kernel_rfl) (F286_eq a0 w R ▸ h)
theorem implIsName_ok {w : World} {s : ByteArray}    :
    CALL Tryz.prog 286 [.string s] w fun r w' => Ext w w' ∧ (r = .bool (nameB s)) := by
  refine F286_call ?_
  unfold F286
  refine rd_lenS u9 ?_
  refine rd_lss ?_
  refine br (fun c1 => ?_) (fun c1 => ?_)
  · refine ⟨Ext.refl w, ?_⟩
    simp [nameB, word_empty (s := s) (by omega)]
  · refine rd_lenS u9 ?_
    refine rd_gtr ?_
    refine br (fun c2 => ?_) (fun c2 => ?_)
    · refine ⟨Ext.refl w, ?_⟩
      simp [nameB, word_long (s := s) (by omega)]
    · refine rd_indexS (i := 0) u9 (by omega) ?_
      refine (isSmall_ok ).mono ?_
      rintro _ w1_ ⟨hx1_, rfl⟩
      refine rd_nodec ?_
      refine br (fun c3 => ?_) (fun c3 => ?_)
      · refine ⟨hx1_, ?_⟩
        simp [nameB, word_head (s := s) (by omega) c3]
      · refine loopC (s.size) (fun k us w' => us = [.int .i64 (k : Int)] ∧ Ext w1_ w' ∧ (∀ b ∈ (bts s).take k, (letB b || figB b) = true)) (0) (by omega) ⟨by simp, Ext.refl w1_, by simp⟩ ?_
        rintro k m4 uu4 w2_ hk4 ⟨hu, hx2_, hinv⟩
        simp only [List.map_cons, List.map_nil, List.cons.injEq, and_true] at hu
        try rw [hu]
        try clear hu
        refine rd_lenS u9 ?_
        refine rd_lss ?_
        refine br (fun c4 => ?_) (fun c4 => ?_)
        · refine rd_indexS u9 (by omega) ?_
          refine (isSmall_ok ).mono ?_
          rintro _ w3_ ⟨hx3_, rfl⟩
          refine rd_nodec ?_
          refine br (fun c5 => ?_) (fun c5 => ?_)
          · refine rd_indexS u9 (by omega) ?_
            refine (isFigure_ok ).mono ?_
            rintro _ w4_ ⟨hx4_, rfl⟩
            refine rd_nodec ?_
            refine br (fun c6 => ?_) (fun c6 => ?_)
            · refine ⟨(hx1_.trans (hx2_.trans (hx3_.trans hx4_))), ?_⟩
              simp [nameB, word_at (s := s) (by omega) c5 c6]
            · refine rd_inc (by omega) ?_
              refine ⟨m4 - 1, by omega, k + 1, by omega, by simp, (hx2_.trans (hx3_.trans hx4_)), ?_⟩
              exact word_step (by omega) hinv (.inr (by simp only [figB, Decidable.not_not.1 c6, and_self, decide_true]))
          · refine rd_inc (by omega) ?_
            refine ⟨m4 - 1, by omega, k + 1, by omega, by simp, (hx2_.trans hx3_), ?_⟩
            exact word_step (by omega) hinv (.inl (by simp only [letB, Decidable.not_not.1 c5, and_self, decide_true]))
        · refine rd_eqlS ?_
          refine br (fun c7 => ?_) (fun c7 => ?_)
          · refine ⟨(hx1_.trans hx2_), ?_⟩
            have hm : s ∈ kw := by simp only [kw, List.mem_cons, *, true_or, or_true]
            simp [nameB, hm]
          · refine rd_eqlS ?_
            refine br (fun c8 => ?_) (fun c8 => ?_)
            · refine ⟨(hx1_.trans hx2_), ?_⟩
              have hm : s ∈ kw := by simp only [kw, List.mem_cons, *, true_or, or_true]
              simp [nameB, hm]
            · refine rd_eqlS ?_
              refine br (fun c9 => ?_) (fun c9 => ?_)
              · refine ⟨(hx1_.trans hx2_), ?_⟩
                have hm : s ∈ kw := by simp only [kw, List.mem_cons, *, true_or, or_true]
                simp [nameB, hm]
              · refine rd_eqlS ?_
                refine br (fun c10 => ?_) (fun c10 => ?_)
                · refine ⟨(hx1_.trans hx2_), ?_⟩
                  have hm : s ∈ kw := by simp only [kw, List.mem_cons, *, true_or, or_true]
                  simp [nameB, hm]
                · refine rd_eqlS ?_
                  refine br (fun c11 => ?_) (fun c11 => ?_)
                  · refine ⟨(hx1_.trans hx2_), ?_⟩
                    have hm : s ∈ kw := by simp only [kw, List.mem_cons, *, true_or, or_true]
                    simp [nameB, hm]
                  · refine rd_eqlS ?_
                    refine br (fun c12 => ?_) (fun c12 => ?_)
                    · refine ⟨(hx1_.trans hx2_), ?_⟩
                      have hm : s ∈ kw := by simp only [kw, List.mem_cons, *, true_or, or_true]
                      simp [nameB, hm]
                    · refine rd_eqlS ?_
                      refine br (fun c13 => ?_) (fun c13 => ?_)
                      · refine ⟨(hx1_.trans hx2_), ?_⟩
                        have hm : s ∈ kw := by simp only [kw, List.mem_cons, *, true_or, or_true]
                        simp [nameB, hm]
                      · refine rd_eqlS ?_
                        refine br (fun c14 => ?_) (fun c14 => ?_)
                        · refine ⟨(hx1_.trans hx2_), ?_⟩
                          have hm : s ∈ kw := by simp only [kw, List.mem_cons, *, true_or, or_true]
                          simp [nameB, hm]
                        · refine rd_eqlS ?_
                          refine br (fun c15 => ?_) (fun c15 => ?_)
                          · refine ⟨(hx1_.trans hx2_), ?_⟩
                            have hm : s ∈ kw := by simp only [kw, List.mem_cons, *, true_or, or_true]
                            simp [nameB, hm]
                          · refine rd_eqlS ?_
                            refine br (fun c16 => ?_) (fun c16 => ?_)
                            · refine ⟨(hx1_.trans hx2_), ?_⟩
                              have hm : s ∈ kw := by simp only [kw, List.mem_cons, *, true_or, or_true]
                              simp [nameB, hm]
                            · refine rd_eqlS ?_
                              refine br (fun c17 => ?_) (fun c17 => ?_)
                              · refine ⟨(hx1_.trans hx2_), ?_⟩
                                have hm : s ∈ kw := by simp only [kw, List.mem_cons, *, true_or, or_true]
                                simp [nameB, hm]
                              · refine rd_eqlS ?_
                                refine br (fun c18 => ?_) (fun c18 => ?_)
                                · refine ⟨(hx1_.trans hx2_), ?_⟩
                                  have hm : s ∈ kw := by simp only [kw, List.mem_cons, *, true_or, or_true]
                                  simp [nameB, hm]
                                · refine rd_eqlS ?_
                                  refine br (fun c19 => ?_) (fun c19 => ?_)
                                  · refine ⟨(hx1_.trans hx2_), ?_⟩
                                    have hm : s ∈ kw := by simp only [kw, List.mem_cons, *, true_or, or_true]
                                    simp [nameB, hm]
                                  · refine ⟨(hx1_.trans hx2_), ?_⟩
                                    have hm : s ∉ kw := by simp only [kw, List.mem_cons, List.not_mem_nil, or_false, *, not_false_eq_true]
                                    simp [nameB, hm, word_all (by omega) (by omega) (Decidable.not_not.1 c3) (by omega) hinv]
end Go.Proofs.YtjgfldfbljmhhaaGreat
namespace Go.Proofs.YtjgfldfbljmhhaaGreat
open Go Go.Sh Go.Proofs
set_option linter.unusedVariables false
set_option linter.unusedSimpArgs false
def termOk : Nat → DTerm → Bool
  | n, .mk k num s ks =>
    if k = 1 then decide (0 ≤ num ∧ num ≤ 1000000000) && decide (s = ByteArray.mk #[]) && decide ((ks.length : Int) = 0)
    else if k = 2 then decide (num = 0) && nameB s && decide ((ks.length : Int) = 0)
    else decide (3 ≤ k ∧ k ≤ 9) && decide (num = 0) && decide (s = ByteArray.mk #[]) && decide ((ks.length : Int) = if k = 8 then 1 else 2) &&
      (match n with | 0 => false | m + 1 => ks.all (termOk m))
theorem termOk_1 {n : Nat} {t : DTerm} (h : t.kind = 1) : termOk n t = (decide (0 ≤ t.num ∧ t.num ≤ 1000000000) && decide (t.name = ByteArray.mk #[]) && decide ((t.kids.length : Int) = 0)) := by
  obtain ⟨k, num, s, ks⟩ := t
  have : k = 1 := h
  unfold termOk; rw [if_pos this]; rfl
theorem termOk_2 {n : Nat} {t : DTerm} (h : t.kind = 2) : termOk n t = (decide (t.num = 0) && nameB t.name && decide ((t.kids.length : Int) = 0)) := by
  obtain ⟨k, num, s, ks⟩ := t
  have : k = 2 := h
  unfold termOk; rw [if_neg (by omega), if_pos this]; rfl
theorem termOk_3 {n : Nat} {t : DTerm} (h1 : ¬ t.kind = 1) (h2 : ¬ t.kind = 2) : termOk n t =
    (decide (3 ≤ t.kind ∧ t.kind ≤ 9) && decide (t.num = 0) && decide (t.name = ByteArray.mk #[]) && decide ((t.kids.length : Int) = if t.kind = 8 then 1 else 2) && (match n with | 0 => false | m + 1 => t.kids.all (termOk m))) := by
  obtain ⟨k, num, s, ks⟩ := t
  have h1 : ¬ k = 1 := h1
  have h2 : ¬ k = 2 := h2
  unfold termOk; rw [if_neg h1, if_neg h2]; rfl
theorem all_take {α : Type} {p : α → Bool} {l : List α} {k : Nat} (hk : k < l.length) (h : (l.take k).all p = true) (hp : p l[k] = true) : (l.take (k + 1)).all p = true := by
  rw [List.take_succ_eq_append_getElem hk, List.all_append, h]; simp [hp]
theorem all_false {α : Type} {p : α → Bool} {l : List α} {k : Nat} (hk : k < l.length) (hp : p l[k] = false) : l.all p = false := by
  rw [List.all_eq_false]; exact ⟨_, List.getElem_mem hk, by simp [hp]⟩
theorem all_done {α : Type} {p : α → Bool} {l : List α} {k : Nat} (hk : l.length ≤ k) (h : (l.take k).all p = true) : l.all p = true := by
  rwa [List.take_of_length_le hk] at h
def Fits (f : Nat) (n : Nat) : Prop := ∀ {w W : World} {v : Value} {t : DTerm} {d : Int}, Is W v t → Ext W w → d = (n : Int) →
  CALL Tryz.prog f [v, .int .i64 d] w fun r w' => Ext w w' ∧ r = .bool (termOk n t)
def F287 (a0 a1 : Value) (w : World) (R : Value → World → Prop) : Prop :=
 OP Tryz.prog (Instr.box 134 a0) w fun x2 w =>
 JOIN [] (fun J18 =>
 RD Tryz.prog (Instr.fieldAt 134 x2 0) w fun x7 =>
 RD Tryz.prog (Instr.loadAt 3 x7) w fun x8 =>
 RD Tryz.prog (bin .eql 3 (.tmp 0) (.const undef) x8 (Value.int .i64 1)) w fun x10 =>
 BR x10
 (RD Tryz.prog (Instr.fieldAt 134 x2 1) w fun x11 =>
 RD Tryz.prog (Instr.loadAt 3 x11) w fun x12 =>
 RD Tryz.prog (bin .geq 3 (.tmp 0) (.const undef) x12 (Value.int .i64 0)) w fun x13 =>
 BR x13
 (RD Tryz.prog (Instr.fieldAt 134 x2 1) w fun x15 =>
 RD Tryz.prog (Instr.loadAt 3 x15) w fun x16 =>
 RD Tryz.prog (bin .leq 3 (.tmp 0) (.const undef) x16 (Value.int .i64 1000000000)) w fun x17 =>
 BR x17
 (RD Tryz.prog (Instr.fieldAt 134 x2 2) w fun x20 =>
 RD Tryz.prog (Instr.loadAt 9 x20) w fun x21 =>
 RD Tryz.prog (bin .eql 9 (.tmp 0) (.const undef) x21 (Value.string (ByteArray.mk #[]))) w fun x22 =>
 BR x22
 (RD Tryz.prog (Instr.fieldAt 134 x2 3) w fun x25 =>
 RD Tryz.prog (Instr.loadAt 132 x25) w fun x26 =>
 RD Tryz.prog (Builtin.len_ #[132] 3 [x26].toArray) w fun x27 =>
 RD Tryz.prog (bin .eql 3 (.tmp 0) (.const undef) x27 (Value.int .i64 0)) w fun x28 =>
 R x28 w)
 (R (Value.bool false) w))
 (R (Value.bool false) w))
 (R (Value.bool false) w))
 (RD Tryz.prog (bin .eql 3 (.tmp 0) (.const undef) x8 (Value.int .i64 2)) w fun x31 =>
 BR x31
 (RD Tryz.prog (Instr.fieldAt 134 x2 1) w fun x32 =>
 RD Tryz.prog (Instr.loadAt 3 x32) w fun x33 =>
 RD Tryz.prog (bin .eql 3 (.tmp 0) (.const undef) x33 (Value.int .i64 0)) w fun x34 =>
 BR x34
 (RD Tryz.prog (Instr.fieldAt 134 x2 2) w fun x36 =>
 RD Tryz.prog (Instr.loadAt 9 x36) w fun x37 =>
 CALL Tryz.prog 286 [x37] w fun x38 w =>
 BR x38
 (RD Tryz.prog (Instr.fieldAt 134 x2 3) w fun x41 =>
 RD Tryz.prog (Instr.loadAt 132 x41) w fun x42 =>
 RD Tryz.prog (Builtin.len_ #[132] 3 [x42].toArray) w fun x43 =>
 RD Tryz.prog (bin .eql 3 (.tmp 0) (.const undef) x43 (Value.int .i64 0)) w fun x44 =>
 R x44 w)
 (R (Value.bool false) w))
 (R (Value.bool false) w))
 (RD Tryz.prog (bin .eql 3 (.tmp 0) (.const undef) x8 (Value.int .i64 3)) w fun x47 =>
 BR x47
 (RD Tryz.prog (Instr.fieldAt 134 x2 3) w fun x53 =>
 RD Tryz.prog (Instr.loadAt 132 x53) w fun x54 =>
 RD Tryz.prog (Builtin.len_ #[132] 3 [x54].toArray) w fun x55 =>
 RD Tryz.prog (bin .neq 3 (.tmp 0) (.const undef) x55 (Value.int .i64 2)) w fun x56 =>
 BR x56
 (R (Value.bool false) w)
 (J18 [] w))
 (RD Tryz.prog (bin .eql 3 (.tmp 0) (.const undef) x8 (Value.int .i64 4)) w fun x48 =>
 BR x48
 (RD Tryz.prog (Instr.fieldAt 134 x2 3) w fun x53 =>
 RD Tryz.prog (Instr.loadAt 132 x53) w fun x54 =>
 RD Tryz.prog (Builtin.len_ #[132] 3 [x54].toArray) w fun x55 =>
 RD Tryz.prog (bin .neq 3 (.tmp 0) (.const undef) x55 (Value.int .i64 2)) w fun x56 =>
 BR x56
 (R (Value.bool false) w)
 (J18 [] w))
 (RD Tryz.prog (bin .eql 3 (.tmp 0) (.const undef) x8 (Value.int .i64 5)) w fun x49 =>
 BR x49
 (RD Tryz.prog (Instr.fieldAt 134 x2 3) w fun x53 =>
 RD Tryz.prog (Instr.loadAt 132 x53) w fun x54 =>
 RD Tryz.prog (Builtin.len_ #[132] 3 [x54].toArray) w fun x55 =>
 RD Tryz.prog (bin .neq 3 (.tmp 0) (.const undef) x55 (Value.int .i64 2)) w fun x56 =>
 BR x56
 (R (Value.bool false) w)
 (J18 [] w))
 (RD Tryz.prog (bin .eql 3 (.tmp 0) (.const undef) x8 (Value.int .i64 6)) w fun x50 =>
 BR x50
 (RD Tryz.prog (Instr.fieldAt 134 x2 3) w fun x53 =>
 RD Tryz.prog (Instr.loadAt 132 x53) w fun x54 =>
 RD Tryz.prog (Builtin.len_ #[132] 3 [x54].toArray) w fun x55 =>
 RD Tryz.prog (bin .neq 3 (.tmp 0) (.const undef) x55 (Value.int .i64 2)) w fun x56 =>
 BR x56
 (R (Value.bool false) w)
 (J18 [] w))
 (RD Tryz.prog (bin .eql 3 (.tmp 0) (.const undef) x8 (Value.int .i64 7)) w fun x51 =>
 BR x51
 (RD Tryz.prog (Instr.fieldAt 134 x2 3) w fun x53 =>
 RD Tryz.prog (Instr.loadAt 132 x53) w fun x54 =>
 RD Tryz.prog (Builtin.len_ #[132] 3 [x54].toArray) w fun x55 =>
 RD Tryz.prog (bin .neq 3 (.tmp 0) (.const undef) x55 (Value.int .i64 2)) w fun x56 =>
 BR x56
 (R (Value.bool false) w)
 (J18 [] w))
 (RD Tryz.prog (bin .eql 3 (.tmp 0) (.const undef) x8 (Value.int .i64 9)) w fun x52 =>
 BR x52
 (RD Tryz.prog (Instr.fieldAt 134 x2 3) w fun x53 =>
 RD Tryz.prog (Instr.loadAt 132 x53) w fun x54 =>
 RD Tryz.prog (Builtin.len_ #[132] 3 [x54].toArray) w fun x55 =>
 RD Tryz.prog (bin .neq 3 (.tmp 0) (.const undef) x55 (Value.int .i64 2)) w fun x56 =>
 BR x56
 (R (Value.bool false) w)
 (J18 [] w))
 (RD Tryz.prog (bin .eql 3 (.tmp 0) (.const undef) x8 (Value.int .i64 8)) w fun x58 =>
 BR x58
 (RD Tryz.prog (Instr.fieldAt 134 x2 3) w fun x59 =>
 RD Tryz.prog (Instr.loadAt 132 x59) w fun x60 =>
 RD Tryz.prog (Builtin.len_ #[132] 3 [x60].toArray) w fun x61 =>
 RD Tryz.prog (bin .neq 3 (.tmp 0) (.const undef) x61 (Value.int .i64 1)) w fun x62 =>
 BR x62
 (R (Value.bool false) w)
 (J18 [] w))
 (R (Value.bool false) w)))))))))) (fun u18 w =>
 RD Tryz.prog (Instr.fieldAt 134 x2 1) w fun x63 =>
 RD Tryz.prog (Instr.loadAt 3 x63) w fun x64 =>
 RD Tryz.prog (bin .neq 3 (.tmp 0) (.const undef) x64 (Value.int .i64 0)) w fun x65 =>
 BR x65
 (R (Value.bool false) w)
 (RD Tryz.prog (Instr.fieldAt 134 x2 2) w fun x67 =>
 RD Tryz.prog (Instr.loadAt 9 x67) w fun x68 =>
 RD Tryz.prog (bin .neq 9 (.tmp 0) (.const undef) x68 (Value.string (ByteArray.mk #[]))) w fun x69 =>
 BR x69
 (R (Value.bool false) w)
 (RD Tryz.prog (bin .eql 3 (.tmp 0) (.const undef) a1 (Value.int .i64 0)) w fun x73 =>
 BR x73
 (R (Value.bool false) w)
 (RD Tryz.prog (Instr.fieldAt 134 x2 3) w fun x75 =>
 RD Tryz.prog (Instr.loadAt 132 x75) w fun x76 =>
 RD Tryz.prog (Builtin.len_ #[132] 3 [x76].toArray) w fun x77 =>
 LOOPI [78] [(Value.int .i64 0)] w fun u21 w next21 =>
 RD Tryz.prog (bin .lss 3 (.tmp 0) (.tmp 0) (u21 78) x77) w fun x79 =>
 BR x79
 (RD Tryz.prog (Instr.indexAt 132 x76 (u21 78)) w fun x80 =>
 RD Tryz.prog (Instr.loadAt 134 x80) w fun x81 =>
 OP Tryz.prog (Instr.alloc 134 true (.tuple #[])) w fun x6 w =>
 OPU Tryz.prog (Instr.storeAt 134 x6 x81) w fun w =>
 RD Tryz.prog (Instr.loadAt 134 x6) w fun x82 =>
 RD Tryz.prog (bin .sub 3 (.tmp 0) (.const undef) a1 (Value.int .i64 1)) w fun x84 =>
 CALL Tryz.prog 287 [x82, x84] w fun x85 w =>
 RD Tryz.prog (Op.unary .not x85) w fun x86 =>
 BR x86
 (R (Value.bool false) w)
 (RD Tryz.prog (bin .add 3 (.tmp 0) (.const undef) (u21 78) (Value.int .i64 1)) w fun x87 =>
 next21 [x87] w))
 (R (Value.bool true) w)))))
def cfg287 : Cfg := { ext := extL, joins := [(18, 9223372036854775696, [])], loops := [(21, 309182778366441411431104592, [78])], draws := [], pars := [] }
theorem F287_eq (a0 a1 : Value) (w : World) (R : Value → World → Prop) : vcF Tryz.prog cfg287 Tryz.f287 [a0, a1] w R = F287 a0 a1 w R := by kernel_rfl
theorem F287_call {a0 a1 : Value} {w : World} {R : Value → World → Prop} (h : F287 a0 a1 w R) : CALL Tryz.prog 287 [a0, a1] w R :=
  call_of (g := cfg287) ent mixed Tryz.func287 (Nat.le_of_ble_eq_true (by kernel_rfl)) (by kernel_rfl) (F287_eq a0 a1 w R ▸ h)
theorem termFits_step {w : World} {v0 : Value} {W0 : World} {t : DTerm} {d : Int} {n : Nat} (h0 : Is W0 v0 t) (e0 : Ext W0 w) (hd : d = (n : Int)) (ih : ∀ m, m + 1 = n → Fits 287 m) (hn : n ≤ 6) :
    CALL Tryz.prog 287 [v0, .int .i64 d] w fun r w' => Ext w w' ∧ (r = .bool (termOk n t)) := by
  refine F287_call ?_
  unfold F287
  refine op_boxS ty134 rfl h0 e0 fun w1_ hx1_ hA2 hV2 => ?_
  refine JOIN.mk (fun us w' => us = [] ∧ Ext w1_ w' ∧ (3 ≤ t.kind ∧ t.kind ≤ 9 ∧ (t.kids.length : Int) = (if t.kind = 8 then 1 else 2))) ?_ ?_
  · refine rd_fld fd134_0 ?_
    refine rd_loadI ty3 (at_DTerm_0 hA2) (Ext.refl w1_) fun hI8 => ?_
    refine rd_eql ?_
    refine br (fun c1 => ?_) (fun c1 => ?_)
    · refine rd_fld fd134_1 ?_
      refine rd_loadI ty3 (at_DTerm_1 hA2) (Ext.refl w1_) fun hI12 => ?_
      refine rd_geq ?_
      refine br (fun c2 => ?_) (fun c2 => ?_)
      · refine rd_fld fd134_1 ?_
        refine rd_loadI ty3 (at_DTerm_1 hA2) (Ext.refl w1_) fun hI16 => ?_
        refine rd_leq ?_
        refine br (fun c3 => ?_) (fun c3 => ?_)
        · refine rd_fld fd134_2 ?_
          refine rd_loadS ty9 (at_DTerm_2 hA2) (Ext.refl w1_) fun hS21 => ?_
          refine rd_eqlS ?_
          refine br (fun c4 => ?_) (fun c4 => ?_)
          · refine rd_fld fd134_3 ?_
            refine rd_load ty132 (at_DTerm_3 hA2) (Ext.refl w1_) fun v26 h26 => ?_
            have hln27 := is_len h26
            refine rd_len u132 h26 ?_
            refine rd_eql ?_
            refine ⟨hx1_, ?_⟩
            rw [termOk_1 c1]; simp only [c2, c3, c4, and_self, decide_true, Bool.true_and]
          · refine ⟨hx1_, ?_⟩
            rw [termOk_1 c1]; simp only [c4, decide_false, Bool.and_false, Bool.false_and]
        · refine ⟨hx1_, ?_⟩
          rw [termOk_1 c1]; simp only [c3, and_false, decide_false, Bool.false_and]
      · refine ⟨hx1_, ?_⟩
        rw [termOk_1 c1]; simp only [c2, false_and, decide_false, Bool.false_and]
    · refine rd_eql ?_
      refine br (fun c5 => ?_) (fun c5 => ?_)
      · refine rd_fld fd134_1 ?_
        refine rd_loadI ty3 (at_DTerm_1 hA2) (Ext.refl w1_) fun hI33 => ?_
        refine rd_eql ?_
        refine br (fun c6 => ?_) (fun c6 => ?_)
        · refine rd_fld fd134_2 ?_
          refine rd_loadS ty9 (at_DTerm_2 hA2) (Ext.refl w1_) fun hS37 => ?_
          refine (implIsName_ok ).mono ?_
          rintro _ w3_ ⟨hx3_, rfl⟩
          refine br_b (fun c7 => ?_) (fun c7 => ?_)
          · refine rd_fld fd134_3 ?_
            refine rd_load ty132 (at_DTerm_3 hA2) hx3_ fun v42 h42 => ?_
            have hln43 := is_len h42
            refine rd_len u132 h42 ?_
            refine rd_eql ?_
            refine ⟨(hx1_.trans hx3_), ?_⟩
            rw [termOk_2 c5]; simp only [c6, c7, decide_true, Bool.true_and]
          · refine ⟨(hx1_.trans hx3_), ?_⟩
            rw [termOk_2 c5]; simp only [c6, c7, decide_true, Bool.true_and, Bool.false_and]
        · refine ⟨hx1_, ?_⟩
          rw [termOk_2 c5]; simp only [c6, decide_false, Bool.false_and]
      · refine rd_eql ?_
        refine br (fun c8 => ?_) (fun c8 => ?_)
        · refine rd_fld fd134_3 ?_
          refine rd_load ty132 (at_DTerm_3 hA2) (Ext.refl w1_) fun v54 h54 => ?_
          have hln55 := is_len h54
          refine rd_len u132 h54 ?_
          refine rd_neq ?_
          refine br (fun c9 => ?_) (fun c9 => ?_)
          · refine ⟨hx1_, ?_⟩
            rw [termOk_3 c1 c5]; simp [show ¬ t.kind = 8 by omega, show ¬ (t.kids.length : Int) = 2 from c9]
          · refine ⟨by simp, Ext.refl w1_, ?_⟩
            split <;> omega
        · refine rd_eql ?_
          refine br (fun c10 => ?_) (fun c10 => ?_)
          · refine rd_fld fd134_3 ?_
            refine rd_load ty132 (at_DTerm_3 hA2) (Ext.refl w1_) fun v54 h54 => ?_
            have hln55 := is_len h54
            refine rd_len u132 h54 ?_
            refine rd_neq ?_
            refine br (fun c11 => ?_) (fun c11 => ?_)
            · refine ⟨hx1_, ?_⟩
              rw [termOk_3 c1 c5]; simp [show ¬ t.kind = 8 by omega, show ¬ (t.kids.length : Int) = 2 from c11]
            · refine ⟨by simp, Ext.refl w1_, ?_⟩
              split <;> omega
          · refine rd_eql ?_
            refine br (fun c12 => ?_) (fun c12 => ?_)
            · refine rd_fld fd134_3 ?_
              refine rd_load ty132 (at_DTerm_3 hA2) (Ext.refl w1_) fun v54 h54 => ?_
              have hln55 := is_len h54
              refine rd_len u132 h54 ?_
              refine rd_neq ?_
              refine br (fun c13 => ?_) (fun c13 => ?_)
              · refine ⟨hx1_, ?_⟩
                rw [termOk_3 c1 c5]; simp [show ¬ t.kind = 8 by omega, show ¬ (t.kids.length : Int) = 2 from c13]
              · refine ⟨by simp, Ext.refl w1_, ?_⟩
                split <;> omega
            · refine rd_eql ?_
              refine br (fun c14 => ?_) (fun c14 => ?_)
              · refine rd_fld fd134_3 ?_
                refine rd_load ty132 (at_DTerm_3 hA2) (Ext.refl w1_) fun v54 h54 => ?_
                have hln55 := is_len h54
                refine rd_len u132 h54 ?_
                refine rd_neq ?_
                refine br (fun c15 => ?_) (fun c15 => ?_)
                · refine ⟨hx1_, ?_⟩
                  rw [termOk_3 c1 c5]; simp [show ¬ t.kind = 8 by omega, show ¬ (t.kids.length : Int) = 2 from c15]
                · refine ⟨by simp, Ext.refl w1_, ?_⟩
                  split <;> omega
              · refine rd_eql ?_
                refine br (fun c16 => ?_) (fun c16 => ?_)
                · refine rd_fld fd134_3 ?_
                  refine rd_load ty132 (at_DTerm_3 hA2) (Ext.refl w1_) fun v54 h54 => ?_
                  have hln55 := is_len h54
                  refine rd_len u132 h54 ?_
                  refine rd_neq ?_
                  refine br (fun c17 => ?_) (fun c17 => ?_)
                  · refine ⟨hx1_, ?_⟩
                    rw [termOk_3 c1 c5]; simp [show ¬ t.kind = 8 by omega, show ¬ (t.kids.length : Int) = 2 from c17]
                  · refine ⟨by simp, Ext.refl w1_, ?_⟩
                    split <;> omega
                · refine rd_eql ?_
                  refine br (fun c18 => ?_) (fun c18 => ?_)
                  · refine rd_fld fd134_3 ?_
                    refine rd_load ty132 (at_DTerm_3 hA2) (Ext.refl w1_) fun v54 h54 => ?_
                    have hln55 := is_len h54
                    refine rd_len u132 h54 ?_
                    refine rd_neq ?_
                    refine br (fun c19 => ?_) (fun c19 => ?_)
                    · refine ⟨hx1_, ?_⟩
                      rw [termOk_3 c1 c5]; simp [show ¬ t.kind = 8 by omega, show ¬ (t.kids.length : Int) = 2 from c19]
                    · refine ⟨by simp, Ext.refl w1_, ?_⟩
                      split <;> omega
                  · refine rd_eql ?_
                    refine br (fun c20 => ?_) (fun c20 => ?_)
                    · refine rd_fld fd134_3 ?_
                      refine rd_load ty132 (at_DTerm_3 hA2) (Ext.refl w1_) fun v60 h60 => ?_
                      have hln61 := is_len h60
                      refine rd_len u132 h60 ?_
                      refine rd_neq ?_
                      refine br (fun c21 => ?_) (fun c21 => ?_)
                      · refine ⟨hx1_, ?_⟩
                        rw [termOk_3 c1 c5]; simp [c20, show ¬ (t.kids.length : Int) = 1 from c21]
                      · refine ⟨by simp, Ext.refl w1_, ?_⟩
                        split <;> omega
                    · refine ⟨hx1_, ?_⟩
                      rw [termOk_3 c1 c5]; simp [show ¬ (3 ≤ t.kind ∧ t.kind ≤ 9) by omega]
  · rintro uj18 w2_ ⟨hu, hx3_, hk1, hk2, hk3⟩
    simp only [List.map_cons, List.map_nil, List.cons.injEq, and_true] at hu
    clear hu
    refine rd_fld fd134_1 ?_
    refine rd_loadI ty3 (at_DTerm_1 hA2) hx3_ fun hI64 => ?_
    refine rd_neq ?_
    refine br (fun c22 => ?_) (fun c22 => ?_)
    · refine ⟨(hx1_.trans hx3_), ?_⟩
      rw [termOk_3 (by omega) (by omega)]; simp [c22]
    · refine rd_fld fd134_2 ?_
      refine rd_loadS ty9 (at_DTerm_2 hA2) hx3_ fun hS68 => ?_
      refine rd_neqS ?_
      refine br (fun c23 => ?_) (fun c23 => ?_)
      · refine ⟨(hx1_.trans hx3_), ?_⟩
        rw [termOk_3 (by omega) (by omega)]; simp [c23]
      · refine rd_eql ?_
        refine br (fun c24 => ?_) (fun c24 => ?_)
        · refine ⟨(hx1_.trans hx3_), ?_⟩
          rw [termOk_3 (by omega) (by omega)]; simp [show n = 0 by omega]
        · refine rd_fld fd134_3 ?_
          refine rd_load ty132 (at_DTerm_3 hA2) hx3_ fun v76 h76 => ?_
          have hln77 := is_len h76
          refine rd_len u132 h76 ?_
          refine loopC (t.kids.length) (fun k us w' => us = [.int .i64 (k : Int)] ∧ Ext w2_ w' ∧ ((t.kids.take k).all (termOk (n - 1)) = true)) (0) (by omega) ⟨by simp, Ext.refl w2_, by simp⟩ ?_
          rintro k m21 uu21 w4_ hk21 ⟨hu, hx4_, hinv⟩
          simp only [List.map_cons, List.map_nil, List.cons.injEq, and_true] at hu
          try rw [hu]
          try clear hu
          refine rd_lss ?_
          refine br (fun c25 => ?_) (fun c25 => ?_)
          · refine rd_indexN u132 ty134 h76 (by omega) fun b80 o80 h80 => ?_
            refine rd_load ty134 h80 (hx3_.trans hx4_) fun v81 h81 => ?_
            refine op_var zl134 rfl ty134 rfl h81 (hx3_.trans hx4_) fun w5_ hx5_ hA6 hV6 => ?_
            refine rd_var hV6 (Ext.refl w5_) ?_
            refine rd_sub (by unfold I64; omega) ?_
            refine (ih (n - 1) (by omega) h81 (hx3_.trans (hx4_.trans hx5_)) (by omega)).mono ?_
            rintro _ w6_ ⟨hx6_, rfl⟩
            refine rd_not ?_
            refine br_b (fun c26 => ?_) (fun c26 => ?_)
            · refine ⟨(hx1_.trans (hx3_.trans (hx4_.trans (hx5_.trans hx6_)))), ?_⟩
              rw [termOk_3 (by omega) (by omega)]
              obtain ⟨m, rfl⟩ : ∃ m, n = m + 1 := ⟨n - 1, by omega⟩
              rw [Bool.not_eq_true', Nat.add_sub_cancel] at c26
              simp only [all_false (by omega) c26, Bool.and_false]
            · have hln := is_len h76
              refine rd_inc (by omega) ?_
              refine ⟨m21 - 1, by omega, k + 1, by omega, by simp, (hx4_.trans (hx5_.trans hx6_)), ?_⟩
              exact all_take (by omega) hinv (by simpa using c26)
          · refine ⟨(hx1_.trans (hx3_.trans hx4_)), ?_⟩
            rw [termOk_3 (by omega) (by omega)]
            obtain ⟨m, rfl⟩ : ∃ m, n = m + 1 := ⟨n - 1, by omega⟩
            rw [Nat.add_sub_cancel] at hinv
            simp only [show 3 ≤ t.kind ∧ t.kind ≤ 9 from ⟨hk1, hk2⟩, Decidable.not_not.1 c22, Decidable.not_not.1 c23, hk3, all_done (by omega) hinv, and_self, decide_true, Bool.and_self]
theorem termFits_ok : ∀ (n : Nat), n ≤ 6 → Fits 287 n
  | n, hn => by intro h e hd; exact termFits_step h e hd (fun m hm => termFits_ok m (by omega)) hn
def F240 (a0 : Value) (w : World) (R : Value → World → Prop) : Prop :=
 OP Tryz.prog (Instr.box 134 a0) w fun x1 w =>
 RD Tryz.prog (Instr.loadAt 134 x1) w fun x3 =>
 CALL Tryz.prog 287 [x3, (Value.int .i64 6)] w fun x4 w =>
 R x4 w
def cfg240 : Cfg := { ext := extL, joins := [], loops := [], draws := [], pars := [] }
theorem F240_eq (a0 : Value) (w : World) (R : Value → World → Prop) : vcF Tryz.prog cfg240 Tryz.f240 [a0] w R = F240 a0 w R := by kernel_rfl
theorem F240_call {a0 : Value} {w : World} {R : Value → World → Prop} (h : F240 a0 w R) : CALL Tryz.prog 240 [a0] w R :=
  call_of (g := cfg240) ent mixed Tryz.func240 (Nat.le_of_ble_eq_true (by kernel_rfl)) (by kernel_rfl) (F240_eq a0 w R ▸ h)
theorem implTermOk_ok {w : World} {v0 : Value} {W0 : World} {t : DTerm}  (h0 : Is W0 v0 t) (e0 : Ext W0 w)  :
    CALL Tryz.prog 240 [v0] w fun r w' => Ext w w' ∧ (r = .bool (termOk 6 t)) := by
  refine F240_call ?_
  unfold F240
  refine op_boxS ty134 rfl h0 e0 fun w1_ hx1_ hA1 hV1 => ?_
  refine rd_var hV1 (Ext.refl w1_) ?_
  refine ((termFits_ok 6 (by omega)) h0 (e0.trans hx1_) rfl).mono ?_
  rintro _ w2_ ⟨hx2_, rfl⟩
  refine ⟨(hx1_.trans hx2_), ?_⟩
  rfl
def F246 (a0 a1 : Value) (w : World) (R : Value → World → Prop) : Prop :=
 OP Tryz.prog (Instr.box 134 a0) w fun x2 w =>
 RD Tryz.prog (Instr.fieldAt 134 x2 0) w fun x7 =>
 RD Tryz.prog (Instr.loadAt 3 x7) w fun x8 =>
 RD Tryz.prog (bin .eql 3 (.tmp 0) (.const undef) x8 (Value.int .i64 1)) w fun x10 =>
 BR x10
 (RD Tryz.prog (Instr.fieldAt 134 x2 1) w fun x11 =>
 RD Tryz.prog (Instr.loadAt 3 x11) w fun x12 =>
 CALL Tryz.prog 122 [x12, (Value.int .i64 0), (Value.int .i64 1000000000)] w fun x13 w =>
 BR x13
 (RD Tryz.prog (Instr.fieldAt 134 x2 2) w fun x15 =>
 RD Tryz.prog (Instr.loadAt 9 x15) w fun x16 =>
 RD Tryz.prog (bin .eql 9 (.tmp 0) (.const undef) x16 (Value.string (ByteArray.mk #[]))) w fun x17 =>
 BR x17
 (RD Tryz.prog (Instr.fieldAt 134 x2 3) w fun x20 =>
 RD Tryz.prog (Instr.loadAt 132 x20) w fun x21 =>
 RD Tryz.prog (Builtin.len_ #[132] 3 [x21].toArray) w fun x22 =>
 RD Tryz.prog (bin .eql 3 (.tmp 0) (.const undef) x22 (Value.int .i64 0)) w fun x23 =>
 R x23 w)
 (R (Value.bool false) w))
 (R (Value.bool false) w))
 (RD Tryz.prog (bin .eql 3 (.tmp 0) (.const undef) x8 (Value.int .i64 2)) w fun x26 =>
 BR x26
 (RD Tryz.prog (Instr.fieldAt 134 x2 1) w fun x27 =>
 RD Tryz.prog (Instr.loadAt 3 x27) w fun x28 =>
 RD Tryz.prog (bin .eql 3 (.tmp 0) (.const undef) x28 (Value.int .i64 0)) w fun x29 =>
 BR x29
 (RD Tryz.prog (Instr.fieldAt 134 x2 2) w fun x31 =>
 RD Tryz.prog (Instr.loadAt 9 x31) w fun x32 =>
 CALL Tryz.prog 245 [x32] w fun x33 w =>
 BR x33
 (RD Tryz.prog (Instr.fieldAt 134 x2 3) w fun x36 =>
 RD Tryz.prog (Instr.loadAt 132 x36) w fun x37 =>
 RD Tryz.prog (Builtin.len_ #[132] 3 [x37].toArray) w fun x38 =>
 RD Tryz.prog (bin .eql 3 (.tmp 0) (.const undef) x38 (Value.int .i64 0)) w fun x39 =>
 R x39 w)
 (R (Value.bool false) w))
 (R (Value.bool false) w))
 (JOIN [5] (fun J9 =>
 RD Tryz.prog (Instr.fieldAt 134 x2 0) w fun x41 =>
 RD Tryz.prog (Instr.loadAt 3 x41) w fun x42 =>
 RD Tryz.prog (bin .eql 3 (.tmp 0) (.const undef) x42 (Value.int .i64 8)) w fun x43 =>
 BR x43
 (J9 [(Value.int .i64 1)] w)
 (J9 [(Value.int .i64 2)] w)) (fun u9 w =>
 RD Tryz.prog (Instr.fieldAt 134 x2 0) w fun x44 =>
 RD Tryz.prog (Instr.loadAt 3 x44) w fun x45 =>
 CALL Tryz.prog 122 [x45, (Value.int .i64 3), (Value.int .i64 9)] w fun x46 w =>
 RD Tryz.prog (Op.unary .not x46) w fun x47 =>
 BR x47
 (R (Value.bool false) w)
 (RD Tryz.prog (Instr.fieldAt 134 x2 1) w fun x49 =>
 RD Tryz.prog (Instr.loadAt 3 x49) w fun x50 =>
 RD Tryz.prog (bin .neq 3 (.tmp 0) (.const undef) x50 (Value.int .i64 0)) w fun x51 =>
 BR x51
 (R (Value.bool false) w)
 (RD Tryz.prog (Instr.fieldAt 134 x2 2) w fun x54 =>
 RD Tryz.prog (Instr.loadAt 9 x54) w fun x55 =>
 RD Tryz.prog (bin .neq 9 (.tmp 0) (.const undef) x55 (Value.string (ByteArray.mk #[]))) w fun x56 =>
 BR x56
 (R (Value.bool false) w)
 (RD Tryz.prog (Instr.fieldAt 134 x2 3) w fun x59 =>
 RD Tryz.prog (Instr.loadAt 132 x59) w fun x60 =>
 RD Tryz.prog (Builtin.len_ #[132] 3 [x60].toArray) w fun x61 =>
 RD Tryz.prog (bin .neq 3 (.tmp 0) (.tmp 0) x61 (u9 5)) w fun x63 =>
 BR x63
 (R (Value.bool false) w)
 (RD Tryz.prog (bin .eql 3 (.tmp 0) (.const undef) a1 (Value.int .i64 0)) w fun x67 =>
 BR x67
 (R (Value.bool false) w)
 (LOOPI [6] [(Value.int .i64 0)] w fun u12 w next12 =>
 RD Tryz.prog (Instr.fieldAt 134 x2 3) w fun x70 =>
 RD Tryz.prog (Instr.loadAt 132 x70) w fun x71 =>
 RD Tryz.prog (Builtin.len_ #[132] 3 [x71].toArray) w fun x72 =>
 RD Tryz.prog (bin .lss 3 (.tmp 0) (.tmp 0) (u12 6) x72) w fun x73 =>
 BR x73
 (RD Tryz.prog (Instr.fieldAt 134 x2 3) w fun x76 =>
 RD Tryz.prog (Instr.loadAt 132 x76) w fun x77 =>
 RD Tryz.prog (Instr.indexAt 132 x77 (u12 6)) w fun x79 =>
 RD Tryz.prog (Instr.loadAt 134 x79) w fun x80 =>
 RD Tryz.prog (bin .sub 3 (.tmp 0) (.const undef) a1 (Value.int .i64 1)) w fun x82 =>
 CALL Tryz.prog 246 [x80, x82] w fun x83 w =>
 RD Tryz.prog (Op.unary .not x83) w fun x84 =>
 BR x84
 (R (Value.bool false) w)
 (RD Tryz.prog (bin .add 3 (.tmp 0) (.const undef) (u12 6) (Value.int .i64 1)) w fun x75 =>
 next12 [x75] w))
 (R (Value.bool true) w)))))))))
def cfg246 : Cfg := { ext := extL, joins := [(9, 15393162788896, [5])], loops := [(12, 38685035931857774884946000, [6])], draws := [], pars := [] }
theorem F246_eq (a0 a1 : Value) (w : World) (R : Value → World → Prop) : vcF Tryz.prog cfg246 Tryz.f246 [a0, a1] w R = F246 a0 a1 w R := by kernel_rfl
theorem F246_call {a0 a1 : Value} {w : World} {R : Value → World → Prop} (h : F246 a0 a1 w R) : CALL Tryz.prog 246 [a0, a1] w R :=
  call_of (g := cfg246) ent mixed Tryz.func246 (Nat.le_of_ble_eq_true (by kernel_rfl)) (by kernel_rfl) (F246_eq a0 a1 w R ▸ h)
theorem l03Right_step {w : World} {v0 : Value} {W0 : World} {t : DTerm} {d : Int} {n : Nat} (h0 : Is W0 v0 t) (e0 : Ext W0 w) (hd : d = (n : Int)) (ih : ∀ m, m + 1 = n → Fits 246 m) (hn : n ≤ 6) :
    CALL Tryz.prog 246 [v0, .int .i64 d] w fun r w' => Ext w w' ∧ (r = .bool (termOk n t)) := by
  refine F246_call ?_
  unfold F246
  refine op_boxS ty134 rfl h0 e0 fun w1_ hx1_ hA2 hV2 => ?_
  refine rd_fld fd134_0 ?_
  refine rd_loadI ty3 (at_DTerm_0 hA2) (Ext.refl w1_) fun hI8 => ?_
  refine rd_eql ?_
  refine br (fun c1 => ?_) (fun c1 => ?_)
  · refine rd_fld fd134_1 ?_
    refine rd_loadI ty3 (at_DTerm_1 hA2) (Ext.refl w1_) fun hI12 => ?_
    refine (l01In_ok ).mono ?_
    rintro _ w2_ ⟨hx2_, rfl⟩
    refine br (fun c2 => ?_) (fun c2 => ?_)
    · refine rd_fld fd134_2 ?_
      refine rd_loadS ty9 (at_DTerm_2 hA2) hx2_ fun hS16 => ?_
      refine rd_eqlS ?_
      refine br (fun c3 => ?_) (fun c3 => ?_)
      · refine rd_fld fd134_3 ?_
        refine rd_load ty132 (at_DTerm_3 hA2) hx2_ fun v21 h21 => ?_
        have hln22 := is_len h21
        refine rd_len u132 h21 ?_
        refine rd_eql ?_
        refine ⟨(hx1_.trans hx2_), ?_⟩
        rw [termOk_1 c1]; simp only [c2, c3, and_self, decide_true, Bool.true_and]
      · refine ⟨(hx1_.trans hx2_), ?_⟩
        rw [termOk_1 c1]; simp only [c3, decide_false, Bool.and_false, Bool.false_and]
    · refine ⟨(hx1_.trans hx2_), ?_⟩
      rw [termOk_1 c1]; simp only [c2, decide_false, Bool.false_and]
  · refine rd_eql ?_
    refine br (fun c4 => ?_) (fun c4 => ?_)
    · refine rd_fld fd134_1 ?_
      refine rd_loadI ty3 (at_DTerm_1 hA2) (Ext.refl w1_) fun hI28 => ?_
      refine rd_eql ?_
      refine br (fun c5 => ?_) (fun c5 => ?_)
      · refine rd_fld fd134_2 ?_
        refine rd_loadS ty9 (at_DTerm_2 hA2) (Ext.refl w1_) fun hS32 => ?_
        refine (specIsName_ok ).mono ?_
        rintro _ w3_ ⟨hx3_, rfl⟩
        refine br_b (fun c6 => ?_) (fun c6 => ?_)
        · refine rd_fld fd134_3 ?_
          refine rd_load ty132 (at_DTerm_3 hA2) hx3_ fun v37 h37 => ?_
          have hln38 := is_len h37
          refine rd_len u132 h37 ?_
          refine rd_eql ?_
          refine ⟨(hx1_.trans hx3_), ?_⟩
          rw [termOk_2 c4]; simp only [c5, c6, decide_true, Bool.true_and]
        · refine ⟨(hx1_.trans hx3_), ?_⟩
          rw [termOk_2 c4]; simp only [c5, c6, decide_true, Bool.true_and, Bool.false_and]
      · refine ⟨hx1_, ?_⟩
        rw [termOk_2 c4]; simp only [c5, decide_false, Bool.false_and]
    · refine JOIN.mk (fun us w' => us = [.int .i64 (if t.kind = 8 then 1 else 2)] ∧ Ext w1_ w' ∧ (True)) ?_ ?_
      · refine rd_fld fd134_0 ?_
        refine rd_loadI ty3 (at_DTerm_0 hA2) (Ext.refl w1_) fun hI42 => ?_
        refine rd_eql ?_
        refine br (fun c7 => ?_) (fun c7 => ?_)
        · refine ⟨by rw [if_pos c7], Ext.refl w1_, ?_⟩
          trivial
        · refine ⟨by rw [if_neg c7], Ext.refl w1_, ?_⟩
          trivial
      · rintro uj9 w4_ ⟨hu, hx4_, hinv⟩
        simp only [List.map_cons, List.map_nil, List.cons.injEq, and_true] at hu
        try rw [hu]
        try clear hu
        refine rd_fld fd134_0 ?_
        refine rd_loadI ty3 (at_DTerm_0 hA2) hx4_ fun hI45 => ?_
        refine (l01In_ok ).mono ?_
        rintro _ w5_ ⟨hx5_, rfl⟩
        refine rd_nodec ?_
        refine br (fun c8 => ?_) (fun c8 => ?_)
        · refine ⟨(hx1_.trans (hx4_.trans hx5_)), ?_⟩
          rw [termOk_3 c1 c4]; simp only [c8, decide_false, Bool.false_and]
        · refine rd_fld fd134_1 ?_
          refine rd_loadI ty3 (at_DTerm_1 hA2) (hx4_.trans hx5_) fun hI50 => ?_
          refine rd_neq ?_
          refine br (fun c9 => ?_) (fun c9 => ?_)
          · refine ⟨(hx1_.trans (hx4_.trans hx5_)), ?_⟩
            rw [termOk_3 c1 c4]; simp only [show ¬ t.num = 0 from c9, decide_false, Bool.false_and, Bool.and_false]
          · refine rd_fld fd134_2 ?_
            refine rd_loadS ty9 (at_DTerm_2 hA2) (hx4_.trans hx5_) fun hS55 => ?_
            refine rd_neqS ?_
            refine br (fun c10 => ?_) (fun c10 => ?_)
            · refine ⟨(hx1_.trans (hx4_.trans hx5_)), ?_⟩
              rw [termOk_3 c1 c4]; simp only [show ¬ t.name = _ from c10, decide_false, Bool.false_and, Bool.and_false]
            · refine rd_fld fd134_3 ?_
              refine rd_load ty132 (at_DTerm_3 hA2) (hx4_.trans hx5_) fun v60 h60 => ?_
              have hln61 := is_len h60
              refine rd_len u132 h60 ?_
              refine rd_neq ?_
              refine br (fun c11 => ?_) (fun c11 => ?_)
              · refine ⟨(hx1_.trans (hx4_.trans hx5_)), ?_⟩
                rw [termOk_3 c1 c4]; simp only [show ¬ (t.kids.length : Int) = _ from c11, decide_false, Bool.false_and, Bool.and_false]
              · refine rd_eql ?_
                refine br (fun c12 => ?_) (fun c12 => ?_)
                · refine ⟨(hx1_.trans (hx4_.trans hx5_)), ?_⟩
                  rw [termOk_3 c1 c4]; simp [show n = 0 by omega]
                · refine loopC (t.kids.length) (fun k us w' => us = [.int .i64 (k : Int)] ∧ Ext w5_ w' ∧ ((t.kids.take k).all (termOk (n - 1)) = true)) (0) (by omega) ⟨by simp, Ext.refl w5_, by simp⟩ ?_
                  rintro k m12 uu12 w6_ hk12 ⟨hu, hx6_, hinv⟩
                  simp only [List.map_cons, List.map_nil, List.cons.injEq, and_true] at hu
                  try rw [hu]
                  try clear hu
                  refine rd_fld fd134_3 ?_
                  refine rd_load ty132 (at_DTerm_3 hA2) (hx4_.trans (hx5_.trans hx6_)) fun v71 h71 => ?_
                  have hln72 := is_len h71
                  refine rd_len u132 h71 ?_
                  refine rd_lss ?_
                  refine br (fun c13 => ?_) (fun c13 => ?_)
                  · refine rd_fld fd134_3 ?_
                    refine rd_load ty132 (at_DTerm_3 hA2) (hx4_.trans (hx5_.trans hx6_)) fun v77 h77 => ?_
                    refine rd_indexN u132 ty134 h77 (by omega) fun b79 o79 h79 => ?_
                    refine rd_load ty134 h79 (hx4_.trans (hx5_.trans hx6_)) fun v80 h80 => ?_
                    refine rd_sub (by unfold I64; omega) ?_
                    refine (ih (n - 1) (by omega) h80 (hx4_.trans (hx5_.trans hx6_)) (by omega)).mono ?_
                    rintro _ w7_ ⟨hx7_, rfl⟩
                    refine rd_not ?_
                    refine br_b (fun c14 => ?_) (fun c14 => ?_)
                    · refine ⟨(hx1_.trans (hx4_.trans (hx5_.trans (hx6_.trans hx7_)))), ?_⟩
                      rw [termOk_3 c1 c4]
                      obtain ⟨m, rfl⟩ : ∃ m, n = m + 1 := ⟨n - 1, by omega⟩
                      rw [Bool.not_eq_true', Nat.add_sub_cancel] at c14
                      simp only [all_false (by omega) c14, Bool.and_false]
                    · have hln := is_len h71
                      refine rd_inc (by omega) ?_
                      refine ⟨m12 - 1, by omega, k + 1, by omega, by simp, (hx6_.trans hx7_), ?_⟩
                      exact all_take (by omega) hinv (by simpa using c14)
                  · refine ⟨(hx1_.trans (hx4_.trans (hx5_.trans hx6_))), ?_⟩
                    rw [termOk_3 c1 c4]
                    obtain ⟨m, rfl⟩ : ∃ m, n = m + 1 := ⟨n - 1, by omega⟩
                    rw [Nat.add_sub_cancel] at hinv
                    simp only [Decidable.not_not.1 c8, Decidable.not_not.1 c9, Decidable.not_not.1 c10, Decidable.not_not.1 c11, all_done (by omega) hinv, and_self, decide_true, Bool.and_self]
theorem l03Right_ok : ∀ (n : Nat), n ≤ 6 → Fits 246 n
  | n, hn => by intro h e hd; exact l03Right_step h e hd (fun m hm => l03Right_ok m (by omega)) hn
def F205 (a0 : Value) (w : World) (R : Value → World → Prop) : Prop :=
 OP Tryz.prog (Instr.box 134 a0) w fun x1 w =>
 RD Tryz.prog (Instr.loadAt 134 x1) w fun x3 =>
 CALL Tryz.prog 246 [x3, (Value.int .i64 6)] w fun x4 w =>
 R x4 w
def cfg205 : Cfg := { ext := extL, joins := [], loops := [], draws := [], pars := [] }
theorem F205_eq (a0 : Value) (w : World) (R : Value → World → Prop) : vcF Tryz.prog cfg205 Tryz.f205 [a0] w R = F205 a0 w R := by kernel_rfl
theorem F205_call {a0 : Value} {w : World} {R : Value → World → Prop} (h : F205 a0 w R) : CALL Tryz.prog 205 [a0] w R :=
  call_of (g := cfg205) ent mixed Tryz.func205 (Nat.le_of_ble_eq_true (by kernel_rfl)) (by kernel_rfl) (F205_eq a0 w R ▸ h)
theorem specTermOk_ok {w : World} {v0 : Value} {W0 : World} {t : DTerm}  (h0 : Is W0 v0 t) (e0 : Ext W0 w)  :
    CALL Tryz.prog 205 [v0] w fun r w' => Ext w w' ∧ (r = .bool (termOk 6 t)) := by
  refine F205_call ?_
  unfold F205
  refine op_boxS ty134 rfl h0 e0 fun w1_ hx1_ hA1 hV1 => ?_
  refine rd_var hV1 (Ext.refl w1_) ?_
  refine ((l03Right_ok 6 (by omega)) h0 (e0.trans hx1_) rfl).mono ?_
  rintro _ w2_ ⟨hx2_, rfl⟩
  refine ⟨(hx1_.trans hx2_), ?_⟩
  rfl
def term0 : DTerm := .mk 0 0 (ByteArray.mk #[]) []
def F241 (a0 : Value) (w : World) (R : Value → World → Prop) : Prop :=
 OP Tryz.prog (Instr.box 134 a0) w fun x1 w =>
 RD Tryz.prog (Instr.fieldAt 134 x1 0) w fun x3 =>
 RD Tryz.prog (Instr.loadAt 3 x3) w fun x4 =>
 RD Tryz.prog (bin .eql 3 (.tmp 0) (.const undef) x4 (Value.int .i64 0)) w fun x5 =>
 BR x5
 (RD Tryz.prog (Instr.fieldAt 134 x1 1) w fun x7 =>
 RD Tryz.prog (Instr.loadAt 3 x7) w fun x8 =>
 RD Tryz.prog (bin .eql 3 (.tmp 0) (.const undef) x8 (Value.int .i64 0)) w fun x9 =>
 BR x9
 (RD Tryz.prog (Instr.fieldAt 134 x1 2) w fun x12 =>
 RD Tryz.prog (Instr.loadAt 9 x12) w fun x13 =>
 RD Tryz.prog (bin .eql 9 (.tmp 0) (.const undef) x13 (Value.string (ByteArray.mk #[]))) w fun x14 =>
 BR x14
 (RD Tryz.prog (Instr.fieldAt 134 x1 3) w fun x17 =>
 RD Tryz.prog (Instr.loadAt 132 x17) w fun x18 =>
 RD Tryz.prog (Builtin.len_ #[132] 3 [x18].toArray) w fun x19 =>
 RD Tryz.prog (bin .eql 3 (.tmp 0) (.const undef) x19 (Value.int .i64 0)) w fun x20 =>
 R x20 w)
 (R (Value.bool false) w))
 (R (Value.bool false) w))
 (R (Value.bool false) w)
def cfg241 : Cfg := { ext := extL, joins := [], loops := [], draws := [], pars := [] }
theorem F241_eq (a0 : Value) (w : World) (R : Value → World → Prop) : vcF Tryz.prog cfg241 Tryz.f241 [a0] w R = F241 a0 w R := by kernel_rfl
theorem F241_call {a0 : Value} {w : World} {R : Value → World → Prop} (h : F241 a0 w R) : CALL Tryz.prog 241 [a0] w R :=
  call_of (g := cfg241) ent mixed Tryz.func241 (Nat.le_of_ble_eq_true (by kernel_rfl)) (by kernel_rfl) (F241_eq a0 w R ▸ h)
theorem isZeroTerm_ok {w : World} {v0 : Value} {W0 : World} {t : DTerm}  (h0 : Is W0 v0 t) (e0 : Ext W0 w)  :
    CALL Tryz.prog 241 [v0] w fun r w' => Ext w w' ∧ (r = .bool (decide (t = term0))) := by
  refine F241_call ?_
  unfold F241
  refine op_boxS ty134 rfl h0 e0 fun w1_ hx1_ hA1 hV1 => ?_
  refine rd_fld fd134_0 ?_
  refine rd_loadI ty3 (at_DTerm_0 hA1) (Ext.refl w1_) fun hI4 => ?_
  refine rd_eql ?_
  refine br (fun c1 => ?_) (fun c1 => ?_)
  · refine rd_fld fd134_1 ?_
    refine rd_loadI ty3 (at_DTerm_1 hA1) (Ext.refl w1_) fun hI8 => ?_
    refine rd_eql ?_
    refine br (fun c2 => ?_) (fun c2 => ?_)
    · refine rd_fld fd134_2 ?_
      refine rd_loadS ty9 (at_DTerm_2 hA1) (Ext.refl w1_) fun hS13 => ?_
      refine rd_eqlS ?_
      refine br (fun c3 => ?_) (fun c3 => ?_)
      · refine rd_fld fd134_3 ?_
        refine rd_load ty132 (at_DTerm_3 hA1) (Ext.refl w1_) fun v18 h18 => ?_
        have hln19 := is_len h18
        refine rd_len u132 h18 ?_
        refine rd_eql ?_
        refine ⟨hx1_, ?_⟩
        congr 1
        rw [decide_eq_decide, DTerm.ext_iff]
        exact ⟨fun h => ⟨c1, c2, c3, List.eq_nil_of_length_eq_zero (by omega)⟩, fun h => by rw [h.2.2.2]; rfl⟩
      · refine ⟨hx1_, ?_⟩
        have : t ≠ term0 := fun e => c3 (by rw [e]; rfl)
        simp [this]
    · refine ⟨hx1_, ?_⟩
      have : t ≠ term0 := fun e => c2 (by rw [e]; rfl)
      simp [this]
  · refine ⟨hx1_, ?_⟩
    have : t ≠ term0 := fun e => c1 (by rw [e]; rfl)
    simp [this]
def F207 (a0 a1 : Value) (w : World) (R : Value → World → Prop) : Prop :=
 OP Tryz.prog (Instr.box 134 a0) w fun x2 w =>
 OP Tryz.prog (Instr.box 134 a1) w fun x3 w =>
 RD Tryz.prog (Instr.fieldAt 134 x2 0) w fun x6 =>
 RD Tryz.prog (Instr.loadAt 3 x6) w fun x7 =>
 RD Tryz.prog (Instr.fieldAt 134 x3 0) w fun x8 =>
 RD Tryz.prog (Instr.loadAt 3 x8) w fun x9 =>
 RD Tryz.prog (bin .neq 3 (.tmp 0) (.tmp 0) x7 x9) w fun x10 =>
 BR x10
 (R (Value.bool false) w)
 (RD Tryz.prog (Instr.fieldAt 134 x2 1) w fun x12 =>
 RD Tryz.prog (Instr.loadAt 3 x12) w fun x13 =>
 RD Tryz.prog (Instr.fieldAt 134 x3 1) w fun x14 =>
 RD Tryz.prog (Instr.loadAt 3 x14) w fun x15 =>
 RD Tryz.prog (bin .neq 3 (.tmp 0) (.tmp 0) x13 x15) w fun x16 =>
 BR x16
 (R (Value.bool false) w)
 (RD Tryz.prog (Instr.fieldAt 134 x2 2) w fun x19 =>
 RD Tryz.prog (Instr.loadAt 9 x19) w fun x20 =>
 RD Tryz.prog (Instr.fieldAt 134 x3 2) w fun x21 =>
 RD Tryz.prog (Instr.loadAt 9 x21) w fun x22 =>
 RD Tryz.prog (bin .neq 9 (.tmp 0) (.tmp 0) x20 x22) w fun x23 =>
 BR x23
 (R (Value.bool false) w)
 (RD Tryz.prog (Instr.fieldAt 134 x2 3) w fun x26 =>
 RD Tryz.prog (Instr.loadAt 132 x26) w fun x27 =>
 RD Tryz.prog (Builtin.len_ #[132] 3 [x27].toArray) w fun x28 =>
 RD Tryz.prog (Instr.fieldAt 134 x3 3) w fun x29 =>
 RD Tryz.prog (Instr.loadAt 132 x29) w fun x30 =>
 RD Tryz.prog (Builtin.len_ #[132] 3 [x30].toArray) w fun x31 =>
 RD Tryz.prog (bin .neq 3 (.tmp 0) (.tmp 0) x28 x31) w fun x32 =>
 BR x32
 (R (Value.bool false) w)
 (LOOPI [5] [(Value.int .i64 0)] w fun u4 w next4 =>
 RD Tryz.prog (Instr.fieldAt 134 x2 3) w fun x35 =>
 RD Tryz.prog (Instr.loadAt 132 x35) w fun x36 =>
 RD Tryz.prog (Builtin.len_ #[132] 3 [x36].toArray) w fun x37 =>
 RD Tryz.prog (bin .lss 3 (.tmp 0) (.tmp 0) (u4 5) x37) w fun x38 =>
 BR x38
 ((fun w => RD Tryz.prog (Instr.fieldAt 134 x2 3) w fun x41 =>
 RD Tryz.prog (Instr.loadAt 132 x41) w fun x42 =>
 RD Tryz.prog (Instr.indexAt 132 x42 (u4 5)) w fun x44 =>
 RD Tryz.prog (Instr.loadAt 134 x44) w fun x45 =>
 RD Tryz.prog (Instr.fieldAt 134 x3 3) w fun x46 =>
 RD Tryz.prog (Instr.loadAt 132 x46) w fun x47 =>
 RD Tryz.prog (Instr.indexAt 132 x47 (u4 5)) w fun x49 =>
 RD Tryz.prog (Instr.loadAt 134 x49) w fun x50 =>
 CALL Tryz.prog 207 [x45, x50] w fun x51 w =>
 RD Tryz.prog (Op.unary .not x51) w fun x52 =>
 BR x52
 (R (Value.bool false) w)
 (RD Tryz.prog (bin .add 3 (.tmp 0) (.const undef) (u4 5) (Value.int .i64 1)) w fun x40 =>
 next4 [x40] w)) (World.drew1 w))
 (R (Value.bool true) w)))))
def cfg207 : Cfg := { ext := extL, joins := [], loops := [(4, 9007182074871856, [5])], draws := [(6, [0, 1, 2, 3, 4, 5, 6, 7, 8, 9, 10, 11], 0)], pars := [] }
theorem F207_eq (a0 a1 : Value) (w : World) (R : Value → World → Prop) : vcF Tryz.prog cfg207 Tryz.f207 [a0, a1] w R = F207 a0 a1 w R := by kernel_rfl
theorem F207_call {a0 a1 : Value} {w : World} {R : Value → World → Prop} (h : F207 a0 a1 w R) : CALL Tryz.prog 207 [a0, a1] w R :=
  call_of (g := cfg207) ent mixed Tryz.func207 (Nat.le_of_ble_eq_true (by kernel_rfl)) (by kernel_rfl) (F207_eq a0 a1 w R ▸ h)
theorem sameTerm0_ok {w : World} {v0 : Value} {W0 : World} {t : DTerm} {v1 : Value} {W1 : World} {t2 : DTerm}  (h0 : Is W0 v0 t) (e0 : Ext W0 w) (h1 : Is W1 v1 t2) (e1 : Ext W1 w) (ht : t2 = term0) :
    CALL Tryz.prog 207 [v0, v1] w fun r w' => Ext w w' ∧ (r = .bool (decide (t = term0))) := by
  refine F207_call ?_
  unfold F207
  subst ht
  refine op_boxS ty134 rfl h0 e0 fun w1_ hx1_ hA2 hV2 => ?_
  refine op_boxS ty134 rfl h1 (e1.trans hx1_) fun w2_ hx2_ hA3 hV3 => ?_
  refine rd_fld fd134_0 ?_
  refine rd_loadI ty3 (at_DTerm_0 hA2) hx2_ fun hI7 => ?_
  refine rd_fld fd134_0 ?_
  refine rd_loadI ty3 (at_DTerm_0 hA3) (Ext.refl w2_) fun hI9 => ?_
  refine rd_neq ?_
  refine br (fun c1 => ?_) (fun c1 => ?_)
  · refine ⟨(hx1_.trans hx2_), ?_⟩
    have : t ≠ term0 := fun e => c1 (by rw [e])
    simp [this]
  · refine rd_fld fd134_1 ?_
    refine rd_loadI ty3 (at_DTerm_1 hA2) hx2_ fun hI13 => ?_
    refine rd_fld fd134_1 ?_
    refine rd_loadI ty3 (at_DTerm_1 hA3) (Ext.refl w2_) fun hI15 => ?_
    refine rd_neq ?_
    refine br (fun c2 => ?_) (fun c2 => ?_)
    · refine ⟨(hx1_.trans hx2_), ?_⟩
      have : t ≠ term0 := fun e => c2 (by rw [e])
      simp [this]
    · refine rd_fld fd134_2 ?_
      refine rd_loadS ty9 (at_DTerm_2 hA2) hx2_ fun hS20 => ?_
      refine rd_fld fd134_2 ?_
      refine rd_loadS ty9 (at_DTerm_2 hA3) (Ext.refl w2_) fun hS22 => ?_
      refine rd_neqS ?_
      refine br (fun c3 => ?_) (fun c3 => ?_)
      · refine ⟨(hx1_.trans hx2_), ?_⟩
        have : t ≠ term0 := fun e => c3 (by rw [e])
        simp [this]
      · refine rd_fld fd134_3 ?_
        refine rd_load ty132 (at_DTerm_3 hA2) hx2_ fun v27 h27 => ?_
        have hln28 := is_len h27
        refine rd_len u132 h27 ?_
        refine rd_fld fd134_3 ?_
        refine rd_load ty132 (at_DTerm_3 hA3) (Ext.refl w2_) fun v30 h30 => ?_
        have hln31 := is_len h30
        refine rd_len u132 h30 ?_
        refine rd_neq ?_
        refine br (fun c4 => ?_) (fun c4 => ?_)
        · refine ⟨(hx1_.trans hx2_), ?_⟩
          have : t ≠ term0 := fun e => c4 (by rw [e])
          simp [this]
        · refine loopC (0) (fun k us w' => us = [.int .i64 (k : Int)] ∧ Ext w2_ w' ∧ (True)) (0) (by omega) ⟨by simp, Ext.refl w2_, trivial⟩ ?_
          rintro k m4 uu4 w3_ hk4 ⟨hu, hx3_, hinv⟩
          simp only [List.map_cons, List.map_nil, List.cons.injEq, and_true] at hu
          try rw [hu]
          try clear hu
          refine rd_fld fd134_3 ?_
          refine rd_load ty132 (at_DTerm_3 hA2) (hx2_.trans hx3_) fun v36 h36 => ?_
          have hln37 := is_len h36
          refine rd_len u132 h36 ?_
          refine rd_lss ?_
          refine br (fun c5 => ?_) (fun c5 => ?_)
          · have hx4_ := ext_drew w3_
            exact absurd c5 (by have : (term0.kids.length : Int) = 0 := rfl; omega)
          · refine ⟨(hx1_.trans (hx2_.trans hx3_)), ?_⟩
            have : t = term0 := DTerm.ext_iff.2 ⟨Decidable.not_not.1 c1, Decidable.not_not.1 c2, Decidable.not_not.1 c3, List.eq_nil_of_length_eq_zero (by have : (term0.kids.length : Int) = 0 := rfl; omega)⟩
            simp [this]
def plc (s : ByteArray) : List ByteArray → Int
  | [] => -1
  | x :: l => if x = s then 0 else if plc s l < 0 then -1 else plc s l + 1
theorem plc_none {s : ByteArray} {l : List ByteArray} (h : s ∉ l) : plc s l = -1 := by
  induction l with
  | nil => rfl
  | cons x l ih =>
    simp only [List.mem_cons, not_or] at h
    rw [plc, if_neg (fun e => h.1 e.symm), ih h.2]; rfl
theorem plc_at {s : ByteArray} : ∀ {l : List ByteArray} {k : Nat} (hk : k < l.length), s ∉ l.take k → l[k] = s → plc s l = k
  | x :: l, 0, _, _, h => by simp only [List.getElem_cons_zero] at h; rw [plc, if_pos h]; rfl
  | x :: l, k + 1, hk, hn, h => by
    simp only [List.take_succ_cons, List.mem_cons, not_or] at hn
    have ih := plc_at (by simpa using hk) hn.2 (by simpa using h)
    rw [plc, if_neg (fun e => hn.1 e.symm), ih, if_neg (by omega)]
    omega
theorem plc_lt {s : ByteArray} {l : List ByteArray} : -1 ≤ plc s l ∧ plc s l < l.length := by
  induction l with
  | nil => simp [plc]
  | cons x l ih =>
    rw [plc]
    split
    · simp only [List.length_cons]; omega
    · split <;> simp only [List.length_cons] <;> omega
theorem plc_iff {s : ByteArray} {l : List ByteArray} : 0 ≤ plc s l ↔ s ∈ l := by
  induction l with
  | nil => simp [plc]
  | cons x l ih =>
    rw [plc]
    split
    · rename_i h; simp [h]
    · rename_i h
      rw [List.mem_cons, ← ih]
      have : ¬ s = x := fun e => h e.symm
      simp only [this, false_or]
      split <;> omega
theorem mem_take_succS {l : List ByteArray} {k : Nat} {y : ByteArray} (hk : k < l.length) (h : y ∉ l.take k) (c : ¬ l[k] = y) : y ∉ l.take (k + 1) := by
  rw [List.take_succ_eq_append_getElem hk]
  simp only [List.mem_append, List.mem_cons, List.not_mem_nil, or_false, not_or]
  exact ⟨h, fun e => c e.symm⟩
def F204 (a0 a1 : Value) (w : World) (R : Value → World → Prop) : Prop :=
 LOOPI [5] [(Value.int .i64 0)] w fun u2 w next2 =>
 RD Tryz.prog (Builtin.len_ #[22] 3 [a0].toArray) w fun x8 =>
 RD Tryz.prog (bin .lss 3 (.tmp 0) (.tmp 0) (u2 5) x8) w fun x9 =>
 BR x9
 (RD Tryz.prog (Instr.indexAt 22 a0 (u2 5)) w fun x14 =>
 RD Tryz.prog (Instr.loadAt 9 x14) w fun x15 =>
 RD Tryz.prog (bin .eql 9 (.tmp 0) (.tmp 0) x15 a1) w fun x17 =>
 BR x17
 (R (u2 5) w)
 (RD Tryz.prog (bin .add 3 (.tmp 0) (.const undef) (u2 5) (Value.int .i64 1)) w fun x11 =>
 next2 [x11] w))
 (R (Value.int .i64 (-1)) w)
def cfg204 : Cfg := { ext := extL, joins := [], loops := [(2, 524272, [5])], draws := [], pars := [] }
theorem F204_eq (a0 a1 : Value) (w : World) (R : Value → World → Prop) : vcF Tryz.prog cfg204 Tryz.f204 [a0, a1] w R = F204 a0 a1 w R := by kernel_rfl
theorem F204_call {a0 a1 : Value} {w : World} {R : Value → World → Prop} (h : F204 a0 a1 w R) : CALL Tryz.prog 204 [a0, a1] w R :=
  call_of (g := cfg204) ent mixed Tryz.func204 (Nat.le_of_ble_eq_true (by kernel_rfl)) (by kernel_rfl) (F204_eq a0 a1 w R ▸ h)
theorem specPlaceOf_ok {w : World} {v0 : Value} {W0 : World} {l : (List ByteArray)} {s : ByteArray}  (h0 : Is W0 v0 l) (e0 : Ext W0 w)  :
    CALL Tryz.prog 204 [v0, .string s] w fun r w' => Ext w w' ∧ (r = .int .i64 (plc s l)) := by
  refine F204_call ?_
  unfold F204
  refine loopC (l.length) (fun k us w' => us = [.int .i64 (k : Int)] ∧ Ext w w' ∧ (s ∉ l.take k)) (0) (by omega) ⟨by simp, Ext.refl w, by simp⟩ ?_
  rintro k m2 uu2 w1_ hk2 ⟨hu, hx1_, hinv⟩
  simp only [List.map_cons, List.map_nil, List.cons.injEq, and_true] at hu
  try rw [hu]
  try clear hu
  have hln8 := is_len h0
  refine rd_len u22 h0 ?_
  refine rd_lss ?_
  refine br (fun c1 => ?_) (fun c1 => ?_)
  · refine rd_indexN u22 ty9 h0 (by omega) fun b14 o14 h14 => ?_
    refine rd_loadS ty9 h14 (e0.trans hx1_) fun hS15 => ?_
    refine rd_eqlS ?_
    refine br (fun c2 => ?_) (fun c2 => ?_)
    · refine ⟨hx1_, ?_⟩
      rw [plc_at (by omega) hinv c2]
    · refine rd_inc (by omega) ?_
      refine ⟨m2 - 1, by omega, k + 1, by omega, by simp, hx1_, ?_⟩
      exact mem_take_succS (by omega) hinv c2
  · refine ⟨hx1_, ?_⟩
    rw [List.take_of_length_le (by omega)] at hinv
    rw [plc_none hinv]
def F242 (a0 a1 : Value) (w : World) (R : Value → World → Prop) : Prop :=
 RD Tryz.prog (Builtin.len_ #[22] 3 [a0].toArray) w fun x7 =>
 LOOPI [8] [(Value.int .i64 0)] w fun u2 w next2 =>
 RD Tryz.prog (bin .lss 3 (.tmp 0) (.tmp 0) (u2 8) x7) w fun x9 =>
 BR x9
 (RD Tryz.prog (Instr.indexAt 22 a0 (u2 8)) w fun x14 =>
 RD Tryz.prog (Instr.loadAt 9 x14) w fun x15 =>
 RD Tryz.prog (bin .eql 9 (.tmp 0) (.tmp 0) a1 x15) w fun x16 =>
 BR x16
 (R (u2 8) w)
 (RD Tryz.prog (bin .add 3 (.tmp 0) (.const undef) (u2 8) (Value.int .i64 1)) w fun x18 =>
 next2 [x18] w))
 (R (Value.int .i64 (-1)) w)
def cfg242 : Cfg := { ext := extL, joins := [], loops := [(2, 524080, [8])], draws := [], pars := [] }
theorem F242_eq (a0 a1 : Value) (w : World) (R : Value → World → Prop) : vcF Tryz.prog cfg242 Tryz.f242 [a0, a1] w R = F242 a0 a1 w R := by kernel_rfl
theorem F242_call {a0 a1 : Value} {w : World} {R : Value → World → Prop} (h : F242 a0 a1 w R) : CALL Tryz.prog 242 [a0, a1] w R :=
  call_of (g := cfg242) ent mixed Tryz.func242 (Nat.le_of_ble_eq_true (by kernel_rfl)) (by kernel_rfl) (F242_eq a0 a1 w R ▸ h)
theorem indexStr_ok {w : World} {v0 : Value} {W0 : World} {l : (List ByteArray)} {s : ByteArray}  (h0 : Is W0 v0 l) (e0 : Ext W0 w)  :
    CALL Tryz.prog 242 [v0, .string s] w fun r w' => Ext w w' ∧ (r = .int .i64 (plc s l)) := by
  refine F242_call ?_
  unfold F242
  have hln7 := is_len h0
  refine rd_len u22 h0 ?_
  refine loopC (l.length) (fun k us w' => us = [.int .i64 (k : Int)] ∧ Ext w w' ∧ (s ∉ l.take k)) (0) (by omega) ⟨by simp, Ext.refl w, by simp⟩ ?_
  rintro k m2 uu2 w1_ hk2 ⟨hu, hx1_, hinv⟩
  simp only [List.map_cons, List.map_nil, List.cons.injEq, and_true] at hu
  try rw [hu]
  try clear hu
  refine rd_lss ?_
  refine br (fun c1 => ?_) (fun c1 => ?_)
  · refine rd_indexN u22 ty9 h0 (by omega) fun b14 o14 h14 => ?_
    refine rd_loadS ty9 h14 (e0.trans hx1_) fun hS15 => ?_
    refine rd_eqlS ?_
    refine br (fun c2 => ?_) (fun c2 => ?_)
    · refine ⟨hx1_, ?_⟩
      rw [plc_at (by omega) hinv c2.symm]
    · refine rd_inc (by omega) ?_
      refine ⟨m2 - 1, by omega, k + 1, by omega, by simp, hx1_, ?_⟩
      exact mem_take_succS (by omega) hinv (fun e => c2 e.symm)
  · refine ⟨hx1_, ?_⟩
    rw [List.take_of_length_le (by omega)] at hinv
    rw [plc_none hinv]
def F226 (a0 a1 : Value) (w : World) (R : Value → World → Prop) : Prop :=
 CALL Tryz.prog 242 [a0, a1] w fun x7 w =>
 RD Tryz.prog (bin .geq 3 (.tmp 0) (.const undef) x7 (Value.int .i64 0)) w fun x8 =>
 R x8 w
def cfg226 : Cfg := { ext := extL, joins := [], loops := [], draws := [], pars := [] }
theorem F226_eq (a0 a1 : Value) (w : World) (R : Value → World → Prop) : vcF Tryz.prog cfg226 Tryz.f226 [a0, a1] w R = F226 a0 a1 w R := by kernel_rfl
theorem F226_call {a0 a1 : Value} {w : World} {R : Value → World → Prop} (h : F226 a0 a1 w R) : CALL Tryz.prog 226 [a0, a1] w R :=
  call_of (g := cfg226) ent mixed Tryz.func226 (Nat.le_of_ble_eq_true (by kernel_rfl)) (by kernel_rfl) (F226_eq a0 a1 w R ▸ h)
theorem containsStr_ok {w : World} {v0 : Value} {W0 : World} {l : (List ByteArray)} {s : ByteArray}  (h0 : Is W0 v0 l) (e0 : Ext W0 w)  :
    CALL Tryz.prog 226 [v0, .string s] w fun r w' => Ext w w' ∧ (r = .bool (decide (s ∈ l))) := by
  refine F226_call ?_
  unfold F226
  refine (indexStr_ok h0 e0).mono ?_
  rintro _ w1_ ⟨hx1_, rfl⟩
  refine rd_geq ?_
  refine ⟨hx1_, ?_⟩
  simp [plc_iff]
def F219 (a0 a1 : Value) (w : World) (R : Value → World → Prop) : Prop :=
 LOOPI [5] [(Value.int .i64 0)] w fun u2 w next2 =>
 RD Tryz.prog (Builtin.len_ #[22] 3 [a0].toArray) w fun x8 =>
 RD Tryz.prog (bin .lss 3 (.tmp 0) (.tmp 0) (u2 5) x8) w fun x9 =>
 BR x9
 (RD Tryz.prog (Instr.indexAt 22 a0 (u2 5)) w fun x14 =>
 RD Tryz.prog (Instr.loadAt 9 x14) w fun x15 =>
 RD Tryz.prog (bin .eql 9 (.tmp 0) (.tmp 0) x15 a1) w fun x17 =>
 BR x17
 (R (Value.bool true) w)
 (RD Tryz.prog (bin .add 3 (.tmp 0) (.const undef) (u2 5) (Value.int .i64 1)) w fun x11 =>
 next2 [x11] w))
 (R (Value.bool false) w)
def cfg219 : Cfg := { ext := extL, joins := [], loops := [(2, 262128, [5])], draws := [], pars := [] }
theorem F219_eq (a0 a1 : Value) (w : World) (R : Value → World → Prop) : vcF Tryz.prog cfg219 Tryz.f219 [a0, a1] w R = F219 a0 a1 w R := by kernel_rfl
theorem F219_call {a0 a1 : Value} {w : World} {R : Value → World → Prop} (h : F219 a0 a1 w R) : CALL Tryz.prog 219 [a0, a1] w R :=
  call_of (g := cfg219) ent mixed Tryz.func219 (Nat.le_of_ble_eq_true (by kernel_rfl)) (by kernel_rfl) (F219_eq a0 a1 w R ▸ h)
theorem l04Has_ok {w : World} {v0 : Value} {W0 : World} {l : (List ByteArray)} {s : ByteArray}  (h0 : Is W0 v0 l) (e0 : Ext W0 w)  :
    CALL Tryz.prog 219 [v0, .string s] w fun r w' => Ext w w' ∧ (r = .bool (decide (s ∈ l))) := by
  refine F219_call ?_
  unfold F219
  refine loopC (l.length) (fun k us w' => us = [.int .i64 (k : Int)] ∧ Ext w w' ∧ (s ∉ l.take k)) (0) (by omega) ⟨by simp, Ext.refl w, by simp⟩ ?_
  rintro k m2 uu2 w1_ hk2 ⟨hu, hx1_, hinv⟩
  simp only [List.map_cons, List.map_nil, List.cons.injEq, and_true] at hu
  try rw [hu]
  try clear hu
  have hln8 := is_len h0
  refine rd_len u22 h0 ?_
  refine rd_lss ?_
  refine br (fun c1 => ?_) (fun c1 => ?_)
  · refine rd_indexN u22 ty9 h0 (by omega) fun b14 o14 h14 => ?_
    refine rd_loadS ty9 h14 (e0.trans hx1_) fun hS15 => ?_
    refine rd_eqlS ?_
    refine br (fun c2 => ?_) (fun c2 => ?_)
    · refine ⟨hx1_, ?_⟩
      have : s ∈ l := c2 ▸ List.getElem_mem _
      simp [this]
    · refine rd_inc (by omega) ?_
      refine ⟨m2 - 1, by omega, k + 1, by omega, by simp, hx1_, ?_⟩
      exact mem_take_succS (by omega) hinv c2
  · refine ⟨hx1_, ?_⟩
    rw [List.take_of_length_le (by omega)] at hinv
    simp [hinv]
def F237 (a0 a1 : Value) (w : World) (R : Value → World → Prop) : Prop :=
 RD Tryz.prog (Builtin.len_ #[22] 3 [a0].toArray) w fun x8 =>
 RD Tryz.prog (bin .gtr 3 (.tmp 0) (.tmp 0) x8 a1) w fun x10 =>
 BR x10
 (R (Value.bool false) w)
 (RD Tryz.prog (Builtin.len_ #[22] 3 [a0].toArray) w fun x12 =>
 LOOPI [13] [(Value.int .i64 0)] w fun u4 w next4 =>
 RD Tryz.prog (bin .lss 3 (.tmp 0) (.tmp 0) (u4 13) x12) w fun x14 =>
 BR x14
 (RD Tryz.prog (Instr.indexAt 22 a0 (u4 13)) w fun x15 =>
 RD Tryz.prog (Instr.loadAt 9 x15) w fun x16 =>
 CALL Tryz.prog 286 [x16] w fun x18 w =>
 RD Tryz.prog (Op.unary .not x18) w fun x19 =>
 BR x19
 (R (Value.bool false) w)
 (RD Tryz.prog (bin .add 3 (.tmp 0) (.const undef) (u4 13) (Value.int .i64 1)) w fun x20 =>
 next4 [x20] w))
 (R (Value.bool true) w))
def cfg237 : Cfg := { ext := extL, joins := [], loops := [(4, 2089040, [13])], draws := [], pars := [] }
theorem F237_eq (a0 a1 : Value) (w : World) (R : Value → World → Prop) : vcF Tryz.prog cfg237 Tryz.f237 [a0, a1] w R = F237 a0 a1 w R := by kernel_rfl
theorem F237_call {a0 a1 : Value} {w : World} {R : Value → World → Prop} (h : F237 a0 a1 w R) : CALL Tryz.prog 237 [a0, a1] w R :=
  call_of (g := cfg237) ent mixed Tryz.func237 (Nat.le_of_ble_eq_true (by kernel_rfl)) (by kernel_rfl) (F237_eq a0 a1 w R ▸ h)
theorem areNames_ok {w : World} {v0 : Value} {W0 : World} {l : (List ByteArray)} {m : Int}  (h0 : Is W0 v0 l) (e0 : Ext W0 w)  :
    CALL Tryz.prog 237 [v0, .int .i64 m] w fun r w' => Ext w w' ∧ (r = .bool (decide ((l.length : Int) ≤ m) && l.all nameB)) := by
  refine F237_call ?_
  unfold F237
  have hln8 := is_len h0
  refine rd_len u22 h0 ?_
  refine rd_gtr ?_
  refine br (fun c1 => ?_) (fun c1 => ?_)
  · refine ⟨Ext.refl w, ?_⟩
    simp [show ¬ (l.length : Int) ≤ m by omega]
  · have hln12 := is_len h0
    refine rd_len u22 h0 ?_
    refine loopC (l.length) (fun k us w' => us = [.int .i64 (k : Int)] ∧ Ext w w' ∧ ((l.take k).all nameB = true)) (0) (by omega) ⟨by simp, Ext.refl w, by simp⟩ ?_
    rintro k m4 uu4 w1_ hk4 ⟨hu, hx1_, hinv⟩
    simp only [List.map_cons, List.map_nil, List.cons.injEq, and_true] at hu
    try rw [hu]
    try clear hu
    refine rd_lss ?_
    refine br (fun c2 => ?_) (fun c2 => ?_)
    · refine rd_indexN u22 ty9 h0 (by omega) fun b15 o15 h15 => ?_
      refine rd_loadS ty9 h15 (e0.trans hx1_) fun hS16 => ?_
      refine (implIsName_ok ).mono ?_
      rintro _ w2_ ⟨hx2_, rfl⟩
      refine rd_not ?_
      refine br_b (fun c3 => ?_) (fun c3 => ?_)
      · refine ⟨(hx1_.trans hx2_), ?_⟩
        simp only [all_false (p := nameB) (l := l) (k := k) (by omega) (by simpa using c3), Bool.and_false]
      · have hln := is_len h0
        refine rd_inc (by omega) ?_
        refine ⟨m4 - 1, by omega, k + 1, by omega, by simp, (hx1_.trans hx2_), ?_⟩
        exact all_take (by omega) hinv (by simpa using c3)
    · refine ⟨hx1_, ?_⟩
      simp [all_done (p := nameB) (l := l) (by omega) hinv, show (l.length : Int) ≤ m by omega]
def F202 (a0 a1 : Value) (w : World) (R : Value → World → Prop) : Prop :=
 RD Tryz.prog (Builtin.len_ #[22] 3 [a0].toArray) w fun x7 =>
 RD Tryz.prog (bin .gtr 3 (.tmp 0) (.tmp 0) x7 a1) w fun x9 =>
 BR x9
 (R (Value.bool false) w)
 (LOOPI [5] [(Value.int .i64 0)] w fun u4 w next4 =>
 RD Tryz.prog (Builtin.len_ #[22] 3 [a0].toArray) w fun x12 =>
 RD Tryz.prog (bin .lss 3 (.tmp 0) (.tmp 0) (u4 5) x12) w fun x13 =>
 BR x13
 (RD Tryz.prog (Instr.indexAt 22 a0 (u4 5)) w fun x18 =>
 RD Tryz.prog (Instr.loadAt 9 x18) w fun x19 =>
 CALL Tryz.prog 245 [x19] w fun x20 w =>
 RD Tryz.prog (Op.unary .not x20) w fun x21 =>
 BR x21
 (R (Value.bool false) w)
 (RD Tryz.prog (bin .add 3 (.tmp 0) (.const undef) (u4 5) (Value.int .i64 1)) w fun x15 =>
 next4 [x15] w))
 (R (Value.bool true) w))
def cfg202 : Cfg := { ext := extL, joins := [], loops := [(4, 4193328, [5])], draws := [], pars := [] }
theorem F202_eq (a0 a1 : Value) (w : World) (R : Value → World → Prop) : vcF Tryz.prog cfg202 Tryz.f202 [a0, a1] w R = F202 a0 a1 w R := by kernel_rfl
theorem F202_call {a0 a1 : Value} {w : World} {R : Value → World → Prop} (h : F202 a0 a1 w R) : CALL Tryz.prog 202 [a0, a1] w R :=
  call_of (g := cfg202) ent mixed Tryz.func202 (Nat.le_of_ble_eq_true (by kernel_rfl)) (by kernel_rfl) (F202_eq a0 a1 w R ▸ h)
theorem l05Names_ok {w : World} {v0 : Value} {W0 : World} {l : (List ByteArray)} {m : Int}  (h0 : Is W0 v0 l) (e0 : Ext W0 w)  :
    CALL Tryz.prog 202 [v0, .int .i64 m] w fun r w' => Ext w w' ∧ (r = .bool (decide ((l.length : Int) ≤ m) && l.all nameB)) := by
  refine F202_call ?_
  unfold F202
  have hln7 := is_len h0
  refine rd_len u22 h0 ?_
  refine rd_gtr ?_
  refine br (fun c1 => ?_) (fun c1 => ?_)
  · refine ⟨Ext.refl w, ?_⟩
    simp [show ¬ (l.length : Int) ≤ m by omega]
  · refine loopC (l.length) (fun k us w' => us = [.int .i64 (k : Int)] ∧ Ext w w' ∧ ((l.take k).all nameB = true)) (0) (by omega) ⟨by simp, Ext.refl w, by simp⟩ ?_
    rintro k m4 uu4 w1_ hk4 ⟨hu, hx1_, hinv⟩
    simp only [List.map_cons, List.map_nil, List.cons.injEq, and_true] at hu
    try rw [hu]
    try clear hu
    have hln12 := is_len h0
    refine rd_len u22 h0 ?_
    refine rd_lss ?_
    refine br (fun c2 => ?_) (fun c2 => ?_)
    · refine rd_indexN u22 ty9 h0 (by omega) fun b18 o18 h18 => ?_
      refine rd_loadS ty9 h18 (e0.trans hx1_) fun hS19 => ?_
      refine (specIsName_ok ).mono ?_
      rintro _ w2_ ⟨hx2_, rfl⟩
      refine rd_not ?_
      refine br_b (fun c3 => ?_) (fun c3 => ?_)
      · refine ⟨(hx1_.trans hx2_), ?_⟩
        simp only [all_false (p := nameB) (l := l) (k := k) (by omega) (by simpa using c3), Bool.and_false]
      · refine rd_inc (by omega) ?_
        refine ⟨m4 - 1, by omega, k + 1, by omega, by simp, (hx1_.trans hx2_), ?_⟩
        exact all_take (by omega) hinv (by simpa using c3)
    · refine ⟨hx1_, ?_⟩
      simp [all_done (p := nameB) (l := l) (by omega) hinv, show (l.length : Int) ≤ m by omega]
instance decNodup : ∀ (l : List ByteArray), Decidable l.Nodup
  | [] => isTrue List.nodup_nil
  | x :: l => match decMemBA x l, decNodup l with
    | isFalse h, isTrue h' => isTrue (List.nodup_cons.2 ⟨h, h'⟩)
    | isTrue h, _ => isFalse fun e => (List.nodup_cons.1 e).1 h
    | _, isFalse h => isFalse fun e => h (List.nodup_cons.1 e).2
theorem dup_of {l : List ByteArray} {k : Nat} (hk : k < l.length) (h : l[k] ∈ l.drop (k + 1)) : ¬ l.Nodup := fun hn => by
  have e : l = l.take k ++ (l[k] :: l.drop (k + 1)) := by simp
  rw [e, List.nodup_append] at hn
  exact (List.nodup_cons.1 hn.2.1).1 h
theorem dup_of' {l : List ByteArray} {k : Nat} (hk : k < l.length) (h : l[k] ∈ l.take k) : ¬ l.Nodup := fun hn => by
  have e : l = l.take k ++ (l[k] :: l.drop (k + 1)) := by simp
  rw [e, List.nodup_append] at hn
  exact hn.2.2 _ h _ List.mem_cons_self rfl
theorem nodup_take_succ {l : List ByteArray} {k : Nat} (hk : k < l.length) (h : (l.take k).Nodup) (c : l[k] ∉ l.take k) : (l.take (k + 1)).Nodup := by
  rw [List.take_succ_eq_append_getElem hk, List.nodup_append]
  refine ⟨h, by simp, fun a ha b hb e => ?_⟩
  simp only [List.mem_cons, List.not_mem_nil, or_false] at hb
  subst e; subst hb
  exact c ha
theorem nodup_of_drops : ∀ {l : List ByteArray}, (∀ (k : Nat) (hk : k < l.length), l[k] ∉ l.drop (k + 1)) → l.Nodup
  | [], _ => List.nodup_nil
  | x :: l, h => List.nodup_cons.2 ⟨h 0 (by simp), nodup_of_drops fun k hk => h (k + 1) (by simpa using hk)⟩
def F238 (a0 : Value) (w : World) (R : Value → World → Prop) : Prop :=
 RD Tryz.prog (Builtin.len_ #[22] 3 [a0].toArray) w fun x6 =>
 LOOPI [7] [(Value.int .i64 0)] w fun u2 w next2 =>
 RD Tryz.prog (bin .lss 3 (.tmp 0) (.tmp 0) (u2 7) x6) w fun x8 =>
 BR x8
 (RD Tryz.prog (Instr.indexAt 22 a0 (u2 7)) w fun x10 =>
 RD Tryz.prog (Instr.loadAt 9 x10) w fun x11 =>
 RD Tryz.prog (bin .add 3 (.tmp 0) (.const undef) (u2 7) (Value.int .i64 1)) w fun x14 =>
 RD Tryz.prog (Instr.sliceAt 22 a0 (some x14) none none) w fun x15 =>
 CALL Tryz.prog 226 [x15, x11] w fun x17 w =>
 BR x17
 (R (Value.bool true) w)
 (RD Tryz.prog (bin .add 3 (.tmp 0) (.const undef) (u2 7) (Value.int .i64 1)) w fun x18 =>
 next2 [x18] w))
 (R (Value.bool false) w)
def cfg238 : Cfg := { ext := extL, joins := [], loops := [(2, 524188, [7])], draws := [], pars := [] }
theorem F238_eq (a0 : Value) (w : World) (R : Value → World → Prop) : vcF Tryz.prog cfg238 Tryz.f238 [a0] w R = F238 a0 w R := by kernel_rfl
theorem F238_call {a0 : Value} {w : World} {R : Value → World → Prop} (h : F238 a0 w R) : CALL Tryz.prog 238 [a0] w R :=
  call_of (g := cfg238) ent mixed Tryz.func238 (Nat.le_of_ble_eq_true (by kernel_rfl)) (by kernel_rfl) (F238_eq a0 w R ▸ h)
theorem hasTwice_ok {w : World} {v0 : Value} {W0 : World} {l : (List ByteArray)}  (h0 : Is W0 v0 l) (e0 : Ext W0 w)  :
    CALL Tryz.prog 238 [v0] w fun r w' => Ext w w' ∧ (r = .bool (decide (¬ l.Nodup))) := by
  refine F238_call ?_
  unfold F238
  have hln6 := is_len h0
  refine rd_len u22 h0 ?_
  refine loopC (l.length) (fun k us w' => us = [.int .i64 (k : Int)] ∧ Ext w w' ∧ (∀ (j : Nat) (hj : j < l.length), j < k → l[j] ∉ l.drop (j + 1))) (0) (by omega) ⟨by simp, Ext.refl w, fun j hj h => by omega⟩ ?_
  rintro k m2 uu2 w1_ hk2 ⟨hu, hx1_, hinv⟩
  simp only [List.map_cons, List.map_nil, List.cons.injEq, and_true] at hu
  try rw [hu]
  try clear hu
  have hln := is_len h0
  refine rd_lss ?_
  refine br (fun c1 => ?_) (fun c1 => ?_)
  · refine rd_indexN u22 ty9 h0 (by omega) fun b10 o10 h10 => ?_
    refine rd_loadS ty9 h10 (e0.trans hx1_) fun hS11 => ?_
    refine rd_inc (by omega) ?_
    refine rd_slice_from u22 ty9 h0 (by omega) (by omega) fun v15 h15 => ?_
    refine (containsStr_ok h15 (e0.trans hx1_)).mono ?_
    rintro _ w2_ ⟨hx2_, rfl⟩
    refine br (fun c2 => ?_) (fun c2 => ?_)
    · refine ⟨(hx1_.trans hx2_), ?_⟩
      simp [dup_of (by omega) c2]
    · refine rd_inc (by omega) ?_
      refine ⟨m2 - 1, by omega, k + 1, by omega, by simp, (hx1_.trans hx2_), ?_⟩
      intro j hj hjk
      by_cases h : j = k
      · subst h; exact c2
      · exact hinv j hj (by omega)
  · refine ⟨hx1_, ?_⟩
    simp [nodup_of_drops fun j hj => hinv j hj (by omega)]
def F203 (a0 : Value) (w : World) (R : Value → World → Prop) : Prop :=
 LOOPI [3] [(Value.int .i64 0)] w fun u2 w next2 =>
 RD Tryz.prog (Builtin.len_ #[22] 3 [a0].toArray) w fun x6 =>
 RD Tryz.prog (bin .lss 3 (.tmp 0) (.tmp 0) (u2 3) x6) w fun x7 =>
 BR x7
 ((fun w => RD Tryz.prog (Instr.sliceAt 22 a0 none (some (u2 3)) none) w fun x12 =>
 RD Tryz.prog (Instr.indexAt 22 a0 (u2 3)) w fun x15 =>
 RD Tryz.prog (Instr.loadAt 9 x15) w fun x16 =>
 CALL Tryz.prog 219 [x12, x16] w fun x17 w =>
 BR x17
 (R (Value.bool true) w)
 (RD Tryz.prog (bin .add 3 (.tmp 0) (.const undef) (u2 3) (Value.int .i64 1)) w fun x9 =>
 next2 [x9] w)) (World.drew1 w))
 (R (Value.bool false) w)
def cfg203 : Cfg := { ext := extL, joins := [], loops := [(2, 262140, [3])], draws := [(4, [0, 1, 2, 3, 4, 5, 6, 7], 0)], pars := [] }
theorem F203_eq (a0 : Value) (w : World) (R : Value → World → Prop) : vcF Tryz.prog cfg203 Tryz.f203 [a0] w R = F203 a0 w R := by kernel_rfl
theorem F203_call {a0 : Value} {w : World} {R : Value → World → Prop} (h : F203 a0 w R) : CALL Tryz.prog 203 [a0] w R :=
  call_of (g := cfg203) ent mixed Tryz.func203 (Nat.le_of_ble_eq_true (by kernel_rfl)) (by kernel_rfl) (F203_eq a0 w R ▸ h)
theorem l07Twice_ok {w : World} {v0 : Value} {W0 : World} {l : (List ByteArray)}  (h0 : Is W0 v0 l) (e0 : Ext W0 w)  :
    CALL Tryz.prog 203 [v0] w fun r w' => Ext w w' ∧ (r = .bool (decide (¬ l.Nodup))) := by
  refine F203_call ?_
  unfold F203
  refine loopC (l.length) (fun k us w' => us = [.int .i64 (k : Int)] ∧ Ext w w' ∧ ((l.take k).Nodup)) (0) (by omega) ⟨by simp, Ext.refl w, by simp⟩ ?_
  rintro k m2 uu2 w1_ hk2 ⟨hu, hx1_, hinv⟩
  simp only [List.map_cons, List.map_nil, List.cons.injEq, and_true] at hu
  try rw [hu]
  try clear hu
  have hln := is_len h0
  have hln6 := is_len h0
  refine rd_len u22 h0 ?_
  refine rd_lss ?_
  refine br (fun c1 => ?_) (fun c1 => ?_)
  · have hx2_ := ext_drew w1_
    refine rd_slice_to u22 ty9 h0 (by omega) (by omega) fun v12 h12 => ?_
    refine rd_indexN u22 ty9 h0 (by omega) fun b15 o15 h15 => ?_
    refine rd_loadS ty9 h15 (e0.trans (hx1_.trans hx2_)) fun hS16 => ?_
    refine (l04Has_ok h12 (e0.trans (hx1_.trans hx2_))).mono ?_
    rintro _ w3_ ⟨hx3_, rfl⟩
    refine br (fun c2 => ?_) (fun c2 => ?_)
    · refine ⟨(hx1_.trans (hx2_.trans hx3_)), ?_⟩
      simp [dup_of' (by omega) c2]
    · refine rd_inc (by omega) ?_
      refine ⟨m2 - 1, by omega, k + 1, by omega, by simp, (hx1_.trans (hx2_.trans hx3_)), ?_⟩
      exact nodup_take_succ (by omega) hinv c2
  · refine ⟨hx1_, ?_⟩
    rw [List.take_of_length_le (by omega)] at hinv
    simp [hinv]
end Go.Proofs.YtjgfldfbljmhhaaGreat
namespace Go.Proofs.YtjgfldfbljmhhaaGreat
open Go Go.Sh Go.Proofs
set_option linter.unusedVariables false
def F303 (a0 a1 : Value) (w : World) (R : Value → World → Prop) : Prop :=
 CALL Tryz.prog 226 [a0, a1] w fun x7 w =>
 BR x7
 (R a0 w)
 (OP Tryz.prog (Instr.buildSlice 22 1 #[(0, a1)]) w fun x11 w =>
 OP Tryz.prog (Builtin.append_ #[22, 22] 22 [a0, x11].toArray) w fun x12 w =>
 R x12 w)
def cfg303 : Cfg := { ext := extL, joins := [], loops := [], draws := [], pars := [] }
theorem F303_eq (a0 a1 : Value) (w : World) (R : Value → World → Prop) : vcF Tryz.prog cfg303 Tryz.f303 [a0, a1] w R = F303 a0 a1 w R := by kernel_rfl
theorem F303_call {a0 a1 : Value} {w : World} {R : Value → World → Prop} (h : F303 a0 a1 w R) : CALL Tryz.prog 303 [a0, a1] w R :=
  call_of (g := cfg303) ent mixed Tryz.func303 (Nat.le_of_ble_eq_true (by kernel_rfl)) (by kernel_rfl) (F303_eq a0 a1 w R ▸ h)
def F275 (a0 a1 : Value) (w : World) (R : Value → World → Prop) : Prop :=
 OP Tryz.prog (Instr.box 134 a1) w fun x3 w =>
 RD Tryz.prog (Instr.fieldAt 134 x3 0) w fun x7 =>
 RD Tryz.prog (Instr.loadAt 3 x7) w fun x8 =>
 RD Tryz.prog (bin .eql 3 (.tmp 0) (.const undef) x8 (Value.int .i64 2)) w fun x9 =>
 BR x9
 (RD Tryz.prog (Instr.fieldAt 134 x3 2) w fun x11 =>
 RD Tryz.prog (Instr.loadAt 9 x11) w fun x12 =>
 CALL Tryz.prog 303 [a0, x12] w fun x13 w =>
 R x13 w)
 (RD Tryz.prog (Instr.fieldAt 134 x3 3) w fun x14 =>
 RD Tryz.prog (Instr.loadAt 132 x14) w fun x15 =>
 RD Tryz.prog (Builtin.len_ #[132] 3 [x15].toArray) w fun x16 =>
 LOOPI [0, 17] [a0, (Value.int .i64 0)] w fun u4 w next4 =>
 RD Tryz.prog (bin .lss 3 (.tmp 0) (.tmp 0) (u4 17) x16) w fun x18 =>
 BR x18
 (RD Tryz.prog (Instr.indexAt 132 x15 (u4 17)) w fun x19 =>
 RD Tryz.prog (Instr.loadAt 134 x19) w fun x20 =>
 OP Tryz.prog (Instr.alloc 134 true (.tuple #[])) w fun x6 w =>
 OPU Tryz.prog (Instr.storeAt 134 x6 x20) w fun w =>
 RD Tryz.prog (Instr.loadAt 134 x6) w fun x22 =>
 CALL Tryz.prog 275 [(u4 0), x22] w fun x23 w =>
 RD Tryz.prog (bin .add 3 (.tmp 0) (.const undef) (u4 17) (Value.int .i64 1)) w fun x24 =>
 next4 [x23, x24] w)
 (R (u4 0) w))
def cfg275 : Cfg := { ext := extL, joins := [], loops := [(4, 33423425, [0, 17])], draws := [], pars := [] }
theorem F275_eq (a0 a1 : Value) (w : World) (R : Value → World → Prop) : vcF Tryz.prog cfg275 Tryz.f275 [a0, a1] w R = F275 a0 a1 w R := by kernel_rfl
theorem F275_call {a0 a1 : Value} {w : World} {R : Value → World → Prop} (h : F275 a0 a1 w R) : CALL Tryz.prog 275 [a0, a1] w R :=
  call_of (g := cfg275) ent mixed Tryz.func275 (Nat.le_of_ble_eq_true (by kernel_rfl)) (by kernel_rfl) (F275_eq a0 a1 w R ▸ h)
def F247 (a0 a1 : Value) (w : World) (R : Value → World → Prop) : Prop :=
 OP Tryz.prog (Instr.box 134 a0) w fun x2 w =>
 RD Tryz.prog (Instr.fieldAt 134 x2 0) w fun x7 =>
 RD Tryz.prog (Instr.loadAt 3 x7) w fun x8 =>
 RD Tryz.prog (bin .eql 3 (.tmp 0) (.const undef) x8 (Value.int .i64 2)) w fun x9 =>
 BR x9
 (LOOPI [5] [(Value.int .i64 0)] w fun u3 w next3 =>
 RD Tryz.prog (Builtin.len_ #[22] 3 [a1].toArray) w fun x12 =>
 RD Tryz.prog (bin .lss 3 (.tmp 0) (.tmp 0) (u3 5) x12) w fun x13 =>
 BR x13
 ((fun w => RD Tryz.prog (Instr.indexAt 22 a1 (u3 5)) w fun x18 =>
 RD Tryz.prog (Instr.loadAt 9 x18) w fun x19 =>
 RD Tryz.prog (Instr.fieldAt 134 x2 2) w fun x20 =>
 RD Tryz.prog (Instr.loadAt 9 x20) w fun x21 =>
 RD Tryz.prog (bin .eql 9 (.tmp 0) (.tmp 0) x19 x21) w fun x22 =>
 BR x22
 (R a1 w)
 (RD Tryz.prog (bin .add 3 (.tmp 0) (.const undef) (u3 5) (Value.int .i64 1)) w fun x15 =>
 next3 [x15] w)) (World.drew1 w))
 (RD Tryz.prog (Instr.fieldAt 134 x2 2) w fun x25 =>
 RD Tryz.prog (Instr.loadAt 9 x25) w fun x26 =>
 OP Tryz.prog (Instr.buildSlice 22 1 #[(0, x26)]) w fun x27 w =>
 OP Tryz.prog (Builtin.append_ #[22, 22] 22 [a1, x27].toArray) w fun x28 w =>
 R x28 w))
 (LOOPI [1, 6] [a1, (Value.int .i64 0)] w fun u9 w next9 =>
 RD Tryz.prog (Instr.fieldAt 134 x2 3) w fun x30 =>
 RD Tryz.prog (Instr.loadAt 132 x30) w fun x31 =>
 RD Tryz.prog (Builtin.len_ #[132] 3 [x31].toArray) w fun x32 =>
 RD Tryz.prog (bin .lss 3 (.tmp 0) (.tmp 0) (u9 6) x32) w fun x33 =>
 BR x33
 (RD Tryz.prog (Instr.fieldAt 134 x2 3) w fun x36 =>
 RD Tryz.prog (Instr.loadAt 132 x36) w fun x37 =>
 RD Tryz.prog (Instr.indexAt 132 x37 (u9 6)) w fun x39 =>
 RD Tryz.prog (Instr.loadAt 134 x39) w fun x40 =>
 CALL Tryz.prog 247 [x40, (u9 1)] w fun x42 w =>
 RD Tryz.prog (bin .add 3 (.tmp 0) (.const undef) (u9 6) (Value.int .i64 1)) w fun x35 =>
 next9 [x42, x35] w)
 (R (u9 1) w))
def cfg247 : Cfg := { ext := extL, joins := [], loops := [(3, 16776240, [5]), (9, 8795556151362, [1, 6])], draws := [(5, [0, 1, 2, 3, 4, 5, 6], 0)], pars := [] }
theorem F247_eq (a0 a1 : Value) (w : World) (R : Value → World → Prop) : vcF Tryz.prog cfg247 Tryz.f247 [a0, a1] w R = F247 a0 a1 w R := by kernel_rfl
theorem F247_call {a0 a1 : Value} {w : World} {R : Value → World → Prop} (h : F247 a0 a1 w R) : CALL Tryz.prog 247 [a0, a1] w R :=
  call_of (g := cfg247) ent mixed Tryz.func247 (Nat.le_of_ble_eq_true (by kernel_rfl)) (by kernel_rfl) (F247_eq a0 a1 w R ▸ h)
def F225 (a0 : Value) (w : World) (R : Value → World → Prop) : Prop :=
 OP Tryz.prog (Instr.box 134 a0) w fun x1 w =>
 RD Tryz.prog (Instr.loadAt 134 x1) w fun x3 =>
 CALL Tryz.prog 240 [x3] w fun x4 w =>
 RD Tryz.prog (Op.unary .not x4) w fun x5 =>
 BR x5
 (R (Value.slice none 0 0) w)
 (RD Tryz.prog (Instr.loadAt 134 x1) w fun x6 =>
 CALL Tryz.prog 275 [(Value.slice none 0 0), x6] w fun x7 w =>
 R x7 w)
def cfg225 : Cfg := { ext := extL, joins := [], loops := [], draws := [], pars := [] }
theorem F225_eq (a0 : Value) (w : World) (R : Value → World → Prop) : vcF Tryz.prog cfg225 Tryz.f225 [a0] w R = F225 a0 w R := by kernel_rfl
theorem F225_call {a0 : Value} {w : World} {R : Value → World → Prop} (h : F225 a0 w R) : CALL Tryz.prog 225 [a0] w R :=
  call_of (g := cfg225) ent mixed Tryz.func225 (Nat.le_of_ble_eq_true (by kernel_rfl)) (by kernel_rfl) (F225_eq a0 w R ▸ h)
def F206 (a0 : Value) (w : World) (R : Value → World → Prop) : Prop :=
 OP Tryz.prog (Instr.box 134 a0) w fun x1 w =>
 RD Tryz.prog (Instr.loadAt 134 x1) w fun x3 =>
 CALL Tryz.prog 205 [x3] w fun x4 w =>
 RD Tryz.prog (Op.unary .not x4) w fun x5 =>
 BR x5
 (OP Tryz.prog (Instr.buildSlice 22 0 #[]) w fun x6 w =>
 R x6 w)
 (RD Tryz.prog (Instr.loadAt 134 x1) w fun x7 =>
 OP Tryz.prog (Instr.buildSlice 22 0 #[]) w fun x8 w =>
 CALL Tryz.prog 247 [x7, x8] w fun x9 w =>
 R x9 w)
def cfg206 : Cfg := { ext := extL, joins := [], loops := [], draws := [], pars := [] }
theorem F206_eq (a0 : Value) (w : World) (R : Value → World → Prop) : vcF Tryz.prog cfg206 Tryz.f206 [a0] w R = F206 a0 w R := by kernel_rfl
theorem F206_call {a0 : Value} {w : World} {R : Value → World → Prop} (h : F206 a0 w R) : CALL Tryz.prog 206 [a0] w R :=
  call_of (g := cfg206) ent mixed Tryz.func206 (Nat.le_of_ble_eq_true (by kernel_rfl)) (by kernel_rfl) (F206_eq a0 w R ▸ h)
set_option linter.unusedVariables false
set_option linter.unusedSimpArgs false
def add1 (l : List ByteArray) (s : ByteArray) : List ByteArray := if s ∈ l then l else l ++ [s]
theorem add1_len (l : List ByteArray) (s : ByteArray) : (add1 l s).length ≤ l.length + 1 := by unfold add1; split <;> simp
def readsT : Nat → DTerm → List ByteArray → List ByteArray
  | n, t, l => if t.kind = 2 then add1 l t.name else match n with | 0 => l | m + 1 => t.kids.foldl (fun l k => readsT m k l) l
theorem readsT_def (n : Nat) (t : DTerm) (l : List ByteArray) : readsT n t l = if t.kind = 2 then add1 l t.name else match n with | 0 => l | m + 1 => t.kids.foldl (fun l k => readsT m k l) l := readsT.eq_def n t l
theorem foldl_take {α β : Type} (f : β → α → β) (b : β) {l : List α} {k : Nat} (hk : k < l.length) : (l.take (k + 1)).foldl f b = f ((l.take k).foldl f b) l[k] := by
  rw [List.take_succ_eq_append_getElem hk, List.foldl_append]; rfl
theorem termOk_kids {n : Nat} {t : DTerm} (h : termOk n t = true) (h2 : ¬ t.kind = 2) : t.kids = [] ∨ ∃ m, n = m + 1 ∧ t.kids.length ≤ 2 ∧ ∀ k ∈ t.kids, termOk m k = true := by
  by_cases h1 : t.kind = 1
  · rw [termOk_1 h1] at h
    simp only [Bool.and_eq_true, decide_eq_true_eq] at h
    exact .inl (List.eq_nil_of_length_eq_zero (by omega))
  · rw [termOk_3 h1 h2] at h
    simp only [Bool.and_eq_true, decide_eq_true_eq] at h
    obtain ⟨⟨_, h3⟩, h4⟩ := h
    cases n with
    | zero => simp at h4
    | succ m =>
      refine .inr ⟨m, rfl, ?_, fun k hk => List.all_eq_true.1 h4 k hk⟩
      split at h3 <;> omega
theorem readsT_len : ∀ (n : Nat) (t : DTerm) (l : List ByteArray), termOk n t = true → (readsT n t l).length ≤ l.length + 2 ^ n
  | n, t, l, h => by
    rw [readsT_def]
    have hp : 1 ≤ 2 ^ n := Nat.one_le_two_pow
    split
    · have := add1_len l t.name; omega
    · rename_i h2
      rcases termOk_kids h h2 with hk | ⟨m, rfl, hk, hall⟩
      · cases n with
        | zero => simp
        | succ m => simp [hk]
      · show (t.kids.foldl (fun l k => readsT m k l) l).length ≤ _
        have key : ∀ (ks : List DTerm) (l : List ByteArray), (∀ k ∈ ks, termOk m k = true) → (ks.foldl (fun l k => readsT m k l) l).length ≤ l.length + ks.length * 2 ^ m := by
          intro ks
          induction ks with
          | nil => intro l _; simp
          | cons k ks ih =>
            intro l hks
            rw [List.foldl_cons, List.length_cons, Nat.add_mul, Nat.one_mul]
            have h1 := ih (readsT m k l) fun x hx => hks x (by simp [hx])
            have h2 := readsT_len m k l (hks k (by simp))
            omega
        have h1 := key t.kids l hall
        have h2 : t.kids.length * 2 ^ m ≤ 2 * 2 ^ m := Nat.mul_le_mul_right _ hk
        rw [Nat.pow_succ]; omega
theorem op_pushS {w : World} {v : Value} {l : List ByteArray} {F : List Nat} {s : ByteArray} {ty : TypeId} {K : Value → World → Prop} (hr : RowF F 9 w v l) (hn : F.Nodup) (hs : s.size ≤ maxLen) (hl : l.length ≤ 1000000)
    (k : ∀ v' w', Chg F w w' → (∃ F', RowF F' 9 w' v' (l ++ [s]) ∧ F'.Nodup ∧ ∀ b ∈ F', b ∈ F ∨ w.heap.size ≤ b) → K v' w') :
    OP Tryz.prog (Instr.buildSlice 22 1 #[(0, .string s)]) w fun x w1 => OP Tryz.prog (Builtin.append_ #[22, 22] ty [v, x].toArray) w1 K := by
  refine op_build1 (α := ByteArray) (x := s) (F := []) u22 ty9 z9 (by decide) ⟨⟨_, ⟨rfl, rfl, hs⟩, rfl⟩, List.nodup_nil, Wr.nil _⟩ fun w1 hx1 hm1 => ?_
  obtain ⟨a, cap, Fi, xs, he, h1, h2, hc, h4⟩ := is_list hm1.is
  have hFi := Cells.flat (xs := xs) hc
  subst hFi
  refine op_append (α := ByteArray) (m := [s]) u22 ty9 zc9 (hr.ext hx1) hn he hc (.inr ?_) (Wr.nil _) (by simpa using hn) (by simp only [List.length_cons, List.length_nil, maxLen_eq]; omega) (by simp only [List.length_cons, List.length_nil]; omega) fun v' w' F' hch hfull hr' hn' hs' => ?_
  · rcases h4 with h4 | ⟨b, o, ha, hra, _⟩
    · simp at h4
    · exact ⟨b, o, ha, hra⟩
  · have hown : ∀ c ∈ v.ownBlock.toList, c ∈ F := fun c hc => by
      obtain ⟨xs, Fi, _, _, rfl, _⟩ := hr
      simp only [List.mem_append]; exact .inl hc
    refine k v' w' ((Ext.chg F hx1).trans (hch.mono hown)) ⟨F', hr', hn', fun b hb => ?_⟩
    rcases hs' b hb with h | h | h
    · exact .inl h
    · simp at h
    · exact .inr (Nat.le_trans hx1.size h)
theorem addOnce_ok {w : World} {v : Value} {l : List ByteArray} {F : List Nat} {s : ByteArray} (hr : RowF F 9 w v l) (hn : F.Nodup) (hs : s.size ≤ maxLen) (hl : l.length ≤ 1000000) :
    CALL Tryz.prog 303 [v, .string s] w fun r w' => Chg F w w' ∧ ∃ F', RowF F' 9 w' r (add1 l s) ∧ F'.Nodup ∧ ∀ b ∈ F', b ∈ F ∨ w.heap.size ≤ b := by
  refine F303_call ?_
  unfold F303
  refine (containsStr_ok hr.own.is (Ext.refl w)).mono ?_
  rintro _ w1 ⟨hx1, rfl⟩
  refine br (fun c1 => ?_) (fun c1 => ?_)
  · exact ⟨Ext.chg F hx1, F, by unfold add1; rw [if_pos c1]; exact hr.ext hx1, hn, fun b hb => .inl hb⟩
  · refine op_pushS (hr.ext hx1) hn hs hl fun v' w' hc ⟨F', h1, h2, h3⟩ => ⟨(Ext.chg F hx1).trans hc, F', by unfold add1; rw [if_neg c1]; exact h1, h2, fun b hb => ?_⟩
    rcases h3 b hb with h | h
    · exact .inl h
    · exact .inr (Nat.le_trans hx1.size h)
def RdsPost (F : List Nat) (w : World) (l : List ByteArray) (r : Value) (w' : World) : Prop := Chg F w w' ∧ ∃ F', RowF F' 9 w' r l ∧ F'.Nodup ∧ ∀ b ∈ F', b ∈ F ∨ w.heap.size ≤ b
def RdsI (n : Nat) : Prop := ∀ {w W : World} {v u : Value} {t : DTerm} {l : List ByteArray} {F : List Nat}, Is W v t → Ext W w → RowF F 9 w u l → F.Nodup → (∀ b ∈ F, W.heap.size ≤ b) → termOk n t = true → l.length + 2 ^ n ≤ 1000 →
  CALL Tryz.prog 275 [u, v] w (RdsPost F w (readsT n t l))
def RdsS (n : Nat) : Prop := ∀ {w W : World} {v u : Value} {t : DTerm} {l : List ByteArray} {F : List Nat}, Is W v t → Ext W w → RowF F 9 w u l → F.Nodup → (∀ b ∈ F, W.heap.size ≤ b) → termOk n t = true → l.length + 2 ^ n ≤ 1000 →
  CALL Tryz.prog 247 [v, u] w (RdsPost F w (readsT n t l))
theorem readsT_2 {n : Nat} {t : DTerm} {l : List ByteArray} (h : t.kind = 2) : readsT n t l = add1 l t.name := by rw [readsT_def, if_pos h]
theorem readsT_kids {n : Nat} {t : DTerm} {l : List ByteArray} (h : termOk n t = true) (h2 : ¬ t.kind = 2) (hl : l.length + 2 ^ n ≤ 1000) :
    ∃ m, (t.kids = [] ∨ n = m + 1) ∧ readsT n t l = t.kids.foldl (fun l k => readsT m k l) l ∧ (∀ k ∈ t.kids, termOk m k = true) ∧ ∀ k, k < t.kids.length → ((t.kids.take k).foldl (fun l k => readsT m k l) l).length + 2 ^ m ≤ 1000 := by
  rcases termOk_kids h h2 with hk | ⟨m, rfl, hk, hall⟩
  · refine ⟨0, .inl hk, ?_, by simp [hk], by simp [hk]⟩
    rw [readsT_def, if_neg h2, hk]
    cases n <;> rfl
  · refine ⟨m, .inr rfl, by rw [readsT_def, if_neg h2], hall, fun k hkl => ?_⟩
    rw [Nat.pow_succ] at hl
    have key : ∀ (ks : List DTerm) (l : List ByteArray), (∀ k ∈ ks, termOk m k = true) → (ks.foldl (fun l k => readsT m k l) l).length ≤ l.length + ks.length * 2 ^ m := by
      intro ks
      induction ks with
      | nil => intro l _; simp
      | cons k ks ih =>
        intro l hks
        rw [List.foldl_cons, List.length_cons, Nat.add_mul, Nat.one_mul]
        have h1 := ih (readsT m k l) fun x hx => hks x (by simp [hx])
        have h2 := readsT_len m k l (hks k (by simp))
        omega
    have h1 := key (t.kids.take k) l fun x hx => hall x (List.mem_of_mem_take hx)
    have h3 : (t.kids.take k).length ≤ 1 := by simp; omega
    have h4 : (t.kids.take k).length * 2 ^ m ≤ 1 * 2 ^ m := Nat.mul_le_mul_right _ h3
    omega
theorem atB_kids {W w : World} {b o : Nat} {t : DTerm} (h : AtB W w b o t) : AtB W w b (o + 3) t.kids := by
  have h' : AtB W w b o t.tup := by obtain ⟨F, cs, hr, ha⟩ := h; exact ⟨F, cs, rep_tup.1 hr, ha⟩
  exact h'.snd.snd.snd
theorem addReads_step {n : Nat} (ih : ∀ m, m + 1 = n → RdsI m) : RdsI n := by
  intro w W v u t l F h e hr hn hF ht hl
  refine F275_call ?_
  unfold F275
  refine op_boxS ty134 rfl h e fun w1 hx1 hA hV => ?_
  refine rd_fld fd134_0 ?_
  refine rd_loadI ty3 (at_DTerm_0 hA) (Ext.refl w1) fun _ => ?_
  refine rd_eql ?_
  refine br (fun c1 => ?_) (fun c1 => ?_)
  · refine rd_fld fd134_2 ?_
    refine rd_loadS ty9 (at_DTerm_2 hA) (Ext.refl w1) fun hS => ?_
    have hp : 1 ≤ 2 ^ n := Nat.one_le_two_pow
    refine (addOnce_ok (hr.ext hx1) hn hS (by omega)).mono ?_
    rintro r w2 ⟨hc, F', h1, h2, h3⟩
    refine ⟨(Ext.chg F hx1).trans hc, F', by rw [readsT_2 c1]; exact h1, h2, fun b hb => ?_⟩
    rcases h3 b hb with h | h
    · exact .inl h
    · exact .inr (Nat.le_trans hx1.size h)
  · obtain ⟨m, hm, he, hks, hlen⟩ := readsT_kids ht c1 hl
    refine rd_fld fd134_3 ?_
    refine rd_loadAB ty132 (atB_kids (atB_box h hV rfl)) (e.trans hx1) (Ext.refl w1) fun v15 h15 => ?_
    refine rd_len u132 h15 ?_
    have hll := is_len h15
    refine loopC t.kids.length (fun k us w' => ∃ q, us = [q, .int .i64 (k : Int)] ∧ RdsPost F w ((t.kids.take k).foldl (fun l k => readsT m k l) l) q w') 0 (Nat.zero_le _) ⟨u, rfl, Ext.chg F hx1, F, by simpa using hr.ext hx1, hn, fun b hb => .inl hb⟩ ?_
    rintro k mm uu w2 hkm ⟨q, hu, hc2, F2, hr2, hn2, hs2⟩
    simp only [List.map_cons, List.map_nil, List.cons.injEq, and_true] at hu
    obtain ⟨hu0, hu1⟩ := hu
    try rw [hu0]
    try rw [hu1]
    have hF2 : ∀ b ∈ F2, W.heap.size ≤ b := fun b hb => by
      rcases hs2 b hb with h | h
      · exact hF b h
      · exact Nat.le_trans e.size h
    have hxW : Ext W w2 := e.chg_trans hc2 hF
    refine rd_lss ?_
    refine br (fun c2 => ?_) (fun c2 => ?_)
    · have hk : k < t.kids.length := by omega
      obtain ⟨m', rfl⟩ : ∃ m', n = m' + 1 := by
        rcases hm with h | h
        · rw [h] at hk; simp at hk
        · exact ⟨m, h⟩
      have hmm : m' = m := by
        rcases hm with h | h
        · rw [h] at hk; simp at hk
        · omega
      subst hmm
      refine rd_indexN u132 ty134 h15 hk fun b o hA2 => ?_
      refine rd_load ty134 hA2 hxW fun v20 h20 => ?_
      refine op_var zl134 rfl ty134 rfl h20 hxW fun w3 hx3 hA3 hV3 => ?_
      refine rd_var hV3 (Ext.refl w3) ?_
      refine (ih m' rfl h20 (hxW.trans hx3) (hr2.ext hx3) hn2 hF2 (hks _ (List.getElem_mem hk)) (hlen k hk)).mono ?_
      rintro r w4 ⟨hc4, F4, hr4, hn4, hs4⟩
      refine rd_inc (by omega) ?_
      refine ⟨mm - 1, by omega, k + 1, by omega, r, rfl, ?_⟩
      refine ⟨?_, F4, by rw [foldl_take _ _ hk]; exact hr4, hn4, fun b hb => ?_⟩
      · -- the blocks of F alone have turned
        refine ⟨hc4.os.trans (hx3.os.trans hc2.os), hc4.tape.trans (hx3.tape.trans hc2.tape), hc4.output.trans (hx3.output.trans hc2.output), Nat.le_trans hc2.size (Nat.le_trans hx3.size hc4.size), fun b hb hbF => ?_⟩
        have hb2 : b < w2.heap.size := Nat.lt_of_lt_of_le hb hc2.size
        have hbF2 : b ∉ F2 := fun hm => by
          rcases hs2 b hm with h | h
          · exact hbF h
          · omega
        rw [hc4.block b (Nat.lt_of_lt_of_le hb2 hx3.size) hbF2, hx3.heap hb2, hc2.block b hb hbF]
      · rcases hs4 b hb with h | h
        · exact hs2 b h
        · have := hx3.size; have := hc2.size; exact .inr (by omega)
    · rw [List.take_of_length_le (by omega), ← he] at hr2
      exact ⟨hc2, F2, hr2, hn2, hs2⟩
theorem addReads_ok : ∀ n, RdsI n
  | n => addReads_step fun m hm => addReads_ok m
termination_by n => n
decreasing_by omega
theorem l03Reads_step {n : Nat} (ih : ∀ m, m + 1 = n → RdsS m) : RdsS n := by
  intro w W v u t l F h e hr hn hF ht hl
  refine F247_call ?_
  unfold F247
  have hlen := is_len hr.own.is
  have hp : 1 ≤ 2 ^ n := Nat.one_le_two_pow
  refine op_boxS ty134 rfl h e fun w1 hx1 hA hV => ?_
  have hg1 : w.heap.size < w1.heap.size := hV.lt
  have hgF : w.heap.size ∉ F := fun hm => by have := hr.lt _ hm; omega
  refine rd_fld fd134_0 ?_
  refine rd_loadI ty3 (at_DTerm_0 hA) (Ext.refl w1) fun _ => ?_
  refine rd_eql ?_
  refine br (fun c1 => ?_) (fun c1 => ?_)
  · have hr1 := hr.ext hx1
    refine loopC l.length (fun k us w' => us = [.int .i64 (k : Int)] ∧ Ext w1 w' ∧ t.name ∉ l.take k) 0 (Nat.zero_le _) ⟨rfl, Ext.refl w1, by simp⟩ ?_
    rintro k mm uu w2 hkm ⟨hu, hx2, hinv⟩
    simp only [List.map_cons, List.map_nil, List.cons.injEq, and_true] at hu
    rw [hu]
    refine rd_len u22 hr1.own.is ?_
    refine rd_lss ?_
    refine br (fun c2 => ?_) (fun c2 => ?_)
    · have hk : k < l.length := by omega
      have hx3 := hx2.trans (ext_drew w2)
      refine rd_indexN u22 ty9 hr1.own.is hk fun b o hA2 => ?_
      refine rd_loadS ty9 hA2 hx3 fun _ => ?_
      refine rd_fld fd134_2 ?_
      refine rd_loadS ty9 (at_DTerm_2 hA) hx3 fun _ => ?_
      refine rd_eqlS ?_
      refine br (fun c3 => ?_) (fun c3 => ?_)
      · have hm : t.name ∈ l := c3 ▸ List.getElem_mem hk
        refine ⟨Ext.chg F (hx1.trans hx3), F, ?_, hn, fun b hb => .inl hb⟩
        rw [readsT_2 c1, add1, if_pos hm]
        exact hr1.ext hx3
      · refine rd_inc (by omega) ?_
        exact ⟨mm - 1, by omega, k + 1, by omega, rfl, hx3, mem_take_succS hk hinv c3⟩
    · rw [List.take_of_length_le (by omega)] at hinv
      have hx3 := hx2.trans (ext_drew w2)
      first
        | refine rd_fld fd134_2 ?_
        | skip
      refine rd_loadS ty9 (at_DTerm_2 hA) hx2 fun hS => ?_
      refine op_pushS (hr1.ext hx2) hn hS (by omega) fun v' w' hc ⟨F', h1, h2, h3⟩ => ?_
      refine ⟨(Ext.chg F (hx1.trans hx2)).trans hc, F', by rw [readsT_2 c1, add1, if_neg hinv]; exact h1, h2, fun b hb => ?_⟩
      rcases h3 b hb with h | h
      · exact .inl h
      · exact .inr (Nat.le_trans (hx1.trans hx2).size h)
  · obtain ⟨m, hm, he, hks, hlen⟩ := readsT_kids ht c1 hl
    refine loopC t.kids.length (fun k us w' => ∃ q, us = [q, .int .i64 (k : Int)] ∧ RdsPost F w1 ((t.kids.take k).foldl (fun l k => readsT m k l) l) q w') 0 (Nat.zero_le _) ⟨u, rfl, Chg.refl F w1, F, by simpa using hr.ext hx1, hn, fun b hb => .inl hb⟩ ?_
    rintro k mm uu w2 hkm ⟨q, hu, hc2, F2, hr2, hn2, hs2⟩
    simp only [List.map_cons, List.map_nil, List.cons.injEq, and_true] at hu
    obtain ⟨hu0, hu1⟩ := hu
    try rw [hu0]
    try rw [hu1]
    have hF2 : ∀ b ∈ F2, W.heap.size ≤ b := fun b hb => by
      rcases hs2 b hb with h | h
      · exact hF b h
      · have := e.size; have := hx1.size; omega
    have hxW : Ext W w2 := (e.trans hx1).chg_trans hc2 hF
    have hB2 : AtB W w2 w.heap.size 0 t := (atB_box h hV rfl).keep (hc2.block _ hg1 hgF)
    have hA2 := hB2.at hxW
    refine rd_fld fd134_3 ?_
    refine rd_load ty132 (at_DTerm_3 hA2) (Ext.refl w2) fun v31 h31 => ?_
    refine rd_len u132 h31 ?_
    have hll := is_len h31
    refine rd_lss ?_
    refine br (fun c2 => ?_) (fun c2 => ?_)
    · have hk : k < t.kids.length := by omega
      obtain ⟨m', rfl⟩ : ∃ m', n = m' + 1 := by
        rcases hm with h | h
        · rw [h] at hk; simp at hk
        · exact ⟨m, h⟩
      have hmm : m' = m := by
        rcases hm with h | h
        · rw [h] at hk; simp at hk
        · omega
      subst hmm
      refine rd_fld fd134_3 ?_
      refine rd_loadAB ty132 (atB_kids hB2) hxW (Ext.refl w2) fun v37 h37 => ?_
      refine rd_indexN u132 ty134 h37 hk fun b o hA3 => ?_
      refine rd_load ty134 hA3 hxW fun v40 h40 => ?_
      refine (ih m' rfl h40 hxW hr2 hn2 hF2 (hks _ (List.getElem_mem hk)) (hlen k hk)).mono ?_
      rintro r w4 ⟨hc4, F4, hr4, hn4, hs4⟩
      refine rd_inc (by omega) ?_
      refine ⟨mm - 1, by omega, k + 1, by omega, r, rfl, ?_⟩
      refine ⟨?_, F4, by rw [foldl_take _ _ hk]; exact hr4, hn4, fun b hb => ?_⟩
      · refine ⟨hc4.os.trans hc2.os, hc4.tape.trans hc2.tape, hc4.output.trans hc2.output, Nat.le_trans hc2.size hc4.size, fun b hb hbF => ?_⟩
        have hb2 : b < w2.heap.size := Nat.lt_of_lt_of_le hb hc2.size
        have hbF2 : b ∉ F2 := fun hm => by
          rcases hs2 b hm with h | h
          · exact hbF h
          · omega
        rw [hc4.block b hb2 hbF2, hc2.block b hb hbF]
      · rcases hs4 b hb with h | h
        · exact hs2 b h
        · have := hc2.size; exact .inr (by omega)
    · rw [List.take_of_length_le (by omega), ← he] at hr2
      refine ⟨(Ext.chg F hx1).trans hc2, F2, hr2, hn2, fun b hb => ?_⟩
      rcases hs2 b hb with h | h
      · exact .inl h
      · exact .inr (Nat.le_trans hx1.size h)
theorem l03Reads_ok : ∀ n, RdsS n
  | n => l03Reads_step fun m hm => l03Reads_ok m
termination_by n => n
decreasing_by omega
def readsOf (t : DTerm) : List ByteArray := if termOk 6 t = true then readsT 6 t [] else []
theorem rowF_nil {α : Type} [Rep α] (e : TypeId) (w : World) : RowF (α := α) [] e w (.slice none 0 0) [] := ⟨[], [], ⟨by simp, .inl ⟨rfl, rfl⟩⟩, ⟨rfl, rfl⟩, rfl, Wr.nil _⟩
theorem implReadsOf_ok {w W : World} {v : Value} {t : DTerm} (h : Is W v t) (e : Ext W w) : CALL Tryz.prog 225 [v] w fun r w' => Ext w w' ∧ Is w' r (readsOf t) := by
  refine F225_call ?_
  unfold F225
  refine op_boxS ty134 rfl h e fun w1 hx1 hA hV => ?_
  refine rd_var hV (Ext.refl w1) ?_
  refine (implTermOk_ok h (e.trans hx1)).mono ?_
  rintro _ w2 ⟨hx2, rfl⟩
  refine rd_not ?_
  refine br_b (fun c => ?_) (fun c => ?_)
  · refine ⟨hx1.trans hx2, ?_⟩
    unfold readsOf
    rw [if_neg (by simpa using c)]
    exact is_nil rfl
  · have c : termOk 6 t = true := by simpa using c
    refine rd_var hV hx2 ?_
    refine (addReads_ok 6 h ((e.trans hx1).trans hx2) (rowF_nil _ _) List.nodup_nil (by simp) c (by decide)).mono ?_
    rintro r w3 ⟨hc, F', hr, hn, hs⟩
    refine ⟨(hx1.trans hx2).trans (Chg.ext hc), ?_⟩
    unfold readsOf
    rw [if_pos c]
    exact hr.own.is
theorem specReadsOf_ok {w W : World} {v : Value} {t : DTerm} (h : Is W v t) (e : Ext W w) : CALL Tryz.prog 206 [v] w fun r w' => Ext w w' ∧ Is w' r (readsOf t) := by
  refine F206_call ?_
  unfold F206
  refine op_boxS ty134 rfl h e fun w1 hx1 hA hV => ?_
  refine rd_var hV (Ext.refl w1) ?_
  refine (specTermOk_ok h (e.trans hx1)).mono ?_
  rintro _ w2 ⟨hx2, rfl⟩
  refine rd_not ?_
  refine br_b (fun c => ?_) (fun c => ?_)
  · refine op_build0 (α := ByteArray) u22 ty9 fun a w3 hx3 hr3 => ?_
    refine ⟨(hx1.trans hx2).trans hx3, ?_⟩
    unfold readsOf
    rw [if_neg (by simpa using c)]
    exact hr3.is
  · have c : termOk 6 t = true := by simpa using c
    refine rd_var hV hx2 ?_
    refine op_build0 (α := ByteArray) u22 ty9 fun a w3 hx3 hr3 => ?_
    obtain ⟨F, hr, hn, hl⟩ := hr3
    have hx13 := (hx1.trans hx2)
    refine (l03Reads_ok 6 h ((e.trans hx13).trans hx3) hr hn (fun b hb => Nat.le_trans (e.trans hx13).size (hl b hb)) c (by decide)).mono ?_
    rintro r w4 ⟨hc, F', hr', hn', hs'⟩
    refine ⟨(hx13.trans hx3).chg_trans hc (fun b hb => Nat.le_trans hx13.size (hl b hb)), ?_⟩
    unfold readsOf
    rw [if_pos c]
    exact hr'.own.is
end Go.Proofs.YtjgfldfbljmhhaaGreat
namespace Go.Proofs.YtjgfldfbljmhhaaGreat
open Go Go.Sh Go.Proofs
set_option linter.unusedVariables false
def F61 (a0 : Value) (w : World) (R : Value → World → Prop) : Prop :=
 RD Tryz.prog (Builtin.len_ #[22] 3 [a0].toArray) w fun x6 =>
 OP Tryz.prog (Instr.makeSlice 22 x6 x6) w fun x7 w =>
 LOOPI [4] [(Value.int .i64 0)] w fun u3 w next3 =>
 RD Tryz.prog (Builtin.len_ #[22] 3 [a0].toArray) w fun x10 =>
 RD Tryz.prog (bin .lss 3 (.tmp 0) (.tmp 0) (u3 4) x10) w fun x11 =>
 BR x11
 (RD Tryz.prog (Instr.indexAt 22 a0 (u3 4)) w fun x18 =>
 RD Tryz.prog (Instr.loadAt 9 x18) w fun x19 =>
 RD Tryz.prog (Instr.indexAt 22 x7 (u3 4)) w fun x20 =>
 OPU Tryz.prog (Instr.storeAt 9 x20 x19) w fun w =>
 RD Tryz.prog (bin .add 3 (.tmp 0) (.const undef) (u3 4) (Value.int .i64 1)) w fun x13 =>
 next3 [x13] w)
 (R x7 w)
def cfg61 : Cfg := { ext := extL, joins := [], loops := [(3, 2096912, [4])], draws := [], pars := [] }
theorem F61_eq (a0 : Value) (w : World) (R : Value → World → Prop) : vcF Tryz.prog cfg61 Tryz.f61 [a0] w R = F61 a0 w R := by kernel_rfl
theorem F61_call {a0 : Value} {w : World} {R : Value → World → Prop} (h : F61 a0 w R) : CALL Tryz.prog 61 [a0] w R :=
  call_of (g := cfg61) ent mixed Tryz.func61 (Nat.le_of_ble_eq_true (by kernel_rfl)) (by kernel_rfl) (F61_eq a0 w R ▸ h)
def F236 (a0 : Value) (w : World) (R : Value → World → Prop) : Prop :=
 RD Tryz.prog (Builtin.len_ #[121] 3 [a0].toArray) w fun x6 =>
 OP Tryz.prog (Instr.makeSlice 132 x6 x6) w fun x7 w =>
 LOOPI [4] [(Value.int .i64 0)] w fun u3 w next3 =>
 RD Tryz.prog (Builtin.len_ #[121] 3 [a0].toArray) w fun x10 =>
 RD Tryz.prog (bin .lss 3 (.tmp 0) (.tmp 0) (u3 4) x10) w fun x11 =>
 BR x11
 (RD Tryz.prog (Instr.indexAt 121 a0 (u3 4)) w fun x18 =>
 RD Tryz.prog (Instr.loadAt 123 x18) w fun x19 =>
 CALL Tryz.prog 190 [x19] w fun x20 w =>
 RD Tryz.prog (Instr.indexAt 132 x7 (u3 4)) w fun x21 =>
 OPU Tryz.prog (Instr.storeAt 134 x21 x20) w fun w =>
 RD Tryz.prog (bin .add 3 (.tmp 0) (.const undef) (u3 4) (Value.int .i64 1)) w fun x13 =>
 next3 [x13] w)
 (R x7 w)
def cfg236 : Cfg := { ext := extL, joins := [], loops := [(3, 4194064, [4])], draws := [], pars := [] }
theorem F236_eq (a0 : Value) (w : World) (R : Value → World → Prop) : vcF Tryz.prog cfg236 Tryz.f236 [a0] w R = F236 a0 w R := by kernel_rfl
theorem F236_call {a0 : Value} {w : World} {R : Value → World → Prop} (h : F236 a0 w R) : CALL Tryz.prog 236 [a0] w R :=
  call_of (g := cfg236) ent mixed Tryz.func236 (Nat.le_of_ble_eq_true (by kernel_rfl)) (by kernel_rfl) (F236_eq a0 w R ▸ h)
def F62 (a0 : Value) (w : World) (R : Value → World → Prop) : Prop :=
 RD Tryz.prog (Builtin.len_ #[24] 3 [a0].toArray) w fun x6 =>
 OP Tryz.prog (Instr.makeSlice 33 x6 x6) w fun x7 w =>
 LOOPI [4] [(Value.int .i64 0)] w fun u3 w next3 =>
 RD Tryz.prog (Builtin.len_ #[24] 3 [a0].toArray) w fun x10 =>
 RD Tryz.prog (bin .lss 3 (.tmp 0) (.tmp 0) (u3 4) x10) w fun x11 =>
 BR x11
 (RD Tryz.prog (Instr.indexAt 24 a0 (u3 4)) w fun x18 =>
 RD Tryz.prog (Instr.loadAt 125 x18) w fun x19 =>
 CALL Tryz.prog 124 [x19] w fun x20 w =>
 RD Tryz.prog (Instr.indexAt 33 x7 (u3 4)) w fun x21 =>
 OPU Tryz.prog (Instr.storeAt 136 x21 x20) w fun w =>
 RD Tryz.prog (bin .add 3 (.tmp 0) (.const undef) (u3 4) (Value.int .i64 1)) w fun x13 =>
 next3 [x13] w)
 (R x7 w)
def cfg62 : Cfg := { ext := extL, joins := [], loops := [(3, 4194064, [4])], draws := [], pars := [] }
theorem F62_eq (a0 : Value) (w : World) (R : Value → World → Prop) : vcF Tryz.prog cfg62 Tryz.f62 [a0] w R = F62 a0 w R := by kernel_rfl
theorem F62_call {a0 : Value} {w : World} {R : Value → World → Prop} (h : F62 a0 w R) : CALL Tryz.prog 62 [a0] w R :=
  call_of (g := cfg62) ent mixed Tryz.func62 (Nat.le_of_ble_eq_true (by kernel_rfl)) (by kernel_rfl) (F62_eq a0 w R ▸ h)
set_option linter.unusedVariables false
def wStr (l : List ByteArray) : Nat := l.length + sm ByteArray.size l
mutual
def wT : DTerm → Nat
  | .mk _ _ s ks => s.size + wTs ks
def wTs : List DTerm → Nat
  | [] => 0
  | t :: r => 1 + wT t + wTs r
end
theorem wTs_eq (l : List DTerm) : wTs l = l.length + sm wT l := by
  induction l with
  | nil => simp [wTs, sm]
  | cons t l ih => rw [wTs, ih]; simp [sm]; omega
theorem wT_eq (t : DTerm) : wT t = t.name.size + wTs t.kids := by cases t; rw [wT]; rfl
def wIns (l : List DIns) : Nat := l.length + sm (fun i => wT i.term) l
def wCode (c : DCode) : Nat := wStr c.globals + wStr c.locks + wStr c.procs + c.entry.length + wIns c.ins
def F51 (a0 a1 : Value) (w : World) (R : Value → World → Prop) : Prop :=
 RD Tryz.prog (Builtin.len_ #[22] 3 [a0].toArray) w fun x8 =>
 RD Tryz.prog (bin .sub 3 (.tmp 0) (.tmp 0) a1 x8) w fun x9 =>
 RD Tryz.prog (bin .lss 3 (.tmp 0) (.const undef) x9 (Value.int .i64 0)) w fun x11 =>
 BR x11
 (R (Value.int .i64 (-1)) w)
 (LOOPI [1, 5] [x9, (Value.int .i64 0)] w fun u5 w next5 =>
 RD Tryz.prog (Builtin.len_ #[22] 3 [a0].toArray) w fun x14 =>
 RD Tryz.prog (bin .lss 3 (.tmp 0) (.tmp 0) (u5 5) x14) w fun x15 =>
 BR x15
 (RD Tryz.prog (Instr.indexAt 22 a0 (u5 5)) w fun x21 =>
 RD Tryz.prog (Instr.loadAt 9 x21) w fun x22 =>
 RD Tryz.prog (Builtin.len_ #[9] 3 [x22].toArray) w fun x23 =>
 RD Tryz.prog (bin .sub 3 (.tmp 0) (.tmp 0) (u5 1) x23) w fun x24 =>
 RD Tryz.prog (bin .lss 3 (.tmp 0) (.const undef) x24 (Value.int .i64 0)) w fun x26 =>
 BR x26
 (R (Value.int .i64 (-1)) w)
 (RD Tryz.prog (bin .add 3 (.tmp 0) (.const undef) (u5 5) (Value.int .i64 1)) w fun x17 =>
 next5 [x24, x17] w))
 (R (u5 1) w))
def cfg51 : Cfg := { ext := extL, joins := [], loops := [(5, 134213682, [1, 5])], draws := [], pars := [] }
theorem F51_eq (a0 a1 : Value) (w : World) (R : Value → World → Prop) : vcF Tryz.prog cfg51 Tryz.f51 [a0, a1] w R = F51 a0 a1 w R := by kernel_rfl
theorem F51_call {a0 a1 : Value} {w : World} {R : Value → World → Prop} (h : F51 a0 a1 w R) : CALL Tryz.prog 51 [a0, a1] w R :=
  call_of (g := cfg51) ent mixed Tryz.func51 (Nat.le_of_ble_eq_true (by kernel_rfl)) (by kernel_rfl) (F51_eq a0 a1 w R ▸ h)
theorem szStringS_ok {w : World} {v0 : Value} {W0 : World} {l : (List ByteArray)} {left : Int}  (h0 : Is W0 v0 l) (e0 : Ext W0 w) (hl0 : -1 ≤ left) (hl1 : left ≤ 1048576) :
    CALL Tryz.prog 51 [v0, .int .i64 left] w fun r w' => Ext w w' ∧ (∃ n : Int, r = .int .i64 n ∧ -1 ≤ n ∧ n ≤ left ∧ (0 ≤ n → n + wStr l ≤ left)) := by
  refine F51_call ?_
  unfold F51
  have hl := is_len h0
  have hln8 := is_len h0
  refine rd_len u22 h0 ?_
  refine rd_sub (by unfold I64; omega) ?_
  refine rd_lss ?_
  refine br (fun c1 => ?_) (fun c1 => ?_)
  · refine ⟨Ext.refl w, ?_⟩
    exact ⟨-1, rfl, by omega, by omega, by omega⟩
  · refine loopC (l.length) (fun k us w' => ∃ q : Int, us = [.int .i64 q, .int .i64 (k : Int)] ∧ Ext w w' ∧ (0 ≤ q ∧ q + l.length + sm ByteArray.size (l.take k) = left)) (0) (by omega) ⟨left - l.length, by simp, Ext.refl w, by omega, by simp [sm]⟩ ?_
    rintro k m5 uu5 w1_ hk5 ⟨q, hu, hx1_, hq0, hq1⟩
    simp only [List.map_cons, List.map_nil, List.cons.injEq, and_true] at hu
    obtain ⟨hu0, hu1⟩ := hu
    try rw [hu0]
    try rw [hu1]
    try clear hu0 hu1
    have hln14 := is_len h0
    refine rd_len u22 h0 ?_
    refine rd_lss ?_
    refine br (fun c2 => ?_) (fun c2 => ?_)
    · refine rd_indexN u22 ty9 h0 (by omega) fun b21 o21 h21 => ?_
      refine rd_loadS ty9 h21 (e0.trans hx1_) fun hS22 => ?_
      refine rd_lenS u9 ?_
      rw [maxLen_eq] at hS22
      refine rd_sub (by unfold I64; omega) ?_
      refine rd_lss ?_
      refine br (fun c3 => ?_) (fun c3 => ?_)
      · refine ⟨hx1_, ?_⟩
        exact ⟨-1, rfl, by omega, by omega, by omega⟩
      · refine rd_inc (by omega) ?_
        refine ⟨m5 - 1, by omega, k + 1, by omega, _, rfl, hx1_, ?_⟩
        refine ⟨by omega, ?_⟩
        rw [sm_take _ (by omega)]
        omega
    · refine ⟨hx1_, ?_⟩
      rw [List.take_of_length_le (by omega)] at hq1
      exact ⟨q, rfl, by omega, by omega, fun _ => by unfold wStr; omega⟩
def SzTerm (t : DTerm) : Prop := ∀ {w W : World} {v : Value} {left : Int}, Is W v t → Ext W w → -1 ≤ left → left ≤ 1048576 →
  CALL Tryz.prog 181 [v, .int .i64 left] w fun r w' => Ext w w' ∧ ∃ n : Int, r = .int .i64 n ∧ -1 ≤ n ∧ n ≤ left ∧ (0 ≤ n → n + wT t ≤ left)
def SzTermS (t : List DTerm) : Prop := ∀ {w W : World} {v : Value} {left : Int}, Is W v t → Ext W w → -1 ≤ left → left ≤ 1048576 →
  CALL Tryz.prog 233 [v, .int .i64 left] w fun r w' => Ext w w' ∧ ∃ n : Int, r = .int .i64 n ∧ -1 ≤ n ∧ n ≤ left ∧ (0 ≤ n → n + wTs t ≤ left)
def F233 (a0 a1 : Value) (w : World) (R : Value → World → Prop) : Prop :=
 RD Tryz.prog (Builtin.len_ #[121] 3 [a0].toArray) w fun x8 =>
 RD Tryz.prog (bin .sub 3 (.tmp 0) (.tmp 0) a1 x8) w fun x9 =>
 RD Tryz.prog (bin .lss 3 (.tmp 0) (.const undef) x9 (Value.int .i64 0)) w fun x11 =>
 BR x11
 (R (Value.int .i64 (-1)) w)
 (LOOPI [1, 5] [x9, (Value.int .i64 0)] w fun u5 w next5 =>
 RD Tryz.prog (Builtin.len_ #[121] 3 [a0].toArray) w fun x14 =>
 RD Tryz.prog (bin .lss 3 (.tmp 0) (.tmp 0) (u5 5) x14) w fun x15 =>
 BR x15
 (RD Tryz.prog (Instr.indexAt 121 a0 (u5 5)) w fun x20 =>
 RD Tryz.prog (Instr.loadAt 123 x20) w fun x21 =>
 CALL Tryz.prog 181 [x21, (u5 1)] w fun x23 w =>
 RD Tryz.prog (bin .lss 3 (.tmp 0) (.const undef) x23 (Value.int .i64 0)) w fun x25 =>
 BR x25
 (R (Value.int .i64 (-1)) w)
 (RD Tryz.prog (bin .add 3 (.tmp 0) (.const undef) (u5 5) (Value.int .i64 1)) w fun x17 =>
 next5 [x23, x17] w))
 (R (u5 1) w))
def cfg233 : Cfg := { ext := extL, joins := [], loops := [(5, 67104818, [1, 5])], draws := [], pars := [] }
theorem F233_eq (a0 a1 : Value) (w : World) (R : Value → World → Prop) : vcF Tryz.prog cfg233 Tryz.f233 [a0, a1] w R = F233 a0 a1 w R := by kernel_rfl
theorem F233_call {a0 a1 : Value} {w : World} {R : Value → World → Prop} (h : F233 a0 a1 w R) : CALL Tryz.prog 233 [a0, a1] w R :=
  call_of (g := cfg233) ent mixed Tryz.func233 (Nat.le_of_ble_eq_true (by kernel_rfl)) (by kernel_rfl) (F233_eq a0 a1 w R ▸ h)
theorem szTermS_step {w : World} {v0 : Value} {W0 : World} {l : (List DTerm)} {left : Int}  (h0 : Is W0 v0 l) (e0 : Ext W0 w) (ih : ∀ t ∈ l, SzTerm t) (hl0 : -1 ≤ left) (hl1 : left ≤ 1048576) :
    CALL Tryz.prog 233 [v0, .int .i64 left] w fun r w' => Ext w w' ∧ (∃ n : Int, r = .int .i64 n ∧ -1 ≤ n ∧ n ≤ left ∧ (0 ≤ n → n + wTs l ≤ left)) := by
  refine F233_call ?_
  unfold F233
  have hl := is_len h0
  have hln8 := is_len h0
  refine rd_len u121 h0 ?_
  refine rd_sub (by unfold I64; omega) ?_
  refine rd_lss ?_
  refine br (fun c1 => ?_) (fun c1 => ?_)
  · refine ⟨Ext.refl w, ?_⟩
    exact ⟨-1, rfl, by omega, by omega, by omega⟩
  · refine loopC (l.length) (fun k us w' => ∃ q : Int, us = [.int .i64 q, .int .i64 (k : Int)] ∧ Ext w w' ∧ (0 ≤ q ∧ q + l.length + sm wT (l.take k) ≤ left)) (0) (by omega) ⟨left - l.length, by simp, Ext.refl w, by omega, by simp [sm]⟩ ?_
    rintro k m5 uu5 w1_ hk5 ⟨q, hu, hx1_, hq0, hq1⟩
    simp only [List.map_cons, List.map_nil, List.cons.injEq, and_true] at hu
    obtain ⟨hu0, hu1⟩ := hu
    try rw [hu0]
    try rw [hu1]
    try clear hu0 hu1
    have hln14 := is_len h0
    refine rd_len u121 h0 ?_
    refine rd_lss ?_
    refine br (fun c2 => ?_) (fun c2 => ?_)
    · refine rd_indexN u121 ty123 h0 (by omega) fun b20 o20 h20 => ?_
      refine rd_load ty123 h20 (e0.trans hx1_) fun v21 h21 => ?_
      refine (ih _ (List.getElem_mem _) h21 (e0.trans hx1_) (by omega) (by omega)).mono ?_
      rintro _ w2_ ⟨hx2_, n23, rfl, hn23⟩
      refine rd_lss ?_
      refine br (fun c3 => ?_) (fun c3 => ?_)
      · refine ⟨(hx1_.trans hx2_), ?_⟩
        exact ⟨-1, rfl, by omega, by omega, by omega⟩
      · refine rd_inc (by omega) ?_
        refine ⟨m5 - 1, by omega, k + 1, by omega, _, rfl, (hx1_.trans hx2_), ?_⟩
        refine ⟨by omega, ?_⟩
        rw [sm_take _ (by omega)]
        have := hn23.2.2 (by omega)
        omega
    · refine ⟨hx1_, ?_⟩
      rw [List.take_of_length_le (by omega)] at hq1
      exact ⟨q, rfl, by omega, by omega, fun _ => by rw [wTs_eq]; omega⟩
def F181 (a0 a1 : Value) (w : World) (R : Value → World → Prop) : Prop :=
 OP Tryz.prog (Instr.box 123 a0) w fun x2 w =>
 RD Tryz.prog (Instr.fieldAt 123 x2 2) w fun x6 =>
 RD Tryz.prog (Instr.loadAt 9 x6) w fun x7 =>
 RD Tryz.prog (Builtin.len_ #[9] 3 [x7].toArray) w fun x8 =>
 RD Tryz.prog (bin .sub 3 (.tmp 0) (.tmp 0) a1 x8) w fun x9 =>
 RD Tryz.prog (bin .lss 3 (.tmp 0) (.const undef) x9 (Value.int .i64 0)) w fun x11 =>
 BR x11
 (R (Value.int .i64 (-1)) w)
 (RD Tryz.prog (Instr.fieldAt 123 x2 3) w fun x12 =>
 RD Tryz.prog (Instr.loadAt 121 x12) w fun x13 =>
 CALL Tryz.prog 233 [x13, x9] w fun x15 w =>
 RD Tryz.prog (bin .lss 3 (.tmp 0) (.const undef) x15 (Value.int .i64 0)) w fun x17 =>
 BR x17
 (R (Value.int .i64 (-1)) w)
 (R x15 w))
def cfg181 : Cfg := { ext := extL, joins := [], loops := [], draws := [], pars := [] }
theorem F181_eq (a0 a1 : Value) (w : World) (R : Value → World → Prop) : vcF Tryz.prog cfg181 Tryz.f181 [a0, a1] w R = F181 a0 a1 w R := by kernel_rfl
theorem F181_call {a0 a1 : Value} {w : World} {R : Value → World → Prop} (h : F181 a0 a1 w R) : CALL Tryz.prog 181 [a0, a1] w R :=
  call_of (g := cfg181) ent mixed Tryz.func181 (Nat.le_of_ble_eq_true (by kernel_rfl)) (by kernel_rfl) (F181_eq a0 a1 w R ▸ h)
theorem szTerm_step {w : World} {v0 : Value} {W0 : World} {t : DTerm} {left : Int}  (h0 : Is W0 v0 t) (e0 : Ext W0 w) (ih : SzTermS t.kids) (hl0 : -1 ≤ left) (hl1 : left ≤ 1048576) :
    CALL Tryz.prog 181 [v0, .int .i64 left] w fun r w' => Ext w w' ∧ (∃ n : Int, r = .int .i64 n ∧ -1 ≤ n ∧ n ≤ left ∧ (0 ≤ n → n + wT t ≤ left)) := by
  refine F181_call ?_
  unfold F181
  refine op_boxS ty123 rfl h0 e0 fun w1_ hx1_ hA2 hV2 => ?_
  refine rd_fld fd123_2 ?_
  refine rd_loadS ty9 (at_DTerm_2 hA2) (Ext.refl w1_) fun hS7 => ?_
  refine rd_lenS u9 ?_
  rw [maxLen_eq] at hS7
  refine rd_sub (by unfold I64; omega) ?_
  refine rd_lss ?_
  refine br (fun c1 => ?_) (fun c1 => ?_)
  · refine ⟨hx1_, ?_⟩
    exact ⟨-1, rfl, by omega, by omega, by omega⟩
  · refine rd_fld fd123_3 ?_
    refine rd_load ty121 (at_DTerm_3 hA2) (Ext.refl w1_) fun v13 h13 => ?_
    refine (ih h13 (Ext.refl w1_) (by omega) (by omega)).mono ?_
    rintro _ w2_ ⟨hx2_, n15, rfl, hn15⟩
    refine rd_lss ?_
    refine br (fun c2 => ?_) (fun c2 => ?_)
    · refine ⟨(hx1_.trans hx2_), ?_⟩
      exact ⟨-1, rfl, by omega, by omega, by omega⟩
    · refine ⟨(hx1_.trans hx2_), ?_⟩
      refine ⟨n15, rfl, by omega, by omega, fun h => ?_⟩
      have := hn15.2.2 (by omega)
      rw [wT_eq]; omega
theorem szTerm_ok (t : DTerm) : SzTerm t := DTerm.ind (fun t ih {w W v left} h e h0 h1 => szTerm_step h e (fun {w W v left} h e h0 h1 => szTermS_step h e ih h0 h1) h0 h1) t
def F110 (a0 a1 : Value) (w : World) (R : Value → World → Prop) : Prop :=
 OP Tryz.prog (Instr.box 125 a0) w fun x2 w =>
 RD Tryz.prog (Instr.fieldAt 125 x2 2) w fun x5 =>
 RD Tryz.prog (Instr.loadAt 123 x5) w fun x6 =>
 CALL Tryz.prog 181 [x6, a1] w fun x8 w =>
 RD Tryz.prog (bin .lss 3 (.tmp 0) (.const undef) x8 (Value.int .i64 0)) w fun x10 =>
 BR x10
 (R (Value.int .i64 (-1)) w)
 (R x8 w)
def cfg110 : Cfg := { ext := extL, joins := [], loops := [], draws := [], pars := [] }
theorem F110_eq (a0 a1 : Value) (w : World) (R : Value → World → Prop) : vcF Tryz.prog cfg110 Tryz.f110 [a0, a1] w R = F110 a0 a1 w R := by kernel_rfl
theorem F110_call {a0 a1 : Value} {w : World} {R : Value → World → Prop} (h : F110 a0 a1 w R) : CALL Tryz.prog 110 [a0, a1] w R :=
  call_of (g := cfg110) ent mixed Tryz.func110 (Nat.le_of_ble_eq_true (by kernel_rfl)) (by kernel_rfl) (F110_eq a0 a1 w R ▸ h)
theorem szIns_ok {w : World} {v0 : Value} {W0 : World} {i : DIns} {left : Int}  (h0 : Is W0 v0 i) (e0 : Ext W0 w) (hl0 : -1 ≤ left) (hl1 : left ≤ 1048576) :
    CALL Tryz.prog 110 [v0, .int .i64 left] w fun r w' => Ext w w' ∧ (∃ n : Int, r = .int .i64 n ∧ -1 ≤ n ∧ n ≤ left ∧ (0 ≤ n → n + wT i.term ≤ left)) := by
  refine F110_call ?_
  unfold F110
  refine op_boxS ty125 rfl h0 e0 fun w1_ hx1_ hA2 hV2 => ?_
  refine rd_fld fd125_2 ?_
  refine rd_load ty123 (at_DIns_2 hA2) (Ext.refl w1_) fun v6 h6 => ?_
  refine ((szTerm_ok _) h6 (Ext.refl w1_) (by omega) (by omega)).mono ?_
  rintro _ w2_ ⟨hx2_, n8, rfl, hn8⟩
  refine rd_lss ?_
  refine br (fun c1 => ?_) (fun c1 => ?_)
  · refine ⟨(hx1_.trans hx2_), ?_⟩
    exact ⟨-1, rfl, by omega, by omega, by omega⟩
  · refine ⟨(hx1_.trans hx2_), ?_⟩
    exact ⟨n8, rfl, by omega, by omega, hn8.2.2⟩
def F53 (a0 a1 : Value) (w : World) (R : Value → World → Prop) : Prop :=
 RD Tryz.prog (Builtin.len_ #[24] 3 [a0].toArray) w fun x8 =>
 RD Tryz.prog (bin .sub 3 (.tmp 0) (.tmp 0) a1 x8) w fun x9 =>
 RD Tryz.prog (bin .lss 3 (.tmp 0) (.const undef) x9 (Value.int .i64 0)) w fun x11 =>
 BR x11
 (R (Value.int .i64 (-1)) w)
 (LOOPI [1, 5] [x9, (Value.int .i64 0)] w fun u5 w next5 =>
 RD Tryz.prog (Builtin.len_ #[24] 3 [a0].toArray) w fun x14 =>
 RD Tryz.prog (bin .lss 3 (.tmp 0) (.tmp 0) (u5 5) x14) w fun x15 =>
 BR x15
 (RD Tryz.prog (Instr.indexAt 24 a0 (u5 5)) w fun x20 =>
 RD Tryz.prog (Instr.loadAt 125 x20) w fun x21 =>
 CALL Tryz.prog 110 [x21, (u5 1)] w fun x23 w =>
 RD Tryz.prog (bin .lss 3 (.tmp 0) (.const undef) x23 (Value.int .i64 0)) w fun x25 =>
 BR x25
 (R (Value.int .i64 (-1)) w)
 (RD Tryz.prog (bin .add 3 (.tmp 0) (.const undef) (u5 5) (Value.int .i64 1)) w fun x17 =>
 next5 [x23, x17] w))
 (R (u5 1) w))
def cfg53 : Cfg := { ext := extL, joins := [], loops := [(5, 67104818, [1, 5])], draws := [], pars := [] }
theorem F53_eq (a0 a1 : Value) (w : World) (R : Value → World → Prop) : vcF Tryz.prog cfg53 Tryz.f53 [a0, a1] w R = F53 a0 a1 w R := by kernel_rfl
theorem F53_call {a0 a1 : Value} {w : World} {R : Value → World → Prop} (h : F53 a0 a1 w R) : CALL Tryz.prog 53 [a0, a1] w R :=
  call_of (g := cfg53) ent mixed Tryz.func53 (Nat.le_of_ble_eq_true (by kernel_rfl)) (by kernel_rfl) (F53_eq a0 a1 w R ▸ h)
theorem szInsS_ok {w : World} {v0 : Value} {W0 : World} {l : (List DIns)} {left : Int}  (h0 : Is W0 v0 l) (e0 : Ext W0 w) (hl0 : -1 ≤ left) (hl1 : left ≤ 1048576) :
    CALL Tryz.prog 53 [v0, .int .i64 left] w fun r w' => Ext w w' ∧ (∃ n : Int, r = .int .i64 n ∧ -1 ≤ n ∧ n ≤ left ∧ (0 ≤ n → n + wIns l ≤ left)) := by
  refine F53_call ?_
  unfold F53
  have hl := is_len h0
  have hln8 := is_len h0
  refine rd_len u24 h0 ?_
  refine rd_sub (by unfold I64; omega) ?_
  refine rd_lss ?_
  refine br (fun c1 => ?_) (fun c1 => ?_)
  · refine ⟨Ext.refl w, ?_⟩
    exact ⟨-1, rfl, by omega, by omega, by omega⟩
  · refine loopC (l.length) (fun k us w' => ∃ q : Int, us = [.int .i64 q, .int .i64 (k : Int)] ∧ Ext w w' ∧ (0 ≤ q ∧ q + l.length + sm (fun i => wT i.term) (l.take k) ≤ left)) (0) (by omega) ⟨left - l.length, by simp, Ext.refl w, by omega, by simp [sm]⟩ ?_
    rintro k m5 uu5 w1_ hk5 ⟨q, hu, hx1_, hq0, hq1⟩
    simp only [List.map_cons, List.map_nil, List.cons.injEq, and_true] at hu
    obtain ⟨hu0, hu1⟩ := hu
    try rw [hu0]
    try rw [hu1]
    try clear hu0 hu1
    have hln14 := is_len h0
    refine rd_len u24 h0 ?_
    refine rd_lss ?_
    refine br (fun c2 => ?_) (fun c2 => ?_)
    · refine rd_indexN u24 ty125 h0 (by omega) fun b20 o20 h20 => ?_
      refine rd_load ty125 h20 (e0.trans hx1_) fun v21 h21 => ?_
      refine (szIns_ok h21 (e0.trans hx1_) (by omega) (by omega)).mono ?_
      rintro _ w2_ ⟨hx2_, n23, rfl, hn23⟩
      refine rd_lss ?_
      refine br (fun c3 => ?_) (fun c3 => ?_)
      · refine ⟨(hx1_.trans hx2_), ?_⟩
        exact ⟨-1, rfl, by omega, by omega, by omega⟩
      · refine rd_inc (by omega) ?_
        refine ⟨m5 - 1, by omega, k + 1, by omega, _, rfl, (hx1_.trans hx2_), ?_⟩
        refine ⟨by omega, ?_⟩
        rw [sm_take _ (by omega)]
        have := hn23.2.2 (by omega)
        omega
    · refine ⟨hx1_, ?_⟩
      rw [List.take_of_length_le (by omega)] at hq1
      exact ⟨q, rfl, by omega, by omega, fun _ => by unfold wIns; omega⟩
def F12 (a0 a1 : Value) (w : World) (R : Value → World → Prop) : Prop :=
 OP Tryz.prog (Instr.box 26 a0) w fun x2 w =>
 RD Tryz.prog (Instr.fieldAt 26 x2 0) w fun x5 =>
 RD Tryz.prog (Instr.loadAt 22 x5) w fun x6 =>
 CALL Tryz.prog 51 [x6, a1] w fun x8 w =>
 RD Tryz.prog (bin .lss 3 (.tmp 0) (.const undef) x8 (Value.int .i64 0)) w fun x10 =>
 BR x10
 (R (Value.int .i64 (-1)) w)
 (RD Tryz.prog (Instr.fieldAt 26 x2 1) w fun x11 =>
 RD Tryz.prog (Instr.loadAt 22 x11) w fun x12 =>
 CALL Tryz.prog 51 [x12, x8] w fun x14 w =>
 RD Tryz.prog (bin .lss 3 (.tmp 0) (.const undef) x14 (Value.int .i64 0)) w fun x16 =>
 BR x16
 (R (Value.int .i64 (-1)) w)
 (RD Tryz.prog (Instr.fieldAt 26 x2 2) w fun x17 =>
 RD Tryz.prog (Instr.loadAt 22 x17) w fun x18 =>
 CALL Tryz.prog 51 [x18, x14] w fun x20 w =>
 RD Tryz.prog (bin .lss 3 (.tmp 0) (.const undef) x20 (Value.int .i64 0)) w fun x22 =>
 BR x22
 (R (Value.int .i64 (-1)) w)
 (RD Tryz.prog (Instr.fieldAt 26 x2 3) w fun x23 =>
 RD Tryz.prog (Instr.loadAt 23 x23) w fun x24 =>
 CALL Tryz.prog 52 [x24, x20] w fun x26 w =>
 RD Tryz.prog (bin .lss 3 (.tmp 0) (.const undef) x26 (Value.int .i64 0)) w fun x28 =>
 BR x28
 (R (Value.int .i64 (-1)) w)
 (RD Tryz.prog (Instr.fieldAt 26 x2 4) w fun x29 =>
 RD Tryz.prog (Instr.loadAt 24 x29) w fun x30 =>
 CALL Tryz.prog 53 [x30, x26] w fun x32 w =>
 RD Tryz.prog (bin .lss 3 (.tmp 0) (.const undef) x32 (Value.int .i64 0)) w fun x34 =>
 BR x34
 (R (Value.int .i64 (-1)) w)
 (R x32 w)))))
def cfg12 : Cfg := { ext := extL, joins := [], loops := [], draws := [], pars := [] }
theorem F12_eq (a0 a1 : Value) (w : World) (R : Value → World → Prop) : vcF Tryz.prog cfg12 Tryz.f12 [a0, a1] w R = F12 a0 a1 w R := by kernel_rfl
theorem F12_call {a0 a1 : Value} {w : World} {R : Value → World → Prop} (h : F12 a0 a1 w R) : CALL Tryz.prog 12 [a0, a1] w R :=
  call_of (g := cfg12) ent mixed Tryz.func12 (Nat.le_of_ble_eq_true (by kernel_rfl)) (by kernel_rfl) (F12_eq a0 a1 w R ▸ h)
theorem szCode_ok {w : World} {v0 : Value} {W0 : World} {c : DCode} {left : Int}  (h0 : Is W0 v0 c) (e0 : Ext W0 w) (hl0 : -1 ≤ left) (hl1 : left ≤ 1048576) :
    CALL Tryz.prog 12 [v0, .int .i64 left] w fun r w' => Ext w w' ∧ (∃ n : Int, r = .int .i64 n ∧ -1 ≤ n ∧ n ≤ left ∧ (0 ≤ n → n + wCode c ≤ left)) := by
  refine F12_call ?_
  unfold F12
  refine op_boxS ty26 rfl h0 e0 fun w1_ hx1_ hA2 hV2 => ?_
  refine rd_fld fd26_0 ?_
  refine rd_load ty22 (at_DCode_0 hA2) (Ext.refl w1_) fun v6 h6 => ?_
  refine (szStringS_ok h6 (Ext.refl w1_) (by omega) (by omega)).mono ?_
  rintro _ w2_ ⟨hx2_, n8, rfl, hn8⟩
  refine rd_lss ?_
  refine br (fun c1 => ?_) (fun c1 => ?_)
  · refine ⟨(hx1_.trans hx2_), ?_⟩
    exact ⟨-1, rfl, by omega, by omega, by omega⟩
  · refine rd_fld fd26_1 ?_
    refine rd_load ty22 (at_DCode_1 hA2) hx2_ fun v12 h12 => ?_
    refine (szStringS_ok h12 hx2_ (by omega) (by omega)).mono ?_
    rintro _ w3_ ⟨hx3_, n14, rfl, hn14⟩
    refine rd_lss ?_
    refine br (fun c2 => ?_) (fun c2 => ?_)
    · refine ⟨(hx1_.trans (hx2_.trans hx3_)), ?_⟩
      exact ⟨-1, rfl, by omega, by omega, by omega⟩
    · refine rd_fld fd26_2 ?_
      refine rd_load ty22 (at_DCode_2 hA2) (hx2_.trans hx3_) fun v18 h18 => ?_
      refine (szStringS_ok h18 (hx2_.trans hx3_) (by omega) (by omega)).mono ?_
      rintro _ w4_ ⟨hx4_, n20, rfl, hn20⟩
      refine rd_lss ?_
      refine br (fun c3 => ?_) (fun c3 => ?_)
      · refine ⟨(hx1_.trans (hx2_.trans (hx3_.trans hx4_))), ?_⟩
        exact ⟨-1, rfl, by omega, by omega, by omega⟩
      · refine rd_fld fd26_3 ?_
        refine rd_load ty23 (at_DCode_3 hA2) (hx2_.trans (hx3_.trans hx4_)) fun v24 h24 => ?_
        refine (szIntS_ok h24 (hx2_.trans (hx3_.trans hx4_)) (by omega) (by omega)).mono ?_
        rintro _ w5_ ⟨hx5_, n26, rfl, hn26⟩
        refine rd_lss ?_
        refine br (fun c4 => ?_) (fun c4 => ?_)
        · refine ⟨(hx1_.trans (hx2_.trans (hx3_.trans (hx4_.trans hx5_)))), ?_⟩
          exact ⟨-1, rfl, by omega, by omega, by omega⟩
        · refine rd_fld fd26_4 ?_
          refine rd_load ty24 (at_DCode_4 hA2) (hx2_.trans (hx3_.trans (hx4_.trans hx5_))) fun v30 h30 => ?_
          refine (szInsS_ok h30 (hx2_.trans (hx3_.trans (hx4_.trans hx5_))) (by omega) (by omega)).mono ?_
          rintro _ w6_ ⟨hx6_, n32, rfl, hn32⟩
          refine rd_lss ?_
          refine br (fun c5 => ?_) (fun c5 => ?_)
          · refine ⟨(hx1_.trans (hx2_.trans (hx3_.trans (hx4_.trans (hx5_.trans hx6_))))), ?_⟩
            exact ⟨-1, rfl, by omega, by omega, by omega⟩
          · refine ⟨(hx1_.trans (hx2_.trans (hx3_.trans (hx4_.trans (hx5_.trans hx6_))))), ?_⟩
            refine ⟨n32, rfl, by omega, by omega, fun _ => ?_⟩
            have h1 := hn8.2.2 (by omega)
            have h2 := hn14.2.2 (by omega)
            have h3 := hn20.2.2 (by omega)
            have h4 := hn26.2.2 (by omega)
            have h5 := hn32.2.2 (by omega)
            unfold wCode
            omega
def F71 (a0 a1 : Value) (w : World) (R : Value → World → Prop) : Prop :=
 RD Tryz.prog (Builtin.len_ #[22] 3 [a0].toArray) w fun x7 =>
 RD Tryz.prog (Builtin.len_ #[22] 3 [a1].toArray) w fun x9 =>
 RD Tryz.prog (bin .neq 3 (.tmp 0) (.tmp 0) x7 x9) w fun x10 =>
 BR x10
 (R (Value.bool false) w)
 (LOOPI [5] [(Value.int .i64 0)] w fun u4 w next4 =>
 RD Tryz.prog (Builtin.len_ #[22] 3 [a0].toArray) w fun x13 =>
 RD Tryz.prog (bin .lss 3 (.tmp 0) (.tmp 0) (u4 5) x13) w fun x14 =>
 BR x14
 ((fun w => RD Tryz.prog (Instr.indexAt 22 a0 (u4 5)) w fun x19 =>
 RD Tryz.prog (Instr.loadAt 9 x19) w fun x20 =>
 RD Tryz.prog (Instr.indexAt 22 a1 (u4 5)) w fun x23 =>
 RD Tryz.prog (Instr.loadAt 9 x23) w fun x24 =>
 RD Tryz.prog (bin .neq 9 (.tmp 0) (.tmp 0) x20 x24) w fun x25 =>
 BR x25
 (R (Value.bool false) w)
 (RD Tryz.prog (bin .add 3 (.tmp 0) (.const undef) (u4 5) (Value.int .i64 1)) w fun x16 =>
 next4 [x16] w)) (World.drew1 w))
 (R (Value.bool true) w))
def cfg71 : Cfg := { ext := extL, joins := [], loops := [(4, 67106864, [5])], draws := [(6, [0, 1, 2, 3, 4, 5, 6, 7, 8], 0)], pars := [] }
theorem F71_eq (a0 a1 : Value) (w : World) (R : Value → World → Prop) : vcF Tryz.prog cfg71 Tryz.f71 [a0, a1] w R = F71 a0 a1 w R := by kernel_rfl
theorem F71_call {a0 a1 : Value} {w : World} {R : Value → World → Prop} (h : F71 a0 a1 w R) : CALL Tryz.prog 71 [a0, a1] w R :=
  call_of (g := cfg71) ent mixed Tryz.func71 (Nat.le_of_ble_eq_true (by kernel_rfl)) (by kernel_rfl) (F71_eq a0 a1 w R ▸ h)
theorem eqStringS_ok {w : World} {v0 : Value} {W0 : World} {l1 : (List ByteArray)} {v1 : Value} {W1 : World} {l2 : (List ByteArray)}  (h0 : Is W0 v0 l1) (e0 : Ext W0 w) (h1 : Is W1 v1 l2) (e1 : Ext W1 w)  :
    CALL Tryz.prog 71 [v0, v1] w fun r w' => Ext w w' ∧ (r = .bool (decide (l1 = l2))) := by
  refine F71_call ?_
  unfold F71
  have hl1 := is_len h0
  have hln7 := is_len h0
  refine rd_len u22 h0 ?_
  have hln9 := is_len h1
  refine rd_len u22 h1 ?_
  refine rd_neq ?_
  refine br (fun c1 => ?_) (fun c1 => ?_)
  · refine ⟨Ext.refl w, ?_⟩
    have : l1 ≠ l2 := fun e => c1 (by rw [e])
    simp [this]
  · refine loopC (l1.length) (fun k us w' => us = [.int .i64 (k : Int)] ∧ Ext w w' ∧ (l1.take k = l2.take k)) (0) (by omega) ⟨by simp, Ext.refl w, by simp⟩ ?_
    rintro k m4 uu4 w1_ hk4 ⟨hu, hx1_, hinv⟩
    simp only [List.map_cons, List.map_nil, List.cons.injEq, and_true] at hu
    try rw [hu]
    try clear hu
    have hln13 := is_len h0
    refine rd_len u22 h0 ?_
    refine rd_lss ?_
    refine br (fun c2 => ?_) (fun c2 => ?_)
    · have hx2_ := ext_drew w1_
      refine rd_indexN u22 ty9 h0 (by omega) fun b19 o19 h19 => ?_
      refine rd_loadS ty9 h19 (e0.trans (hx1_.trans hx2_)) fun hS20 => ?_
      refine rd_indexN u22 ty9 h1 (by omega) fun b23 o23 h23 => ?_
      refine rd_loadS ty9 h23 (e1.trans (hx1_.trans hx2_)) fun hS24 => ?_
      refine rd_neqS ?_
      refine br (fun c3 => ?_) (fun c3 => ?_)
      · refine ⟨(hx1_.trans hx2_), ?_⟩
        have : l1 ≠ l2 := fun e => c3 (by subst e; rfl)
        simp [this]
      · refine rd_inc (by omega) ?_
        refine ⟨m4 - 1, by omega, k + 1, by omega, by simp, (hx1_.trans hx2_), ?_⟩
        rw [List.take_succ_eq_append_getElem (by omega), List.take_succ_eq_append_getElem (by omega), hinv, Decidable.not_not.1 c3]
    · refine ⟨hx1_, ?_⟩
      rw [List.take_of_length_le (by omega), List.take_of_length_le (by omega)] at hinv
      simp [hinv]
def EqTerm (t : DTerm) : Prop := ∀ {w W W' : World} {v v' : Value} {t' : DTerm}, Is W v t → Ext W w → Is W' v' t' → Ext W' w →
  CALL Tryz.prog 201 [v, v'] w fun r w' => Ext w w' ∧ r = .bool (decide (t = t'))
def EqTermS (t : List DTerm) : Prop := ∀ {w W W' : World} {v v' : Value} {t' : List DTerm}, Is W v t → Ext W w → Is W' v' t' → Ext W' w →
  CALL Tryz.prog 244 [v, v'] w fun r w' => Ext w w' ∧ r = .bool (decide (t = t'))
def F244 (a0 a1 : Value) (w : World) (R : Value → World → Prop) : Prop :=
 RD Tryz.prog (Builtin.len_ #[132] 3 [a0].toArray) w fun x7 =>
 RD Tryz.prog (Builtin.len_ #[132] 3 [a1].toArray) w fun x9 =>
 RD Tryz.prog (bin .neq 3 (.tmp 0) (.tmp 0) x7 x9) w fun x10 =>
 BR x10
 (R (Value.bool false) w)
 (LOOPI [5] [(Value.int .i64 0)] w fun u4 w next4 =>
 RD Tryz.prog (Builtin.len_ #[132] 3 [a0].toArray) w fun x13 =>
 RD Tryz.prog (bin .lss 3 (.tmp 0) (.tmp 0) (u4 5) x13) w fun x14 =>
 BR x14
 ((fun w => RD Tryz.prog (Instr.indexAt 132 a0 (u4 5)) w fun x19 =>
 RD Tryz.prog (Instr.loadAt 134 x19) w fun x20 =>
 RD Tryz.prog (Instr.indexAt 132 a1 (u4 5)) w fun x23 =>
 RD Tryz.prog (Instr.loadAt 134 x23) w fun x24 =>
 CALL Tryz.prog 201 [x20, x24] w fun x25 w =>
 RD Tryz.prog (Op.unary .not x25) w fun x26 =>
 BR x26
 (R (Value.bool false) w)
 (RD Tryz.prog (bin .add 3 (.tmp 0) (.const undef) (u4 5) (Value.int .i64 1)) w fun x16 =>
 next4 [x16] w)) (World.drew1 w))
 (R (Value.bool true) w))
def cfg244 : Cfg := { ext := extL, joins := [], loops := [(4, 134215728, [5])], draws := [(6, [0, 1, 2, 3, 4, 5, 6, 7, 8, 9], 0)], pars := [] }
theorem F244_eq (a0 a1 : Value) (w : World) (R : Value → World → Prop) : vcF Tryz.prog cfg244 Tryz.f244 [a0, a1] w R = F244 a0 a1 w R := by kernel_rfl
theorem F244_call {a0 a1 : Value} {w : World} {R : Value → World → Prop} (h : F244 a0 a1 w R) : CALL Tryz.prog 244 [a0, a1] w R :=
  call_of (g := cfg244) ent mixed Tryz.func244 (Nat.le_of_ble_eq_true (by kernel_rfl)) (by kernel_rfl) (F244_eq a0 a1 w R ▸ h)
theorem eqTermS_step {w : World} {v0 : Value} {W0 : World} {l1 : (List DTerm)} {v1 : Value} {W1 : World} {l2 : (List DTerm)}  (h0 : Is W0 v0 l1) (e0 : Ext W0 w) (h1 : Is W1 v1 l2) (e1 : Ext W1 w) (ih : ∀ t ∈ l1, EqTerm t) :
    CALL Tryz.prog 244 [v0, v1] w fun r w' => Ext w w' ∧ (r = .bool (decide (l1 = l2))) := by
  refine F244_call ?_
  unfold F244
  have hl1 := is_len h0
  have hln7 := is_len h0
  refine rd_len u132 h0 ?_
  have hln9 := is_len h1
  refine rd_len u132 h1 ?_
  refine rd_neq ?_
  refine br (fun c1 => ?_) (fun c1 => ?_)
  · refine ⟨Ext.refl w, ?_⟩
    have : l1 ≠ l2 := fun e => c1 (by rw [e])
    simp [this]
  · refine loopC (l1.length) (fun k us w' => us = [.int .i64 (k : Int)] ∧ Ext w w' ∧ (l1.take k = l2.take k)) (0) (by omega) ⟨by simp, Ext.refl w, by simp⟩ ?_
    rintro k m4 uu4 w1_ hk4 ⟨hu, hx1_, hinv⟩
    simp only [List.map_cons, List.map_nil, List.cons.injEq, and_true] at hu
    try rw [hu]
    try clear hu
    have hln13 := is_len h0
    refine rd_len u132 h0 ?_
    refine rd_lss ?_
    refine br (fun c2 => ?_) (fun c2 => ?_)
    · have hx2_ := ext_drew w1_
      refine rd_indexN u132 ty134 h0 (by omega) fun b19 o19 h19 => ?_
      refine rd_load ty134 h19 (e0.trans (hx1_.trans hx2_)) fun v20 h20 => ?_
      refine rd_indexN u132 ty134 h1 (by omega) fun b23 o23 h23 => ?_
      refine rd_load ty134 h23 (e1.trans (hx1_.trans hx2_)) fun v24 h24 => ?_
      refine (ih _ (List.getElem_mem _) h20 (e0.trans (hx1_.trans hx2_)) h24 (e1.trans (hx1_.trans hx2_))).mono ?_
      rintro _ w3_ ⟨hx3_, rfl⟩
      refine rd_nodec ?_
      refine br (fun c3 => ?_) (fun c3 => ?_)
      · refine ⟨(hx1_.trans (hx2_.trans hx3_)), ?_⟩
        have : l1 ≠ l2 := fun e => c3 (by subst e; rfl)
        simp [this]
      · refine rd_inc (by omega) ?_
        refine ⟨m4 - 1, by omega, k + 1, by omega, by simp, (hx1_.trans (hx2_.trans hx3_)), ?_⟩
        rw [List.take_succ_eq_append_getElem (by omega), List.take_succ_eq_append_getElem (by omega), hinv, Decidable.not_not.1 c3]
    · refine ⟨hx1_, ?_⟩
      rw [List.take_of_length_le (by omega), List.take_of_length_le (by omega)] at hinv
      simp [hinv]
def F201 (a0 a1 : Value) (w : World) (R : Value → World → Prop) : Prop :=
 OP Tryz.prog (Instr.box 134 a0) w fun x2 w =>
 OP Tryz.prog (Instr.box 134 a1) w fun x3 w =>
 RD Tryz.prog (Instr.fieldAt 134 x2 0) w fun x5 =>
 RD Tryz.prog (Instr.loadAt 3 x5) w fun x6 =>
 RD Tryz.prog (Instr.fieldAt 134 x3 0) w fun x7 =>
 RD Tryz.prog (Instr.loadAt 3 x7) w fun x8 =>
 RD Tryz.prog (bin .neq 3 (.tmp 0) (.tmp 0) x6 x8) w fun x9 =>
 BR x9
 (R (Value.bool false) w)
 (RD Tryz.prog (Instr.fieldAt 134 x2 1) w fun x10 =>
 RD Tryz.prog (Instr.loadAt 3 x10) w fun x11 =>
 RD Tryz.prog (Instr.fieldAt 134 x3 1) w fun x12 =>
 RD Tryz.prog (Instr.loadAt 3 x12) w fun x13 =>
 RD Tryz.prog (bin .neq 3 (.tmp 0) (.tmp 0) x11 x13) w fun x14 =>
 BR x14
 (R (Value.bool false) w)
 (RD Tryz.prog (Instr.fieldAt 134 x2 2) w fun x15 =>
 RD Tryz.prog (Instr.loadAt 9 x15) w fun x16 =>
 RD Tryz.prog (Instr.fieldAt 134 x3 2) w fun x17 =>
 RD Tryz.prog (Instr.loadAt 9 x17) w fun x18 =>
 RD Tryz.prog (bin .neq 9 (.tmp 0) (.tmp 0) x16 x18) w fun x19 =>
 BR x19
 (R (Value.bool false) w)
 (RD Tryz.prog (Instr.fieldAt 134 x2 3) w fun x20 =>
 RD Tryz.prog (Instr.loadAt 132 x20) w fun x21 =>
 RD Tryz.prog (Instr.fieldAt 134 x3 3) w fun x22 =>
 RD Tryz.prog (Instr.loadAt 132 x22) w fun x23 =>
 CALL Tryz.prog 244 [x21, x23] w fun x24 w =>
 RD Tryz.prog (Op.unary .not x24) w fun x25 =>
 BR x25
 (R (Value.bool false) w)
 (R (Value.bool true) w))))
def cfg201 : Cfg := { ext := extL, joins := [], loops := [], draws := [], pars := [] }
theorem F201_eq (a0 a1 : Value) (w : World) (R : Value → World → Prop) : vcF Tryz.prog cfg201 Tryz.f201 [a0, a1] w R = F201 a0 a1 w R := by kernel_rfl
theorem F201_call {a0 a1 : Value} {w : World} {R : Value → World → Prop} (h : F201 a0 a1 w R) : CALL Tryz.prog 201 [a0, a1] w R :=
  call_of (g := cfg201) ent mixed Tryz.func201 (Nat.le_of_ble_eq_true (by kernel_rfl)) (by kernel_rfl) (F201_eq a0 a1 w R ▸ h)
theorem eqTerm_step {w : World} {v0 : Value} {W0 : World} {t1 : DTerm} {v1 : Value} {W1 : World} {t2 : DTerm}  (h0 : Is W0 v0 t1) (e0 : Ext W0 w) (h1 : Is W1 v1 t2) (e1 : Ext W1 w) (ih : EqTermS t1.kids) :
    CALL Tryz.prog 201 [v0, v1] w fun r w' => Ext w w' ∧ (r = .bool (decide (t1 = t2))) := by
  refine F201_call ?_
  unfold F201
  refine op_boxS ty134 rfl h0 e0 fun w1_ hx1_ hA2 hV2 => ?_
  refine op_boxS ty134 rfl h1 (e1.trans hx1_) fun w2_ hx2_ hA3 hV3 => ?_
  refine rd_fld fd134_0 ?_
  refine rd_loadI ty3 (at_DTerm_0 hA2) hx2_ fun hI6 => ?_
  refine rd_fld fd134_0 ?_
  refine rd_loadI ty3 (at_DTerm_0 hA3) (Ext.refl w2_) fun hI8 => ?_
  refine rd_neq ?_
  refine br (fun c1 => ?_) (fun c1 => ?_)
  · refine ⟨(hx1_.trans hx2_), ?_⟩
    have : t1 ≠ t2 := fun e => c1 (by rw [e])
    simp [this]
  · refine rd_fld fd134_1 ?_
    refine rd_loadI ty3 (at_DTerm_1 hA2) hx2_ fun hI11 => ?_
    refine rd_fld fd134_1 ?_
    refine rd_loadI ty3 (at_DTerm_1 hA3) (Ext.refl w2_) fun hI13 => ?_
    refine rd_neq ?_
    refine br (fun c2 => ?_) (fun c2 => ?_)
    · refine ⟨(hx1_.trans hx2_), ?_⟩
      have : t1 ≠ t2 := fun e => c2 (by rw [e])
      simp [this]
    · refine rd_fld fd134_2 ?_
      refine rd_loadS ty9 (at_DTerm_2 hA2) hx2_ fun hS16 => ?_
      refine rd_fld fd134_2 ?_
      refine rd_loadS ty9 (at_DTerm_2 hA3) (Ext.refl w2_) fun hS18 => ?_
      refine rd_neqS ?_
      refine br (fun c3 => ?_) (fun c3 => ?_)
      · refine ⟨(hx1_.trans hx2_), ?_⟩
        have : t1 ≠ t2 := fun e => c3 (by rw [e])
        simp [this]
      · refine rd_fld fd134_3 ?_
        refine rd_load ty132 (at_DTerm_3 hA2) hx2_ fun v21 h21 => ?_
        refine rd_fld fd134_3 ?_
        refine rd_load ty132 (at_DTerm_3 hA3) (Ext.refl w2_) fun v23 h23 => ?_
        refine (ih h21 hx2_ h23 (Ext.refl w2_)).mono ?_
        rintro _ w3_ ⟨hx3_, rfl⟩
        refine rd_nodec ?_
        refine br (fun c4 => ?_) (fun c4 => ?_)
        · refine ⟨(hx1_.trans (hx2_.trans hx3_)), ?_⟩
          have : t1 ≠ t2 := fun e => c4 (by rw [e])
          simp [this]
        · refine ⟨(hx1_.trans (hx2_.trans hx3_)), ?_⟩
          have : t1 = t2 := DTerm.ext_iff.2 ⟨Decidable.not_not.1 c1, Decidable.not_not.1 c2, Decidable.not_not.1 c3, Decidable.not_not.1 c4⟩
          simp [this]
theorem eqTerm_ok (t : DTerm) : EqTerm t := DTerm.ind (fun t ih {_ _ _ _ _ _} h e h' e' => eqTerm_step h e h' e' (fun {_ _ _ _ _ _} h e h' e' => eqTermS_step h e h' e' ih)) t
def F137 (a0 a1 : Value) (w : World) (R : Value → World → Prop) : Prop :=
 OP Tryz.prog (Instr.box 136 a0) w fun x2 w =>
 OP Tryz.prog (Instr.box 136 a1) w fun x3 w =>
 RD Tryz.prog (Instr.fieldAt 136 x2 0) w fun x5 =>
 RD Tryz.prog (Instr.loadAt 3 x5) w fun x6 =>
 RD Tryz.prog (Instr.fieldAt 136 x3 0) w fun x7 =>
 RD Tryz.prog (Instr.loadAt 3 x7) w fun x8 =>
 RD Tryz.prog (bin .neq 3 (.tmp 0) (.tmp 0) x6 x8) w fun x9 =>
 BR x9
 (R (Value.bool false) w)
 (RD Tryz.prog (Instr.fieldAt 136 x2 1) w fun x10 =>
 RD Tryz.prog (Instr.loadAt 3 x10) w fun x11 =>
 RD Tryz.prog (Instr.fieldAt 136 x3 1) w fun x12 =>
 RD Tryz.prog (Instr.loadAt 3 x12) w fun x13 =>
 RD Tryz.prog (bin .neq 3 (.tmp 0) (.tmp 0) x11 x13) w fun x14 =>
 BR x14
 (R (Value.bool false) w)
 (RD Tryz.prog (Instr.fieldAt 136 x2 2) w fun x15 =>
 RD Tryz.prog (Instr.loadAt 134 x15) w fun x16 =>
 RD Tryz.prog (Instr.fieldAt 136 x3 2) w fun x17 =>
 RD Tryz.prog (Instr.loadAt 134 x17) w fun x18 =>
 CALL Tryz.prog 201 [x16, x18] w fun x19 w =>
 RD Tryz.prog (Op.unary .not x19) w fun x20 =>
 BR x20
 (R (Value.bool false) w)
 (RD Tryz.prog (Instr.fieldAt 136 x2 3) w fun x21 =>
 RD Tryz.prog (Instr.loadAt 3 x21) w fun x22 =>
 RD Tryz.prog (Instr.fieldAt 136 x3 3) w fun x23 =>
 RD Tryz.prog (Instr.loadAt 3 x23) w fun x24 =>
 RD Tryz.prog (bin .neq 3 (.tmp 0) (.tmp 0) x22 x24) w fun x25 =>
 BR x25
 (R (Value.bool false) w)
 (R (Value.bool true) w))))
def cfg137 : Cfg := { ext := extL, joins := [], loops := [], draws := [], pars := [] }
theorem F137_eq (a0 a1 : Value) (w : World) (R : Value → World → Prop) : vcF Tryz.prog cfg137 Tryz.f137 [a0, a1] w R = F137 a0 a1 w R := by kernel_rfl
theorem F137_call {a0 a1 : Value} {w : World} {R : Value → World → Prop} (h : F137 a0 a1 w R) : CALL Tryz.prog 137 [a0, a1] w R :=
  call_of (g := cfg137) ent mixed Tryz.func137 (Nat.le_of_ble_eq_true (by kernel_rfl)) (by kernel_rfl) (F137_eq a0 a1 w R ▸ h)
theorem eqIns_ok {w : World} {v0 : Value} {W0 : World} {t1 : DIns} {v1 : Value} {W1 : World} {t2 : DIns}  (h0 : Is W0 v0 t1) (e0 : Ext W0 w) (h1 : Is W1 v1 t2) (e1 : Ext W1 w)  :
    CALL Tryz.prog 137 [v0, v1] w fun r w' => Ext w w' ∧ (r = .bool (decide (t1 = t2))) := by
  refine F137_call ?_
  unfold F137
  refine op_boxS ty136 rfl h0 e0 fun w1_ hx1_ hA2 hV2 => ?_
  refine op_boxS ty136 rfl h1 (e1.trans hx1_) fun w2_ hx2_ hA3 hV3 => ?_
  refine rd_fld fd136_0 ?_
  refine rd_loadI ty3 (at_DIns_0 hA2) hx2_ fun hI6 => ?_
  refine rd_fld fd136_0 ?_
  refine rd_loadI ty3 (at_DIns_0 hA3) (Ext.refl w2_) fun hI8 => ?_
  refine rd_neq ?_
  refine br (fun c1 => ?_) (fun c1 => ?_)
  · refine ⟨(hx1_.trans hx2_), ?_⟩
    have : t1 ≠ t2 := fun e => c1 (by rw [e])
    simp [this]
  · refine rd_fld fd136_1 ?_
    refine rd_loadI ty3 (at_DIns_1 hA2) hx2_ fun hI11 => ?_
    refine rd_fld fd136_1 ?_
    refine rd_loadI ty3 (at_DIns_1 hA3) (Ext.refl w2_) fun hI13 => ?_
    refine rd_neq ?_
    refine br (fun c2 => ?_) (fun c2 => ?_)
    · refine ⟨(hx1_.trans hx2_), ?_⟩
      have : t1 ≠ t2 := fun e => c2 (by rw [e])
      simp [this]
    · refine rd_fld fd136_2 ?_
      refine rd_load ty134 (at_DIns_2 hA2) hx2_ fun v16 h16 => ?_
      refine rd_fld fd136_2 ?_
      refine rd_load ty134 (at_DIns_2 hA3) (Ext.refl w2_) fun v18 h18 => ?_
      refine ((eqTerm_ok _) h16 hx2_ h18 (Ext.refl w2_)).mono ?_
      rintro _ w3_ ⟨hx3_, rfl⟩
      refine rd_nodec ?_
      refine br (fun c3 => ?_) (fun c3 => ?_)
      · refine ⟨(hx1_.trans (hx2_.trans hx3_)), ?_⟩
        have : t1 ≠ t2 := fun e => c3 (by rw [e])
        simp [this]
      · refine rd_fld fd136_3 ?_
        refine rd_loadI ty3 (at_DIns_3 hA2) (hx2_.trans hx3_) fun hI22 => ?_
        refine rd_fld fd136_3 ?_
        refine rd_loadI ty3 (at_DIns_3 hA3) hx3_ fun hI24 => ?_
        refine rd_neq ?_
        refine br (fun c4 => ?_) (fun c4 => ?_)
        · refine ⟨(hx1_.trans (hx2_.trans hx3_)), ?_⟩
          have : t1 ≠ t2 := fun e => c4 (by rw [e])
          simp [this]
        · refine ⟨(hx1_.trans (hx2_.trans hx3_)), ?_⟩
          have : t1 = t2 := DIns.ext_iff.2 ⟨Decidable.not_not.1 c1, Decidable.not_not.1 c2, Decidable.not_not.1 c3, Decidable.not_not.1 c4⟩
          simp [this]
def F72 (a0 a1 : Value) (w : World) (R : Value → World → Prop) : Prop :=
 RD Tryz.prog (Builtin.len_ #[33] 3 [a0].toArray) w fun x7 =>
 RD Tryz.prog (Builtin.len_ #[33] 3 [a1].toArray) w fun x9 =>
 RD Tryz.prog (bin .neq 3 (.tmp 0) (.tmp 0) x7 x9) w fun x10 =>
 BR x10
 (R (Value.bool false) w)
 (LOOPI [5] [(Value.int .i64 0)] w fun u4 w next4 =>
 RD Tryz.prog (Builtin.len_ #[33] 3 [a0].toArray) w fun x13 =>
 RD Tryz.prog (bin .lss 3 (.tmp 0) (.tmp 0) (u4 5) x13) w fun x14 =>
 BR x14
 ((fun w => RD Tryz.prog (Instr.indexAt 33 a0 (u4 5)) w fun x19 =>
 RD Tryz.prog (Instr.loadAt 136 x19) w fun x20 =>
 RD Tryz.prog (Instr.indexAt 33 a1 (u4 5)) w fun x23 =>
 RD Tryz.prog (Instr.loadAt 136 x23) w fun x24 =>
 CALL Tryz.prog 137 [x20, x24] w fun x25 w =>
 RD Tryz.prog (Op.unary .not x25) w fun x26 =>
 BR x26
 (R (Value.bool false) w)
 (RD Tryz.prog (bin .add 3 (.tmp 0) (.const undef) (u4 5) (Value.int .i64 1)) w fun x16 =>
 next4 [x16] w)) (World.drew1 w))
 (R (Value.bool true) w))
def cfg72 : Cfg := { ext := extL, joins := [], loops := [(4, 134215728, [5])], draws := [(6, [0, 1, 2, 3, 4, 5, 6, 7, 8, 9], 0)], pars := [] }
theorem F72_eq (a0 a1 : Value) (w : World) (R : Value → World → Prop) : vcF Tryz.prog cfg72 Tryz.f72 [a0, a1] w R = F72 a0 a1 w R := by kernel_rfl
theorem F72_call {a0 a1 : Value} {w : World} {R : Value → World → Prop} (h : F72 a0 a1 w R) : CALL Tryz.prog 72 [a0, a1] w R :=
  call_of (g := cfg72) ent mixed Tryz.func72 (Nat.le_of_ble_eq_true (by kernel_rfl)) (by kernel_rfl) (F72_eq a0 a1 w R ▸ h)
theorem eqInsS_ok {w : World} {v0 : Value} {W0 : World} {l1 : (List DIns)} {v1 : Value} {W1 : World} {l2 : (List DIns)}  (h0 : Is W0 v0 l1) (e0 : Ext W0 w) (h1 : Is W1 v1 l2) (e1 : Ext W1 w)  :
    CALL Tryz.prog 72 [v0, v1] w fun r w' => Ext w w' ∧ (r = .bool (decide (l1 = l2))) := by
  refine F72_call ?_
  unfold F72
  have hl1 := is_len h0
  have hln7 := is_len h0
  refine rd_len u33 h0 ?_
  have hln9 := is_len h1
  refine rd_len u33 h1 ?_
  refine rd_neq ?_
  refine br (fun c1 => ?_) (fun c1 => ?_)
  · refine ⟨Ext.refl w, ?_⟩
    have : l1 ≠ l2 := fun e => c1 (by rw [e])
    simp [this]
  · refine loopC (l1.length) (fun k us w' => us = [.int .i64 (k : Int)] ∧ Ext w w' ∧ (l1.take k = l2.take k)) (0) (by omega) ⟨by simp, Ext.refl w, by simp⟩ ?_
    rintro k m4 uu4 w1_ hk4 ⟨hu, hx1_, hinv⟩
    simp only [List.map_cons, List.map_nil, List.cons.injEq, and_true] at hu
    try rw [hu]
    try clear hu
    have hln13 := is_len h0
    refine rd_len u33 h0 ?_
    refine rd_lss ?_
    refine br (fun c2 => ?_) (fun c2 => ?_)
    · have hx2_ := ext_drew w1_
      refine rd_indexN u33 ty136 h0 (by omega) fun b19 o19 h19 => ?_
      refine rd_load ty136 h19 (e0.trans (hx1_.trans hx2_)) fun v20 h20 => ?_
      refine rd_indexN u33 ty136 h1 (by omega) fun b23 o23 h23 => ?_
      refine rd_load ty136 h23 (e1.trans (hx1_.trans hx2_)) fun v24 h24 => ?_
      refine (eqIns_ok h20 (e0.trans (hx1_.trans hx2_)) h24 (e1.trans (hx1_.trans hx2_))).mono ?_
      rintro _ w3_ ⟨hx3_, rfl⟩
      refine rd_nodec ?_
      refine br (fun c3 => ?_) (fun c3 => ?_)
      · refine ⟨(hx1_.trans (hx2_.trans hx3_)), ?_⟩
        have : l1 ≠ l2 := fun e => c3 (by subst e; rfl)
        simp [this]
      · refine rd_inc (by omega) ?_
        refine ⟨m4 - 1, by omega, k + 1, by omega, by simp, (hx1_.trans (hx2_.trans hx3_)), ?_⟩
        rw [List.take_succ_eq_append_getElem (by omega), List.take_succ_eq_append_getElem (by omega), hinv, Decidable.not_not.1 c3]
    · refine ⟨hx1_, ?_⟩
      rw [List.take_of_length_le (by omega), List.take_of_length_le (by omega)] at hinv
      simp [hinv]
def F18 (a0 a1 : Value) (w : World) (R : Value → World → Prop) : Prop :=
 OP Tryz.prog (Instr.box 35 a0) w fun x2 w =>
 OP Tryz.prog (Instr.box 35 a1) w fun x3 w =>
 RD Tryz.prog (Instr.fieldAt 35 x2 0) w fun x5 =>
 RD Tryz.prog (Instr.loadAt 22 x5) w fun x6 =>
 RD Tryz.prog (Instr.fieldAt 35 x3 0) w fun x7 =>
 RD Tryz.prog (Instr.loadAt 22 x7) w fun x8 =>
 CALL Tryz.prog 71 [x6, x8] w fun x9 w =>
 RD Tryz.prog (Op.unary .not x9) w fun x10 =>
 BR x10
 (R (Value.bool false) w)
 (RD Tryz.prog (Instr.fieldAt 35 x2 1) w fun x11 =>
 RD Tryz.prog (Instr.loadAt 22 x11) w fun x12 =>
 RD Tryz.prog (Instr.fieldAt 35 x3 1) w fun x13 =>
 RD Tryz.prog (Instr.loadAt 22 x13) w fun x14 =>
 CALL Tryz.prog 71 [x12, x14] w fun x15 w =>
 RD Tryz.prog (Op.unary .not x15) w fun x16 =>
 BR x16
 (R (Value.bool false) w)
 (RD Tryz.prog (Instr.fieldAt 35 x2 2) w fun x17 =>
 RD Tryz.prog (Instr.loadAt 22 x17) w fun x18 =>
 RD Tryz.prog (Instr.fieldAt 35 x3 2) w fun x19 =>
 RD Tryz.prog (Instr.loadAt 22 x19) w fun x20 =>
 CALL Tryz.prog 71 [x18, x20] w fun x21 w =>
 RD Tryz.prog (Op.unary .not x21) w fun x22 =>
 BR x22
 (R (Value.bool false) w)
 (RD Tryz.prog (Instr.fieldAt 35 x2 3) w fun x23 =>
 RD Tryz.prog (Instr.loadAt 23 x23) w fun x24 =>
 RD Tryz.prog (Instr.fieldAt 35 x3 3) w fun x25 =>
 RD Tryz.prog (Instr.loadAt 23 x25) w fun x26 =>
 CALL Tryz.prog 23 [x24, x26] w fun x27 w =>
 RD Tryz.prog (Op.unary .not x27) w fun x28 =>
 BR x28
 (R (Value.bool false) w)
 (RD Tryz.prog (Instr.fieldAt 35 x2 4) w fun x29 =>
 RD Tryz.prog (Instr.loadAt 33 x29) w fun x30 =>
 RD Tryz.prog (Instr.fieldAt 35 x3 4) w fun x31 =>
 RD Tryz.prog (Instr.loadAt 33 x31) w fun x32 =>
 CALL Tryz.prog 72 [x30, x32] w fun x33 w =>
 RD Tryz.prog (Op.unary .not x33) w fun x34 =>
 BR x34
 (R (Value.bool false) w)
 (R (Value.bool true) w)))))
def cfg18 : Cfg := { ext := extL, joins := [], loops := [], draws := [], pars := [] }
theorem F18_eq (a0 a1 : Value) (w : World) (R : Value → World → Prop) : vcF Tryz.prog cfg18 Tryz.f18 [a0, a1] w R = F18 a0 a1 w R := by kernel_rfl
theorem F18_call {a0 a1 : Value} {w : World} {R : Value → World → Prop} (h : F18 a0 a1 w R) : CALL Tryz.prog 18 [a0, a1] w R :=
  call_of (g := cfg18) ent mixed Tryz.func18 (Nat.le_of_ble_eq_true (by kernel_rfl)) (by kernel_rfl) (F18_eq a0 a1 w R ▸ h)
theorem eqCode_ok {w : World} {v0 : Value} {W0 : World} {t1 : DCode} {v1 : Value} {W1 : World} {t2 : DCode}  (h0 : Is W0 v0 t1) (e0 : Ext W0 w) (h1 : Is W1 v1 t2) (e1 : Ext W1 w)  :
    CALL Tryz.prog 18 [v0, v1] w fun r w' => Ext w w' ∧ (r = .bool (decide (t1 = t2))) := by
  refine F18_call ?_
  unfold F18
  refine op_boxS ty35 rfl h0 e0 fun w1_ hx1_ hA2 hV2 => ?_
  refine op_boxS ty35 rfl h1 (e1.trans hx1_) fun w2_ hx2_ hA3 hV3 => ?_
  refine rd_fld fd35_0 ?_
  refine rd_load ty22 (at_DCode_0 hA2) hx2_ fun v6 h6 => ?_
  refine rd_fld fd35_0 ?_
  refine rd_load ty22 (at_DCode_0 hA3) (Ext.refl w2_) fun v8 h8 => ?_
  refine (eqStringS_ok h6 hx2_ h8 (Ext.refl w2_)).mono ?_
  rintro _ w3_ ⟨hx3_, rfl⟩
  refine rd_nodec ?_
  refine br (fun c1 => ?_) (fun c1 => ?_)
  · refine ⟨(hx1_.trans (hx2_.trans hx3_)), ?_⟩
    have : t1 ≠ t2 := fun e => c1 (by rw [e])
    simp [this]
  · refine rd_fld fd35_1 ?_
    refine rd_load ty22 (at_DCode_1 hA2) (hx2_.trans hx3_) fun v12 h12 => ?_
    refine rd_fld fd35_1 ?_
    refine rd_load ty22 (at_DCode_1 hA3) hx3_ fun v14 h14 => ?_
    refine (eqStringS_ok h12 (hx2_.trans hx3_) h14 hx3_).mono ?_
    rintro _ w4_ ⟨hx4_, rfl⟩
    refine rd_nodec ?_
    refine br (fun c2 => ?_) (fun c2 => ?_)
    · refine ⟨(hx1_.trans (hx2_.trans (hx3_.trans hx4_))), ?_⟩
      have : t1 ≠ t2 := fun e => c2 (by rw [e])
      simp [this]
    · refine rd_fld fd35_2 ?_
      refine rd_load ty22 (at_DCode_2 hA2) (hx2_.trans (hx3_.trans hx4_)) fun v18 h18 => ?_
      refine rd_fld fd35_2 ?_
      refine rd_load ty22 (at_DCode_2 hA3) (hx3_.trans hx4_) fun v20 h20 => ?_
      refine (eqStringS_ok h18 (hx2_.trans (hx3_.trans hx4_)) h20 (hx3_.trans hx4_)).mono ?_
      rintro _ w5_ ⟨hx5_, rfl⟩
      refine rd_nodec ?_
      refine br (fun c3 => ?_) (fun c3 => ?_)
      · refine ⟨(hx1_.trans (hx2_.trans (hx3_.trans (hx4_.trans hx5_)))), ?_⟩
        have : t1 ≠ t2 := fun e => c3 (by rw [e])
        simp [this]
      · refine rd_fld fd35_3 ?_
        refine rd_load ty23 (at_DCode_3 hA2) (hx2_.trans (hx3_.trans (hx4_.trans hx5_))) fun v24 h24 => ?_
        refine rd_fld fd35_3 ?_
        refine rd_load ty23 (at_DCode_3 hA3) (hx3_.trans (hx4_.trans hx5_)) fun v26 h26 => ?_
        refine (eqIntS_ok2 h24 (hx2_.trans (hx3_.trans (hx4_.trans hx5_))) h26 (hx3_.trans (hx4_.trans hx5_))).mono ?_
        rintro _ w6_ ⟨hx6_, rfl⟩
        refine rd_nodec ?_
        refine br (fun c4 => ?_) (fun c4 => ?_)
        · refine ⟨(hx1_.trans (hx2_.trans (hx3_.trans (hx4_.trans (hx5_.trans hx6_))))), ?_⟩
          have : t1 ≠ t2 := fun e => c4 (by rw [e])
          simp [this]
        · refine rd_fld fd35_4 ?_
          refine rd_load ty33 (at_DCode_4 hA2) (hx2_.trans (hx3_.trans (hx4_.trans (hx5_.trans hx6_)))) fun v30 h30 => ?_
          refine rd_fld fd35_4 ?_
          refine rd_load ty33 (at_DCode_4 hA3) (hx3_.trans (hx4_.trans (hx5_.trans hx6_))) fun v32 h32 => ?_
          refine (eqInsS_ok h30 (hx2_.trans (hx3_.trans (hx4_.trans (hx5_.trans hx6_)))) h32 (hx3_.trans (hx4_.trans (hx5_.trans hx6_)))).mono ?_
          rintro _ w7_ ⟨hx7_, rfl⟩
          refine rd_nodec ?_
          refine br (fun c5 => ?_) (fun c5 => ?_)
          · refine ⟨(hx1_.trans (hx2_.trans (hx3_.trans (hx4_.trans (hx5_.trans (hx6_.trans hx7_)))))), ?_⟩
            have : t1 ≠ t2 := fun e => c5 (by rw [e])
            simp [this]
          · refine ⟨(hx1_.trans (hx2_.trans (hx3_.trans (hx4_.trans (hx5_.trans (hx6_.trans hx7_)))))), ?_⟩
            have : t1 = t2 := DCode.ext_iff.2 ⟨Decidable.not_not.1 c1, Decidable.not_not.1 c2, Decidable.not_not.1 c3, Decidable.not_not.1 c4, Decidable.not_not.1 c5⟩
            simp [this]
theorem toStringS_ok {w : World} {v : Value} {l : List ByteArray} (h : Is w v l) (hn : l.length ≤ 1048576) :
    CALL Tryz.prog 61 [v] w fun r w' => Ext w w' ∧ Own w.heap.size w' r l := by
  refine F61_call ?_
  unfold F61
  refine rd_len u22 h ?_
  refine op_make (α := ByteArray) u22 ty9 z9 (by omega) (by omega) fun w1 hx1 hf => ?_
  refine loopC l.length (fun k us w' => us = [.int .i64 (k : Int)] ∧ Ext w w' ∧ Fill w.heap.size 9 l.length [] w' (l.take k)) 0 (Nat.zero_le _) ⟨rfl, hx1, by simpa using hf⟩ ?_
  rintro k m u w2 hkm ⟨hu, hx2, hf2⟩
  simp only [List.map_cons, List.map_nil, List.cons.injEq, and_true] at hu
  rw [hu]
  refine rd_len u22 h ?_
  refine rd_lss ?_
  refine br (fun hlt => ?_) (fun hge => ?_)
  · have hk : k < l.length := by omega
    refine rd_indexN u22 ty9 h hk fun b o hA => ?_
    refine rd_loadS ty9 hA hx2 fun hI => ?_
    refine rd_indexG u22 ty9 hk ?_
    refine opu_fill (α := ByteArray) ty9 hf2 (by simp [Rep.size]; omega) (by simp; omega) (⟨⟨_, ⟨rfl, rfl, hI⟩, rfl⟩, List.nodup_nil, Wr.nil _⟩ : Mine [] w2 _ l[k]) (by simp) fun w3 hc3 hf3 => ?_
    refine rd_inc (by have := is_len h; omega) ?_
    refine ⟨m - 1, by omega, k + 1, by omega, rfl, hx2.chg_trans hc3 (by simp), ?_⟩
    rw [List.take_succ_eq_append_getElem hk]
    simpa using hf3
  · have hk : k = l.length := by omega
    subst hk
    rw [List.take_length] at hf2
    exact ⟨hx2, _, hf2.own rfl (by rw [maxLen_eq]; omega), by simp⟩
def ToTerm (t : DTerm) : Prop := ∀ {w : World} {v : Value}, Is w v t → wT t ≤ 1048576 →
  CALL Tryz.prog 190 [v] w fun r w' => Ext w w' ∧ Own w.heap.size w' r t
def ToTermS (l : List DTerm) : Prop := ∀ {w : World} {v : Value}, Is w v l → wTs l ≤ 1048576 →
  CALL Tryz.prog 236 [v] w fun r w' => Ext w w' ∧ Own w.heap.size w' r l
theorem fill_nodup {α : Type} [Rep α] {g e n lo : Nat} {Fi F1 : List Nat} {w w' : World} {l : List α} {v : Value} {x : α} (hf : Fill g e n Fi w l) (hm : Mine F1 w' v x) (hl : ∀ b ∈ F1, w.heap.size ≤ b) : (F1 ++ (g :: Fi)).Nodup := by
  rw [List.nodup_append]
  refine ⟨hm.nodup, by obtain ⟨_, _, _, _, _, hn, _⟩ := hf; exact hn, fun a ha c hc e => ?_⟩
  subst e
  have := hl a ha
  have := hf.lt a hc
  omega
theorem toTermS_step {w : World} {v : Value} {l : List DTerm} (ih : ∀ t ∈ l, ToTerm t) (h : Is w v l) (hn : wTs l ≤ 1048576) :
    CALL Tryz.prog 236 [v] w fun r w' => Ext w w' ∧ Own w.heap.size w' r l := by
  rw [wTs_eq] at hn
  refine F236_call ?_
  unfold F236
  refine rd_len u121 h ?_
  refine op_make (α := DTerm) u132 ty134 z134 (by omega) (by omega) fun w1 hx1 hf => ?_
  refine loopC l.length (fun k us w' => us = [.int .i64 (k : Int)] ∧ Ext w w' ∧ ∃ Fi, Fill w.heap.size 134 l.length Fi w' (l.take k) ∧ ∀ b ∈ Fi, w.heap.size ≤ b) 0 (Nat.zero_le _) ⟨rfl, hx1, [], by simpa using hf, by simp⟩ ?_
  rintro k m u w2 hkm ⟨hu, hx2, Fi, hf2, hFl⟩
  simp only [List.map_cons, List.map_nil, List.cons.injEq, and_true] at hu
  rw [hu]
  refine rd_len u121 h ?_
  refine rd_lss ?_
  refine br (fun hlt => ?_) (fun hge => ?_)
  · have hk : k < l.length := by omega
    refine rd_indexN u121 ty123 h hk fun b o hA => ?_
    refine rd_load ty123 hA hx2 fun v19 h19 => ?_
    refine (ih _ (List.getElem_mem hk) (h19.ext hx2) (by have := sm_mem wT (List.getElem_mem hk); omega)).mono ?_
    rintro r20 w3 ⟨hx3, F20, hm20, hl20⟩
    refine rd_indexG u132 ty134 hk ?_
    refine opu_fill (α := DTerm) ty134 (hf2.ext hx3) (by simp [Rep.size]; omega) (by simp; omega) hm20 (fill_nodup (lo := 0) hf2 hm20 hl20) fun w4 hc4 hf4 => ?_
    refine rd_inc (by have := is_len h; omega) ?_
    refine ⟨m - 1, by omega, k + 1, by omega, rfl, (hx2.trans hx3).chg_trans hc4 (by simp), Fi ++ F20, ?_, ?_⟩
    · rw [List.take_succ_eq_append_getElem hk]
      exact hf4
    · intro b hb
      rcases List.mem_append.1 hb with hb | hb
      · exact hFl b hb
      · exact Nat.le_trans hx2.size (hl20 b hb)
  · have hk : k = l.length := by omega
    subst hk
    rw [List.take_length] at hf2
    exact ⟨hx2, _, hf2.own rfl (by rw [maxLen_eq]; omega), by simpa using hFl⟩
def F190 (a0 : Value) (w : World) (R : Value → World → Prop) : Prop :=
 OP Tryz.prog (Instr.box 123 a0) w fun x1 w =>
 OP Tryz.prog (Instr.alloc 134 true (.tuple #[])) w fun x2 w =>
 OP Tryz.prog (Instr.alloc 134 true (.tuple #[])) w fun x3 w =>
 RD Tryz.prog (Instr.fieldAt 123 x1 0) w fun x4 =>
 RD Tryz.prog (Instr.loadAt 3 x4) w fun x5 =>
 RD Tryz.prog (Instr.fieldAt 134 x3 0) w fun x6 =>
 OPU Tryz.prog (Instr.storeAt 3 x6 x5) w fun w =>
 RD Tryz.prog (Instr.fieldAt 123 x1 1) w fun x7 =>
 RD Tryz.prog (Instr.loadAt 3 x7) w fun x8 =>
 RD Tryz.prog (Instr.fieldAt 134 x3 1) w fun x9 =>
 OPU Tryz.prog (Instr.storeAt 3 x9 x8) w fun w =>
 RD Tryz.prog (Instr.fieldAt 123 x1 2) w fun x10 =>
 RD Tryz.prog (Instr.loadAt 9 x10) w fun x11 =>
 RD Tryz.prog (Instr.fieldAt 134 x3 2) w fun x12 =>
 OPU Tryz.prog (Instr.storeAt 9 x12 x11) w fun w =>
 RD Tryz.prog (Instr.fieldAt 123 x1 3) w fun x13 =>
 RD Tryz.prog (Instr.loadAt 121 x13) w fun x14 =>
 CALL Tryz.prog 236 [x14] w fun x15 w =>
 RD Tryz.prog (Instr.fieldAt 134 x3 3) w fun x16 =>
 OPU Tryz.prog (Instr.storeAt 132 x16 x15) w fun w =>
 RD Tryz.prog (Instr.loadAt 134 x3) w fun x17 =>
 OPU Tryz.prog (Instr.storeAt 134 x2 x17) w fun w =>
 RD Tryz.prog (loadRes 134 x2) w fun r2 => R r2 w
def cfg190 : Cfg := { ext := extL, joins := [], loops := [], draws := [], pars := [] }
theorem F190_eq (a0 : Value) (w : World) (R : Value → World → Prop) : vcF Tryz.prog cfg190 Tryz.f190 [a0] w R = F190 a0 w R := by kernel_rfl
theorem F190_call {a0 : Value} {w : World} {R : Value → World → Prop} (h : F190 a0 w R) : CALL Tryz.prog 190 [a0] w R :=
  call_of (g := cfg190) ent mixed Tryz.func190 (Nat.le_of_ble_eq_true (by kernel_rfl)) (by kernel_rfl) (F190_eq a0 w R ▸ h)
theorem toTerm_step {w : World} {v0 : Value} {W0 : World} {t : DTerm}  (h0 : Is W0 v0 t) (e0 : Ext W0 w) (ih : ToTermS t.kids) (hn : wT t ≤ 1048576) :
    CALL Tryz.prog 190 [v0] w fun r w' => Ext w w' ∧ (Own w.heap.size w' r t) := by
  refine F190_call ?_
  unfold F190
  have hn' : wTs t.kids ≤ 1048576 := by rw [wT_eq] at hn; omega
  have hs_e0 := e0.size
  refine op_boxS ty123 rfl h0 e0 fun w1_ hx1_ hA1 hV1 => ?_
  have hs_hx1_ := hx1_.size
  refine op_varZ (α := DTerm) zl134 fun w2_ hx2_ hv2 => ?_
  have hg2 := hv2.lt
  have hs_hx2_ := hx2_.size
  refine op_varZ (α := DTerm) zl134 fun w3_ hx3_ hv3 => ?_
  have hg3 := hv3.lt
  have hs_hx3_ := hx3_.size
  refine rd_fld fd123_0 ?_
  refine rd_loadI ty3 (at_DTerm_0 hA1) (hx2_.trans hx3_) fun hI5 => ?_
  refine rd_fld fd134_0 ?_
  obtain ⟨Fv4, hO4, hF4⟩ := (hv3.ext (Ext.refl w3_))
  obtain ⟨Gv4, hL4⟩ := lens_DTerm_0 (Lens.var hO4)
  refine opu_varF ty3 hL4 hF4 (ownI_int (lo := w3_.heap.size) (hi := w3_.heap.size) (by first | assumption | (unfold I64 at *; omega))) (by omega) (by omega) fun w4_ hc4_ hv4_ => ?_
  have hv3_s4 := hv4_ (w3_.heap.size) (by omega) (by omega) (w3_.heap.size) (by omega) (by omega)
  clear hv4_ hL4 hO4 hF4
  have hs_hc4_ := hc4_.size
  have hv2_c4 := (hv2.ext hx3_).chg hc4_ (by omega) (by omega)
  refine rd_fld fd123_1 ?_
  refine rd_loadI ty3 (at_DTerm_1 hA1) (Ext.chgI (hx2_.trans hx3_) hc4_ (by omega)) fun hI8 => ?_
  refine rd_fld fd134_1 ?_
  obtain ⟨Fv5, hO5, hF5⟩ := (hv3_s4.ext (Ext.refl w4_))
  obtain ⟨Gv5, hL5⟩ := lens_DTerm_1 (Lens.var hO5)
  refine opu_varF ty3 hL5 hF5 (ownI_int (lo := w4_.heap.size) (hi := w4_.heap.size) (by first | assumption | (unfold I64 at *; omega))) (by omega) (by omega) fun w5_ hc5_ hv5_ => ?_
  have hv3_s5 := hv5_ (w3_.heap.size) (by omega) (by omega) (w4_.heap.size) (by omega) (by omega)
  clear hv5_ hL5 hO5 hF5
  have hs_hc5_ := hc5_.size
  have hv2_c5 := (hv2_c4.ext (Ext.refl w4_)).chg hc5_ (by omega) (by omega)
  refine rd_fld fd123_2 ?_
  refine rd_loadS ty9 (at_DTerm_2 hA1) (Ext.chgI (Ext.chgI (hx2_.trans hx3_) hc4_ (by omega)) hc5_ (by omega)) fun hS11 => ?_
  refine rd_fld fd134_2 ?_
  obtain ⟨Fv6, hO6, hF6⟩ := (hv3_s5.ext (Ext.refl w5_))
  obtain ⟨Gv6, hL6⟩ := lens_DTerm_2 (Lens.var hO6)
  refine opu_varF ty9 hL6 hF6 (ownI_str (lo := w5_.heap.size) (hi := w5_.heap.size) (by first | assumption | (rw [maxLen_eq]; omega) | (simp [maxLen_eq]; omega))) (by omega) (by omega) fun w6_ hc6_ hv6_ => ?_
  have hv3_s6 := hv6_ (w3_.heap.size) (by omega) (by omega) (w5_.heap.size) (by omega) (by omega)
  clear hv6_ hL6 hO6 hF6
  have hs_hc6_ := hc6_.size
  have hv2_c6 := (hv2_c5.ext (Ext.refl w5_)).chg hc6_ (by omega) (by omega)
  refine rd_fld fd123_3 ?_
  refine rd_load ty121 (at_DTerm_3 hA1) (Ext.chgI (Ext.chgI (Ext.chgI (hx2_.trans hx3_) hc4_ (by omega)) hc5_ (by omega)) hc6_ (by omega)) fun v14 h14 => ?_
  refine (ih (h14.ext (Ext.chgI (Ext.chgI (Ext.chgI (hx2_.trans hx3_) hc4_ (by omega)) hc5_ (by omega)) hc6_ (by omega))) (by omega)).mono ?_
  rintro r15 w7_ ⟨hx7_, o15⟩
  have o15 := o15.toI
  have hs_hx7_ := hx7_.size
  refine rd_fld fd134_3 ?_
  obtain ⟨Fv8, hO8, hF8⟩ := (hv3_s6.ext hx7_)
  obtain ⟨Gv8, hL8⟩ := lens_DTerm_3 (Lens.var hO8)
  refine opu_varF ty132 hL8 hF8 (o15.ext (Ext.refl w7_)) (by omega) (by omega) fun w8_ hc8_ hv8_ => ?_
  have hv3_s8 := hv8_ (w3_.heap.size) (by omega) (by omega) (w7_.heap.size) (by omega) (by omega)
  clear hv8_ hL8 hO8 hF8
  have hs_hc8_ := hc8_.size
  have hv2_c8 := (hv2_c6.ext hx7_).chg hc8_ (by omega) (by omega)
  have o15_c8 := (o15.ext (Ext.refl w7_)).chg hc8_ (by omega)
  refine rd_varI ty134 hv3_s8 (Ext.refl w8_) fun v17 o17 => ?_
  refine opu_varA ty134 (hv2_c8.ext (Ext.refl w8_)) (o17.ext (Ext.refl w8_)) (by omega) fun w9_ hc9_ hv2_s9 => ?_
  have hs_hc9_ := hc9_.size
  have hv3_s8_c9 := (hv3_s8.ext (Ext.refl w8_)).chg hc9_ (by omega) (by omega)
  have o15_c9 := (o15_c8.ext (Ext.refl w8_)).chg hc9_ (by omega)
  have o17_c9 := (o17.ext (Ext.refl w8_)).chg hc9_ (by omega)
  refine rd_varRI ty134 hv2_s9 (Ext.refl w9_) fun r2 hr2 => ?_
  replace hr2 := hr2.ext (Ext.refl w9_)
  refine ⟨(Ext.chgI (Ext.chgI ((Ext.chgI (Ext.chgI (Ext.chgI ((hx1_.trans hx2_).trans hx3_) hc4_ (by omega)) hc5_ (by omega)) hc6_ (by omega)).trans hx7_) hc8_ (by omega)) hc9_ (by omega)), ?_⟩
  have := (hr2.mono (lo' := w.heap.size) (by omega) (Nat.le_refl _)).own
  cases t
  exact this
theorem toTerm_ok (t : DTerm) : ToTerm t := DTerm.ind (fun t ih {w v} h hn => toTerm_step h (Ext.refl w) (fun {_ _} h hn => toTermS_step ih h hn) hn) t
def F124 (a0 : Value) (w : World) (R : Value → World → Prop) : Prop :=
 OP Tryz.prog (Instr.box 125 a0) w fun x1 w =>
 OP Tryz.prog (Instr.alloc 136 true (.tuple #[])) w fun x2 w =>
 OP Tryz.prog (Instr.alloc 136 true (.tuple #[])) w fun x3 w =>
 RD Tryz.prog (Instr.fieldAt 125 x1 0) w fun x4 =>
 RD Tryz.prog (Instr.loadAt 3 x4) w fun x5 =>
 RD Tryz.prog (Instr.fieldAt 136 x3 0) w fun x6 =>
 OPU Tryz.prog (Instr.storeAt 3 x6 x5) w fun w =>
 RD Tryz.prog (Instr.fieldAt 125 x1 1) w fun x7 =>
 RD Tryz.prog (Instr.loadAt 3 x7) w fun x8 =>
 RD Tryz.prog (Instr.fieldAt 136 x3 1) w fun x9 =>
 OPU Tryz.prog (Instr.storeAt 3 x9 x8) w fun w =>
 RD Tryz.prog (Instr.fieldAt 125 x1 2) w fun x10 =>
 RD Tryz.prog (Instr.loadAt 123 x10) w fun x11 =>
 CALL Tryz.prog 190 [x11] w fun x12 w =>
 RD Tryz.prog (Instr.fieldAt 136 x3 2) w fun x13 =>
 OPU Tryz.prog (Instr.storeAt 134 x13 x12) w fun w =>
 RD Tryz.prog (Instr.fieldAt 125 x1 3) w fun x14 =>
 RD Tryz.prog (Instr.loadAt 3 x14) w fun x15 =>
 RD Tryz.prog (Instr.fieldAt 136 x3 3) w fun x16 =>
 OPU Tryz.prog (Instr.storeAt 3 x16 x15) w fun w =>
 RD Tryz.prog (Instr.loadAt 136 x3) w fun x17 =>
 OPU Tryz.prog (Instr.storeAt 136 x2 x17) w fun w =>
 RD Tryz.prog (loadRes 136 x2) w fun r2 => R r2 w
def cfg124 : Cfg := { ext := extL, joins := [], loops := [], draws := [], pars := [] }
theorem F124_eq (a0 : Value) (w : World) (R : Value → World → Prop) : vcF Tryz.prog cfg124 Tryz.f124 [a0] w R = F124 a0 w R := by kernel_rfl
theorem F124_call {a0 : Value} {w : World} {R : Value → World → Prop} (h : F124 a0 w R) : CALL Tryz.prog 124 [a0] w R :=
  call_of (g := cfg124) ent mixed Tryz.func124 (Nat.le_of_ble_eq_true (by kernel_rfl)) (by kernel_rfl) (F124_eq a0 w R ▸ h)
theorem toIns_ok {w : World} {v0 : Value} {W0 : World} {t : DIns}  (h0 : Is W0 v0 t) (e0 : Ext W0 w) (hn : wT t.term ≤ 1048576) :
    CALL Tryz.prog 124 [v0] w fun r w' => Ext w w' ∧ (Own w.heap.size w' r t) := by
  refine F124_call ?_
  unfold F124
  have hs_e0 := e0.size
  refine op_boxS ty125 rfl h0 e0 fun w1_ hx1_ hA1 hV1 => ?_
  have hs_hx1_ := hx1_.size
  refine op_varZ (α := DIns) zl136 fun w2_ hx2_ hv2 => ?_
  have hg2 := hv2.lt
  have hs_hx2_ := hx2_.size
  refine op_varZ (α := DIns) zl136 fun w3_ hx3_ hv3 => ?_
  have hg3 := hv3.lt
  have hs_hx3_ := hx3_.size
  refine rd_fld fd125_0 ?_
  refine rd_loadI ty3 (at_DIns_0 hA1) (hx2_.trans hx3_) fun hI5 => ?_
  refine rd_fld fd136_0 ?_
  obtain ⟨Fv4, hO4, hF4⟩ := (hv3.ext (Ext.refl w3_))
  obtain ⟨Gv4, hL4⟩ := lens_DIns_0 (Lens.var hO4)
  refine opu_varF ty3 hL4 hF4 (ownI_int (lo := w3_.heap.size) (hi := w3_.heap.size) (by first | assumption | (unfold I64 at *; omega))) (by omega) (by omega) fun w4_ hc4_ hv4_ => ?_
  have hv3_s4 := hv4_ (w3_.heap.size) (by omega) (by omega) (w3_.heap.size) (by omega) (by omega)
  clear hv4_ hL4 hO4 hF4
  have hs_hc4_ := hc4_.size
  have hv2_c4 := (hv2.ext hx3_).chg hc4_ (by omega) (by omega)
  refine rd_fld fd125_1 ?_
  refine rd_loadI ty3 (at_DIns_1 hA1) (Ext.chgI (hx2_.trans hx3_) hc4_ (by omega)) fun hI8 => ?_
  refine rd_fld fd136_1 ?_
  obtain ⟨Fv5, hO5, hF5⟩ := (hv3_s4.ext (Ext.refl w4_))
  obtain ⟨Gv5, hL5⟩ := lens_DIns_1 (Lens.var hO5)
  refine opu_varF ty3 hL5 hF5 (ownI_int (lo := w4_.heap.size) (hi := w4_.heap.size) (by first | assumption | (unfold I64 at *; omega))) (by omega) (by omega) fun w5_ hc5_ hv5_ => ?_
  have hv3_s5 := hv5_ (w3_.heap.size) (by omega) (by omega) (w4_.heap.size) (by omega) (by omega)
  clear hv5_ hL5 hO5 hF5
  have hs_hc5_ := hc5_.size
  have hv2_c5 := (hv2_c4.ext (Ext.refl w4_)).chg hc5_ (by omega) (by omega)
  refine rd_fld fd125_2 ?_
  refine rd_load ty123 (at_DIns_2 hA1) (Ext.chgI (Ext.chgI (hx2_.trans hx3_) hc4_ (by omega)) hc5_ (by omega)) fun v11 h11 => ?_
  refine ((toTerm_ok _) (h11.ext (Ext.chgI (Ext.chgI (hx2_.trans hx3_) hc4_ (by omega)) hc5_ (by omega))) (by assumption)).mono ?_
  rintro r12 w6_ ⟨hx6_, o12⟩
  have o12 := o12.toI
  have hs_hx6_ := hx6_.size
  refine rd_fld fd136_2 ?_
  obtain ⟨Fv7, hO7, hF7⟩ := (hv3_s5.ext hx6_)
  obtain ⟨Gv7, hL7⟩ := lens_DIns_2 (Lens.var hO7)
  refine opu_varF ty134 hL7 hF7 (o12.ext (Ext.refl w6_)) (by omega) (by omega) fun w7_ hc7_ hv7_ => ?_
  have hv3_s7 := hv7_ (w3_.heap.size) (by omega) (by omega) (w6_.heap.size) (by omega) (by omega)
  clear hv7_ hL7 hO7 hF7
  have hs_hc7_ := hc7_.size
  have hv2_c7 := (hv2_c5.ext hx6_).chg hc7_ (by omega) (by omega)
  have o12_c7 := (o12.ext (Ext.refl w6_)).chg hc7_ (by omega)
  refine rd_fld fd125_3 ?_
  refine rd_loadI ty3 (at_DIns_3 hA1) (Ext.chgI ((Ext.chgI (Ext.chgI (hx2_.trans hx3_) hc4_ (by omega)) hc5_ (by omega)).trans hx6_) hc7_ (by omega)) fun hI15 => ?_
  refine rd_fld fd136_3 ?_
  obtain ⟨Fv8, hO8, hF8⟩ := (hv3_s7.ext (Ext.refl w7_))
  obtain ⟨Gv8, hL8⟩ := lens_DIns_3 (Lens.var hO8)
  refine opu_varF ty3 hL8 hF8 (ownI_int (lo := w7_.heap.size) (hi := w7_.heap.size) (by first | assumption | (unfold I64 at *; omega))) (by omega) (by omega) fun w8_ hc8_ hv8_ => ?_
  have hv3_s8 := hv8_ (w3_.heap.size) (by omega) (by omega) (w7_.heap.size) (by omega) (by omega)
  clear hv8_ hL8 hO8 hF8
  have hs_hc8_ := hc8_.size
  have hv2_c8 := (hv2_c7.ext (Ext.refl w7_)).chg hc8_ (by omega) (by omega)
  have o12_c8 := (o12_c7.ext (Ext.refl w7_)).chg hc8_ (by omega)
  refine rd_varI ty136 hv3_s8 (Ext.refl w8_) fun v17 o17 => ?_
  refine opu_varA ty136 (hv2_c8.ext (Ext.refl w8_)) (o17.ext (Ext.refl w8_)) (by omega) fun w9_ hc9_ hv2_s9 => ?_
  have hs_hc9_ := hc9_.size
  have hv3_s8_c9 := (hv3_s8.ext (Ext.refl w8_)).chg hc9_ (by omega) (by omega)
  have o12_c9 := (o12_c8.ext (Ext.refl w8_)).chg hc9_ (by omega)
  have o17_c9 := (o17.ext (Ext.refl w8_)).chg hc9_ (by omega)
  refine rd_varRI ty136 hv2_s9 (Ext.refl w9_) fun r2 hr2 => ?_
  replace hr2 := hr2.ext (Ext.refl w9_)
  refine ⟨(Ext.chgI (Ext.chgI (Ext.chgI ((Ext.chgI (Ext.chgI ((hx1_.trans hx2_).trans hx3_) hc4_ (by omega)) hc5_ (by omega)).trans hx6_) hc7_ (by omega)) hc8_ (by omega)) hc9_ (by omega)), ?_⟩
  exact (hr2.mono (lo' := w.heap.size) (by omega) (Nat.le_refl _)).own
theorem toInsS_ok {w : World} {v : Value} {l : List DIns} (h : Is w v l) (hn : wIns l ≤ 1048576) :
    CALL Tryz.prog 62 [v] w fun r w' => Ext w w' ∧ Own w.heap.size w' r l := by
  unfold wIns at hn
  refine F62_call ?_
  unfold F62
  refine rd_len u24 h ?_
  refine op_make (α := DIns) u33 ty136 z136 (by omega) (by omega) fun w1 hx1 hf => ?_
  refine loopC l.length (fun k us w' => us = [.int .i64 (k : Int)] ∧ Ext w w' ∧ ∃ Fi, Fill w.heap.size 136 l.length Fi w' (l.take k) ∧ ∀ b ∈ Fi, w.heap.size ≤ b) 0 (Nat.zero_le _) ⟨rfl, hx1, [], by simpa using hf, by simp⟩ ?_
  rintro k m u w2 hkm ⟨hu, hx2, Fi, hf2, hFl⟩
  simp only [List.map_cons, List.map_nil, List.cons.injEq, and_true] at hu
  rw [hu]
  refine rd_len u24 h ?_
  refine rd_lss ?_
  refine br (fun hlt => ?_) (fun hge => ?_)
  · have hk : k < l.length := by omega
    refine rd_indexN u24 ty125 h hk fun b o hA => ?_
    refine rd_load ty125 hA hx2 fun v19 h19 => ?_
    refine (toIns_ok h19 hx2 (by have := sm_mem (fun i : DIns => wT i.term) (List.getElem_mem hk); omega)).mono ?_
    rintro r20 w3 ⟨hx3, F20, hm20, hl20⟩
    refine rd_indexG u33 ty136 hk ?_
    refine opu_fill (α := DIns) ty136 (hf2.ext hx3) (by simp [Rep.size]; omega) (by simp; omega) hm20 (fill_nodup (lo := 0) hf2 hm20 hl20) fun w4 hc4 hf4 => ?_
    refine rd_inc (by have := is_len h; omega) ?_
    refine ⟨m - 1, by omega, k + 1, by omega, rfl, (hx2.trans hx3).chg_trans hc4 (by simp), Fi ++ F20, ?_, ?_⟩
    · rw [List.take_succ_eq_append_getElem hk]
      exact hf4
    · intro b hb
      rcases List.mem_append.1 hb with hb | hb
      · exact hFl b hb
      · exact Nat.le_trans hx2.size (hl20 b hb)
  · have hk : k = l.length := by omega
    subst hk
    rw [List.take_length] at hf2
    exact ⟨hx2, _, hf2.own rfl (by rw [maxLen_eq]; omega), by simpa using hFl⟩
def F15 (a0 : Value) (w : World) (R : Value → World → Prop) : Prop :=
 OP Tryz.prog (Instr.box 26 a0) w fun x1 w =>
 OP Tryz.prog (Instr.alloc 35 true (.tuple #[])) w fun x2 w =>
 OP Tryz.prog (Instr.alloc 35 true (.tuple #[])) w fun x3 w =>
 RD Tryz.prog (Instr.fieldAt 26 x1 0) w fun x4 =>
 RD Tryz.prog (Instr.loadAt 22 x4) w fun x5 =>
 CALL Tryz.prog 61 [x5] w fun x6 w =>
 RD Tryz.prog (Instr.fieldAt 35 x3 0) w fun x7 =>
 OPU Tryz.prog (Instr.storeAt 22 x7 x6) w fun w =>
 RD Tryz.prog (Instr.fieldAt 26 x1 1) w fun x8 =>
 RD Tryz.prog (Instr.loadAt 22 x8) w fun x9 =>
 CALL Tryz.prog 61 [x9] w fun x10 w =>
 RD Tryz.prog (Instr.fieldAt 35 x3 1) w fun x11 =>
 OPU Tryz.prog (Instr.storeAt 22 x11 x10) w fun w =>
 RD Tryz.prog (Instr.fieldAt 26 x1 2) w fun x12 =>
 RD Tryz.prog (Instr.loadAt 22 x12) w fun x13 =>
 CALL Tryz.prog 61 [x13] w fun x14 w =>
 RD Tryz.prog (Instr.fieldAt 35 x3 2) w fun x15 =>
 OPU Tryz.prog (Instr.storeAt 22 x15 x14) w fun w =>
 RD Tryz.prog (Instr.fieldAt 26 x1 3) w fun x16 =>
 RD Tryz.prog (Instr.loadAt 23 x16) w fun x17 =>
 CALL Tryz.prog 21 [x17] w fun x18 w =>
 RD Tryz.prog (Instr.fieldAt 35 x3 3) w fun x19 =>
 OPU Tryz.prog (Instr.storeAt 23 x19 x18) w fun w =>
 RD Tryz.prog (Instr.fieldAt 26 x1 4) w fun x20 =>
 RD Tryz.prog (Instr.loadAt 24 x20) w fun x21 =>
 CALL Tryz.prog 62 [x21] w fun x22 w =>
 RD Tryz.prog (Instr.fieldAt 35 x3 4) w fun x23 =>
 OPU Tryz.prog (Instr.storeAt 33 x23 x22) w fun w =>
 RD Tryz.prog (Instr.loadAt 35 x3) w fun x24 =>
 OPU Tryz.prog (Instr.storeAt 35 x2 x24) w fun w =>
 RD Tryz.prog (loadRes 35 x2) w fun r2 => R r2 w
def cfg15 : Cfg := { ext := extL, joins := [], loops := [], draws := [], pars := [] }
theorem F15_eq (a0 : Value) (w : World) (R : Value → World → Prop) : vcF Tryz.prog cfg15 Tryz.f15 [a0] w R = F15 a0 w R := by kernel_rfl
theorem F15_call {a0 : Value} {w : World} {R : Value → World → Prop} (h : F15 a0 w R) : CALL Tryz.prog 15 [a0] w R :=
  call_of (g := cfg15) ent mixed Tryz.func15 (Nat.le_of_ble_eq_true (by kernel_rfl)) (by kernel_rfl) (F15_eq a0 w R ▸ h)
theorem toCode_step {w : World} {v0 : Value} {W0 : World} {t : DCode}  (h0 : Is W0 v0 t) (e0 : Ext W0 w) (hn : wCode t ≤ 1048576) :
    CALL Tryz.prog 15 [v0] w fun r w' => Ext w w' ∧ (Own w.heap.size w' r t) := by
  refine F15_call ?_
  unfold F15
  unfold wCode wStr at hn
  have hs_e0 := e0.size
  refine op_boxS ty26 rfl h0 e0 fun w1_ hx1_ hA1 hV1 => ?_
  have hs_hx1_ := hx1_.size
  refine op_varZ (α := DCode) zl35 fun w2_ hx2_ hv2 => ?_
  have hg2 := hv2.lt
  have hs_hx2_ := hx2_.size
  refine op_varZ (α := DCode) zl35 fun w3_ hx3_ hv3 => ?_
  have hg3 := hv3.lt
  have hs_hx3_ := hx3_.size
  refine rd_fld fd26_0 ?_
  refine rd_load ty22 (at_DCode_0 hA1) (hx2_.trans hx3_) fun v5 h5 => ?_
  refine (toStringS_ok (h5.ext (hx2_.trans hx3_)) (by omega)).mono ?_
  rintro r6 w4_ ⟨hx4_, o6⟩
  have o6 := o6.toI
  have hs_hx4_ := hx4_.size
  refine rd_fld fd35_0 ?_
  obtain ⟨Fv5, hO5, hF5⟩ := (hv3.ext hx4_)
  obtain ⟨Gv5, hL5⟩ := lens_DCode_0 (Lens.var hO5)
  refine opu_varF ty22 hL5 hF5 (o6.ext (Ext.refl w4_)) (by omega) (by omega) fun w5_ hc5_ hv5_ => ?_
  have hv3_s5 := hv5_ (w3_.heap.size) (by omega) (by omega) (w4_.heap.size) (by omega) (by omega)
  clear hv5_ hL5 hO5 hF5
  have hs_hc5_ := hc5_.size
  have hv2_c5 := (hv2.ext (hx3_.trans hx4_)).chg hc5_ (by omega) (by omega)
  have o6_c5 := (o6.ext (Ext.refl w4_)).chg hc5_ (by omega)
  refine rd_fld fd26_1 ?_
  refine rd_load ty22 (at_DCode_1 hA1) (Ext.chgI ((hx2_.trans hx3_).trans hx4_) hc5_ (by omega)) fun v9 h9 => ?_
  refine (toStringS_ok (h9.ext (Ext.chgI ((hx2_.trans hx3_).trans hx4_) hc5_ (by omega))) (by omega)).mono ?_
  rintro r10 w6_ ⟨hx6_, o10⟩
  have o10 := o10.toI
  have hs_hx6_ := hx6_.size
  refine rd_fld fd35_1 ?_
  obtain ⟨Fv7, hO7, hF7⟩ := (hv3_s5.ext hx6_)
  obtain ⟨Gv7, hL7⟩ := lens_DCode_1 (Lens.var hO7)
  refine opu_varF ty22 hL7 hF7 (o10.ext (Ext.refl w6_)) (by omega) (by omega) fun w7_ hc7_ hv7_ => ?_
  have hv3_s7 := hv7_ (w3_.heap.size) (by omega) (by omega) (w6_.heap.size) (by omega) (by omega)
  clear hv7_ hL7 hO7 hF7
  have hs_hc7_ := hc7_.size
  have hv2_c7 := (hv2_c5.ext hx6_).chg hc7_ (by omega) (by omega)
  have o6_c7 := (o6_c5.ext hx6_).chg hc7_ (by omega)
  have o10_c7 := (o10.ext (Ext.refl w6_)).chg hc7_ (by omega)
  refine rd_fld fd26_2 ?_
  refine rd_load ty22 (at_DCode_2 hA1) (Ext.chgI ((Ext.chgI ((hx2_.trans hx3_).trans hx4_) hc5_ (by omega)).trans hx6_) hc7_ (by omega)) fun v13 h13 => ?_
  refine (toStringS_ok (h13.ext (Ext.chgI ((Ext.chgI ((hx2_.trans hx3_).trans hx4_) hc5_ (by omega)).trans hx6_) hc7_ (by omega))) (by omega)).mono ?_
  rintro r14 w8_ ⟨hx8_, o14⟩
  have o14 := o14.toI
  have hs_hx8_ := hx8_.size
  refine rd_fld fd35_2 ?_
  obtain ⟨Fv9, hO9, hF9⟩ := (hv3_s7.ext hx8_)
  obtain ⟨Gv9, hL9⟩ := lens_DCode_2 (Lens.var hO9)
  refine opu_varF ty22 hL9 hF9 (o14.ext (Ext.refl w8_)) (by omega) (by omega) fun w9_ hc9_ hv9_ => ?_
  have hv3_s9 := hv9_ (w3_.heap.size) (by omega) (by omega) (w8_.heap.size) (by omega) (by omega)
  clear hv9_ hL9 hO9 hF9
  have hs_hc9_ := hc9_.size
  have hv2_c9 := (hv2_c7.ext hx8_).chg hc9_ (by omega) (by omega)
  have o6_c9 := (o6_c7.ext hx8_).chg hc9_ (by omega)
  have o10_c9 := (o10_c7.ext hx8_).chg hc9_ (by omega)
  have o14_c9 := (o14.ext (Ext.refl w8_)).chg hc9_ (by omega)
  refine rd_fld fd26_3 ?_
  refine rd_load ty23 (at_DCode_3 hA1) (Ext.chgI ((Ext.chgI ((Ext.chgI ((hx2_.trans hx3_).trans hx4_) hc5_ (by omega)).trans hx6_) hc7_ (by omega)).trans hx8_) hc9_ (by omega)) fun v17 h17 => ?_
  refine (toIntS_ok (h17.ext (Ext.chgI ((Ext.chgI ((Ext.chgI ((hx2_.trans hx3_).trans hx4_) hc5_ (by omega)).trans hx6_) hc7_ (by omega)).trans hx8_) hc9_ (by omega))) (by omega)).mono ?_
  rintro r18 w10_ ⟨hx10_, o18⟩
  have o18 := o18.toI
  have hs_hx10_ := hx10_.size
  refine rd_fld fd35_3 ?_
  obtain ⟨Fv11, hO11, hF11⟩ := (hv3_s9.ext hx10_)
  obtain ⟨Gv11, hL11⟩ := lens_DCode_3 (Lens.var hO11)
  refine opu_varF ty23 hL11 hF11 (o18.ext (Ext.refl w10_)) (by omega) (by omega) fun w11_ hc11_ hv11_ => ?_
  have hv3_s11 := hv11_ (w3_.heap.size) (by omega) (by omega) (w10_.heap.size) (by omega) (by omega)
  clear hv11_ hL11 hO11 hF11
  have hs_hc11_ := hc11_.size
  have hv2_c11 := (hv2_c9.ext hx10_).chg hc11_ (by omega) (by omega)
  have o6_c11 := (o6_c9.ext hx10_).chg hc11_ (by omega)
  have o10_c11 := (o10_c9.ext hx10_).chg hc11_ (by omega)
  have o14_c11 := (o14_c9.ext hx10_).chg hc11_ (by omega)
  have o18_c11 := (o18.ext (Ext.refl w10_)).chg hc11_ (by omega)
  refine rd_fld fd26_4 ?_
  refine rd_load ty24 (at_DCode_4 hA1) (Ext.chgI ((Ext.chgI ((Ext.chgI ((Ext.chgI ((hx2_.trans hx3_).trans hx4_) hc5_ (by omega)).trans hx6_) hc7_ (by omega)).trans hx8_) hc9_ (by omega)).trans hx10_) hc11_ (by omega)) fun v21 h21 => ?_
  refine (toInsS_ok (h21.ext (Ext.chgI ((Ext.chgI ((Ext.chgI ((Ext.chgI ((hx2_.trans hx3_).trans hx4_) hc5_ (by omega)).trans hx6_) hc7_ (by omega)).trans hx8_) hc9_ (by omega)).trans hx10_) hc11_ (by omega))) (by omega)).mono ?_
  rintro r22 w12_ ⟨hx12_, o22⟩
  have o22 := o22.toI
  have hs_hx12_ := hx12_.size
  refine rd_fld fd35_4 ?_
  obtain ⟨Fv13, hO13, hF13⟩ := (hv3_s11.ext hx12_)
  obtain ⟨Gv13, hL13⟩ := lens_DCode_4 (Lens.var hO13)
  refine opu_varF ty33 hL13 hF13 (o22.ext (Ext.refl w12_)) (by omega) (by omega) fun w13_ hc13_ hv13_ => ?_
  have hv3_s13 := hv13_ (w3_.heap.size) (by omega) (by omega) (w12_.heap.size) (by omega) (by omega)
  clear hv13_ hL13 hO13 hF13
  have hs_hc13_ := hc13_.size
  have hv2_c13 := (hv2_c11.ext hx12_).chg hc13_ (by omega) (by omega)
  have o6_c13 := (o6_c11.ext hx12_).chg hc13_ (by omega)
  have o10_c13 := (o10_c11.ext hx12_).chg hc13_ (by omega)
  have o14_c13 := (o14_c11.ext hx12_).chg hc13_ (by omega)
  have o18_c13 := (o18_c11.ext hx12_).chg hc13_ (by omega)
  have o22_c13 := (o22.ext (Ext.refl w12_)).chg hc13_ (by omega)
  refine rd_varI ty35 hv3_s13 (Ext.refl w13_) fun v24 o24 => ?_
  refine opu_varA ty35 (hv2_c13.ext (Ext.refl w13_)) (o24.ext (Ext.refl w13_)) (by omega) fun w14_ hc14_ hv2_s14 => ?_
  have hs_hc14_ := hc14_.size
  have hv3_s13_c14 := (hv3_s13.ext (Ext.refl w13_)).chg hc14_ (by omega) (by omega)
  have o6_c14 := (o6_c13.ext (Ext.refl w13_)).chg hc14_ (by omega)
  have o10_c14 := (o10_c13.ext (Ext.refl w13_)).chg hc14_ (by omega)
  have o14_c14 := (o14_c13.ext (Ext.refl w13_)).chg hc14_ (by omega)
  have o18_c14 := (o18_c13.ext (Ext.refl w13_)).chg hc14_ (by omega)
  have o22_c14 := (o22_c13.ext (Ext.refl w13_)).chg hc14_ (by omega)
  have o24_c14 := (o24.ext (Ext.refl w13_)).chg hc14_ (by omega)
  refine rd_varRI ty35 hv2_s14 (Ext.refl w14_) fun r2 hr2 => ?_
  replace hr2 := hr2.ext (Ext.refl w14_)
  refine ⟨(Ext.chgI (Ext.chgI ((Ext.chgI ((Ext.chgI ((Ext.chgI ((Ext.chgI (((hx1_.trans hx2_).trans hx3_).trans hx4_) hc5_ (by omega)).trans hx6_) hc7_ (by omega)).trans hx8_) hc9_ (by omega)).trans hx10_) hc11_ (by omega)).trans hx12_) hc13_ (by omega)) hc14_ (by omega)), ?_⟩
  exact (hr2.mono (lo' := w.heap.size) (by omega) (Nat.le_refl _)).own
theorem toCode_ok {w : World} {v : Value} {t : DCode} (h : Is w v t) (hn : wCode t ≤ 1048576) : CALL Tryz.prog 15 [v] w fun r w' => Ext w w' ∧ Own w.heap.size w' r t := toCode_step h (Ext.refl w) hn
end Go.Proofs.YtjgfldfbljmhhaaGreat
