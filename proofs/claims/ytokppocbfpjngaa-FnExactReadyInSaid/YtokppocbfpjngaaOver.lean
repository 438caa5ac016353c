/-
  Is all over; are two states the same.
-/
import Derived.Test.YtokppocbfpjngaaConv
namespace Go.Proofs.Ytokppocbfpjngaa
open Go Go.Sh Go.Proofs
set_option linter.unusedVariables false

def overIn (s : DState) : Prop := ∀ x ∈ s.stacks, x = []
instance (s : DState) : Decidable (overIn s) := inferInstanceAs (Decidable (∀ x ∈ s.stacks, x = []))
theorem over_not {s : DState} {i : Nat} (h : i < s.stacks.length) (c : 0 < (s.stacks[i].length : Int)) : ¬ overIn s := fun ho => by
  have := ho _ (List.getElem_mem h)
  rw [this] at c; simp at c
theorem over_step {s : DState} {k : Nat} (hk : k < s.stacks.length) (hinv : ∀ x ∈ s.stacks.take k, x = []) (c : ¬ 0 < (s.stacks[k].length : Int)) : ∀ x ∈ s.stacks.take (k + 1), x = [] := by
  intro x hx
  rw [List.take_succ_eq_append_getElem hk] at hx
  rcases List.mem_append.1 hx with hx | hx
  · exact hinv x hx
  · simp only [List.mem_cons, List.not_mem_nil, or_false] at hx
    subst hx
    exact List.eq_nil_of_length_eq_zero (by omega)
theorem over_all {s : DState} {k : Nat} (hk : s.stacks.length ≤ k) (hinv : ∀ x ∈ s.stacks.take k, x = []) : overIn s := by
  rw [List.take_of_length_le hk] at hinv; exact hinv
/-- spec.OverIn -/
def F82 (a0 : Value) (w : World) (R : Value → World → Prop) : Prop :=
  OP Try.prog (Instr.box 42 a0) w fun x1 w =>
  LOOPI [3] [(Value.int .i64 0)] w fun u2 w next2 =>
   RD Try.prog (Instr.fieldAt 42 x1 2) w fun x5 =>
   RD Try.prog (Instr.loadAt 37 x5) w fun x6 =>
   RD Try.prog (Builtin.len_ #[37] 3 [x6].toArray) w fun x7 =>
   RD Try.prog (bin .lss 3 (.tmp 0) (.tmp 0) (u2 3) x7) w fun x8 =>
   BR x8
    (RD Try.prog (Instr.fieldAt 42 x1 2) w fun x11 =>
    RD Try.prog (Instr.loadAt 37 x11) w fun x12 =>
    RD Try.prog (Instr.indexAt 37 x12 (u2 3)) w fun x14 =>
    RD Try.prog (Instr.loadAt 23 x14) w fun x15 =>
    RD Try.prog (Builtin.len_ #[23] 3 [x15].toArray) w fun x16 =>
    RD Try.prog (bin .gtr 3 (.tmp 0) (.const undef) x16 (Value.int .i64 0)) w fun x17 =>
    BR x17
     (R (Value.bool false) w)
     (RD Try.prog (bin .add 3 (.tmp 0) (.const undef) (u2 3) (Value.int .i64 1)) w fun x10 =>
     next2 [x10] w))
    (R (Value.bool true) w)
def cfg82 : Cfg := { ext := extL, joins := [], loops := [(2, 262140, [3])], draws := [], pars := [] }
theorem F82_eq (a0 : Value) (w : World) (R : Value → World → Prop) : vcF Try.prog cfg82 Try.f82 [a0] w R = F82 a0 w R := by kernel_rfl
theorem F82_call {a0 : Value} {w : World} {R : Value → World → Prop} (h : F82 a0 w R) : CALL Try.prog 82 [a0] w R :=
  call_of (g := cfg82) ent mixed Try.func82 (Nat.le_of_ble_eq_true (by kernel_rfl)) (by kernel_rfl) (F82_eq a0 w R ▸ h)


theorem specOverIn_ok {w : World} {v0 : Value} {W0 : World} {s : DState}  (h0 : Is W0 v0 s) (e0 : Ext W0 w)  :
    CALL Try.prog 82 [v0] w fun r w' => Ext w w' ∧ (r = .bool (decide (overIn s))) := by
  refine F82_call ?_
  unfold F82
  refine op_boxS ty42 rfl h0 e0 fun w1_ hx1_ hA1 hV1 => ?_
  refine loopC (s.stacks.length) (fun k us w' => us = [.int .i64 (k : Int)] ∧ Ext w1_ w' ∧ (∀ x ∈ s.stacks.take k, x = [])) (0) (by omega) ⟨by simp, Ext.refl w1_, by simp⟩ ?_
  rintro k m2 uu2 w2_ hk2 ⟨hu, hx2_, hinv⟩
  simp only [List.map_cons, List.map_nil, List.cons.injEq, and_true] at hu
  try rw [hu]
  try clear hu
  refine rd_fld fd42_2 ?_
  refine rd_load ty37 (at_DState_2 hA1) hx2_ fun v6 h6 => ?_
  have hln7 := is_len h6
  refine rd_len u37 h6 ?_
  refine rd_lss ?_
  refine br (fun c1 => ?_) (fun c1 => ?_)
  · refine rd_fld fd42_2 ?_
    refine rd_load ty37 (at_DState_2 hA1) hx2_ fun v12 h12 => ?_
    refine rd_indexN u37 ty23 h12 (by omega) fun b14 o14 h14 => ?_
    refine rd_load ty23 h14 hx2_ fun v15 h15 => ?_
    have hln16 := is_len h15
    refine rd_len u23 h15 ?_
    refine rd_gtr ?_
    refine br (fun c2 => ?_) (fun c2 => ?_)
    · refine ⟨(hx1_.trans hx2_), ?_⟩
      simp [over_not (by omega) c2]
    · refine rd_inc (by omega) ?_
      refine ⟨m2 - 1, by omega, k + 1, by omega, by simp, hx2_, ?_⟩
      exact over_step (by omega) hinv c2
  · refine ⟨(hx1_.trans hx2_), ?_⟩
    simp [over_all (by omega) hinv]

/-- impl.OverIn -/
def F85 (a0 : Value) (w : World) (R : Value → World → Prop) : Prop :=
  OP Try.prog (Instr.box 42 a0) w fun x1 w =>
  RD Try.prog (Instr.fieldAt 42 x1 2) w fun x5 =>
  RD Try.prog (Instr.loadAt 37 x5) w fun x6 =>
  RD Try.prog (Builtin.len_ #[37] 3 [x6].toArray) w fun x7 =>
  LOOPI [8] [(Value.int .i64 0)] w fun u2 w next2 =>
   RD Try.prog (bin .lss 3 (.tmp 0) (.tmp 0) (u2 8) x7) w fun x9 =>
   BR x9
    (RD Try.prog (Instr.indexAt 37 x6 (u2 8)) w fun x10 =>
    RD Try.prog (Instr.loadAt 23 x10) w fun x11 =>
    RD Try.prog (Builtin.len_ #[23] 3 [x11].toArray) w fun x13 =>
    RD Try.prog (bin .gtr 3 (.tmp 0) (.const undef) x13 (Value.int .i64 0)) w fun x14 =>
    BR x14
     (R (Value.bool false) w)
     (RD Try.prog (bin .add 3 (.tmp 0) (.const undef) (u2 8) (Value.int .i64 1)) w fun x15 =>
     next2 [x15] w))
    (R (Value.bool true) w)
def cfg85 : Cfg := { ext := extL, joins := [], loops := [(2, 65300, [8])], draws := [], pars := [] }
theorem F85_eq (a0 : Value) (w : World) (R : Value → World → Prop) : vcF Try.prog cfg85 Try.f85 [a0] w R = F85 a0 w R := by kernel_rfl
theorem F85_call {a0 : Value} {w : World} {R : Value → World → Prop} (h : F85 a0 w R) : CALL Try.prog 85 [a0] w R :=
  call_of (g := cfg85) ent mixed Try.func85 (Nat.le_of_ble_eq_true (by kernel_rfl)) (by kernel_rfl) (F85_eq a0 w R ▸ h)


theorem implOverIn_ok {w : World} {v0 : Value} {W0 : World} {s : DState}  (h0 : Is W0 v0 s) (e0 : Ext W0 w)  :
    CALL Try.prog 85 [v0] w fun r w' => Ext w w' ∧ (r = .bool (decide (overIn s))) := by
  refine F85_call ?_
  unfold F85
  refine op_boxS ty42 rfl h0 e0 fun w1_ hx1_ hA1 hV1 => ?_
  refine rd_fld fd42_2 ?_
  refine rd_load ty37 (at_DState_2 hA1) (Ext.refl w1_) fun v6 h6 => ?_
  have hln7 := is_len h6
  refine rd_len u37 h6 ?_
  refine loopC (s.stacks.length) (fun k us w' => us = [.int .i64 (k : Int)] ∧ Ext w1_ w' ∧ (∀ x ∈ s.stacks.take k, x = [])) (0) (by omega) ⟨by simp, Ext.refl w1_, by simp⟩ ?_
  rintro k m2 uu2 w2_ hk2 ⟨hu, hx2_, hinv⟩
  simp only [List.map_cons, List.map_nil, List.cons.injEq, and_true] at hu
  try rw [hu]
  try clear hu
  refine rd_lss ?_
  refine br (fun c1 => ?_) (fun c1 => ?_)
  · refine rd_indexN u37 ty23 h6 (by omega) fun b10 o10 h10 => ?_
    refine rd_load ty23 h10 hx2_ fun v11 h11 => ?_
    have hln13 := is_len h11
    refine rd_len u23 h11 ?_
    refine rd_gtr ?_
    refine br (fun c2 => ?_) (fun c2 => ?_)
    · refine ⟨(hx1_.trans hx2_), ?_⟩
      simp [over_not (by omega) c2]
    · refine rd_inc (by omega) ?_
      refine ⟨m2 - 1, by omega, k + 1, by omega, by simp, hx2_, ?_⟩
      exact over_step (by omega) hinv c2
  · refine ⟨(hx1_.trans hx2_), ?_⟩
    simp [over_all (by omega) hinv]


end Go.Proofs.Ytokppocbfpjngaa
