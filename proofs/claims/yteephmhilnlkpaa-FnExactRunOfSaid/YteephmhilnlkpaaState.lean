/-
  States: the program's and the reference's tests.
-/
import Derived.Test.YteephmhilnlkpaaCodeOk
namespace Go.Proofs.Yteephmhilnlkpaa
open Go Go.Sh Go.Proofs
set_option linter.unusedVariables false
set_option linter.unusedSimpArgs false

theorem CodeR.f {c : DCode} (h : CodeR c) : EntF c := h.2.1.f h.1.procs8.2
/-- impl.isPlace -/
def F77 (a0 a1 : Value) (w : World) (R : Value → World → Prop) : Prop :=
  OP Try.prog (Instr.box 35 a0) w fun x2 w =>
  RD Try.prog (bin .geq 3 (.tmp 0) (.const undef) a1 (Value.int .i64 0)) w fun x6 =>
  BR x6
  (RD Try.prog (Instr.fieldAt 35 x2 4) w fun x9 =>
  RD Try.prog (Instr.loadAt 33 x9) w fun x10 =>
  RD Try.prog (Builtin.len_ #[33] 3 [x10].toArray) w fun x11 =>
  RD Try.prog (bin .lss 3 (.tmp 0) (.tmp 0) a1 x11) w fun x12 =>
  R x12 w)
  (R (Value.bool false) w)
def cfg77 : Cfg := { ext := extL, joins := [], loops := [], draws := [], pars := [] }
theorem F77_eq (a0 a1 : Value) (w : World) (R : Value → World → Prop) : vcF Try.prog cfg77 Try.f77 [a0, a1] w R = F77 a0 a1 w R := by kernel_rfl
theorem F77_call {a0 a1 : Value} {w : World} {R : Value → World → Prop} (h : F77 a0 a1 w R) : CALL Try.prog 77 [a0, a1] w R :=
  call_of (g := cfg77) ent mixed Try.func77 (Nat.le_of_ble_eq_true (by kernel_rfl)) (by kernel_rfl) (F77_eq a0 a1 w R ▸ h)


theorem isPlace_ok {w : World} {v0 : Value} {W0 : World} {c : DCode} {a : Int}  (h0 : Is W0 v0 c) (e0 : Ext W0 w)  :
    CALL Try.prog 77 [v0, .int .i64 a] w fun r w' => Ext w w' ∧ (r = .bool (decide (0 ≤ a ∧ a < c.ins.length))) := by
  refine F77_call ?_
  unfold F77
  refine op_boxS ty35 rfl h0 e0 fun w1_ hx1_ hA2 hV2 => ?_
  refine rd_geq ?_
  refine br (fun c1 => ?_) (fun c1 => ?_)
  · refine rd_fld fd35_4 ?_
    refine rd_load ty33 (at_DCode_4 hA2) (Ext.refl w1_) fun v10 h10 => ?_
    have hln11 := is_len h10
    refine rd_len u33 h10 ?_
    refine rd_lss ?_
    refine ⟨hx1_, ?_⟩
    simp [c1]
  · refine ⟨hx1_, ?_⟩
    simp [c1]

/-- the i-th place of a stack -/
def st (l : List Int) (i : Nat) : Int := l.getD i 0
theorem st_get {l : List Int} {i : Nat} (h : i < l.length) : l[i] = st l i := by unfold st; rw [List.getD_eq_getElem?_getD, List.getElem?_eq_getElem h]; rfl
def StackR (c : DCode) (l : List Int) : Prop := l.length ≤ 8 ∧ (∀ i, i < l.length → 0 ≤ st l i ∧ st l i < c.ins.length) ∧
  ∀ i, i < l.length - 1 → (insAt c (st l i).toNat).op = 4 ∧ procOf c (st l (i + 1)) = (insAt c (st l i).toNat).arg
instance (c : DCode) (l : List Int) : Decidable (StackR c l) := by unfold StackR; infer_instance
def StateR (c : DCode) (s : DState) : Prop := s.vars.length = c.globals.length ∧ s.owner.length = c.locks.length ∧ (1 ≤ s.stacks.length ∧ s.stacks.length ≤ 6) ∧ (∀ v ∈ s.vars, 0 ≤ v ∧ v ≤ 999) ∧
  (∀ o ∈ s.owner, -1 ≤ o ∧ o < s.stacks.length) ∧ ∀ l ∈ s.stacks, StackR c l
instance (c : DCode) (s : DState) : Decidable (StateR c s) := by unfold StateR; infer_instance
theorem mem_succ {α : Type} {P : α → Prop} {l : List α} {k : Nat} (hk : k < l.length) (h : ∀ x ∈ l.take k, P x) (hp : P l[k]) : ∀ x ∈ l.take (k + 1), P x := by
  intro x hx
  rw [List.take_succ_eq_append_getElem hk] at hx
  rcases List.mem_append.1 hx with hx | hx
  · exact h x hx
  · simp only [List.mem_cons, List.not_mem_nil, or_false] at hx
    subst hx; exact hp
theorem mem_all {α : Type} {P : α → Prop} {l : List α} {k : Nat} (hk : l.length ≤ k) (h : ∀ x ∈ l.take k, P x) : ∀ x ∈ l, P x := by
  rwa [List.take_of_length_le hk] at h
end Go.Proofs.Yteephmhilnlkpaa
