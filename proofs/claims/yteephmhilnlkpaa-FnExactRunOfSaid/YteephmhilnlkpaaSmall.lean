/-
  The small functions over lists of ints, lists of lists, states and races: sizes, comparisons.
-/
import Derived.Test.YteephmhilnlkpaaInts
import Derived.Test.YteephmhilnlkpaaTypes
import Derived.Test.YteephmhilnlkpaaData
namespace Go.Proofs.Yteephmhilnlkpaa
open Go Go.Sh Go.Proofs
set_option linter.unusedVariables false

theorem rd_neqB {P : Program} {w : World} {K : Value → Prop} {t : TypeId} {x y : Operand} {a b : Bool} (ht : P.underlying t = some .bool) (k : K (.bool (decide (a ≠ b)))) : RD P (bin .neq t x y (.bool a) (.bool b)) w K :=
  rd_of (fun w' _ => by
    have := run_neq_bool (P := P) w' t a b ht
    cases a <;> cases b <;> simp_all [bin, eqGuard]) k

/-- a sum over a list -/
def sm {α : Type} (f : α → Nat) (l : List α) : Nat := (l.map f).sum
theorem sm_take {α : Type} (f : α → Nat) {l : List α} {k : Nat} (h : k < l.length) : sm f (l.take (k + 1)) = sm f (l.take k) + f l[k] := by
  unfold sm
  rw [List.take_succ_eq_append_getElem h, List.map_append, List.sum_append]
  simp
theorem sm_mem {α : Type} (f : α → Nat) {l : List α} {x : α} (h : x ∈ l) : f x ≤ sm f l := by
  unfold sm
  induction l with
  | nil => cases h
  | cons y l ih =>
    rw [List.map_cons, List.sum_cons]
    rcases List.mem_cons.1 h with rfl | h
    · omega
    · have := ih h; omega
def nLL (l : List (List Int)) : Nat := sm List.length l
theorem nLL_take {l : List (List Int)} {i : Nat} (hi : i < l.length) : nLL (l.take (i + 1)) = nLL (l.take i) + l[i].length := sm_take _ hi
theorem nLL_le {l : List (List Int)} (i : Nat) : nLL (l.take i) ≤ nLL l := by
  conv => rhs; rw [← List.take_append_drop i l]
  unfold nLL sm
  rw [List.map_append, List.sum_append]
  omega
theorem nLL_mem {l : List (List Int)} {i : Nat} (hi : i < l.length) : l[i].length ≤ nLL l := sm_mem List.length (List.getElem_mem hi)
theorem eqIntS_ok2 {w w1 w2 : World} {v1 v2 : Value} {l1 l2 : List Int} (h1 : Is w1 v1 l1) (hx1 : Ext w1 w) (h2 : Is w2 v2 l2) (hx2 : Ext w2 w) :
    CALL Try.prog 10 [v1, v2] w fun r w' => Ext w w' ∧ r = .bool (decide (l1 = l2)) := eqIntS_ok h1 h2 hx1 hx2

/-- laws.eqIntSS -/
def F30 (a0 a1 : Value) (w : World) (R : Value → World → Prop) : Prop :=
  RD Try.prog (Builtin.len_ #[28] 3 [a0].toArray) w fun x7 =>
  RD Try.prog (Builtin.len_ #[28] 3 [a1].toArray) w fun x9 =>
  RD Try.prog (bin .neq 3 (.tmp 0) (.tmp 0) x7 x9) w fun x10 =>
  BR x10
   (R (Value.bool false) w)
   (LOOPI [5] [(Value.int .i64 0)] w fun u4 w next4 =>
    RD Try.prog (Builtin.len_ #[28] 3 [a0].toArray) w fun x13 =>
    RD Try.prog (bin .lss 3 (.tmp 0) (.tmp 0) (u4 5) x13) w fun x14 =>
    BR x14
     ((fun w => RD Try.prog (Instr.indexAt 28 a0 (u4 5)) w fun x19 =>
     RD Try.prog (Instr.loadAt 23 x19) w fun x20 =>
     RD Try.prog (Instr.indexAt 28 a1 (u4 5)) w fun x23 =>
     RD Try.prog (Instr.loadAt 23 x23) w fun x24 =>
     CALL Try.prog 10 [x20, x24] w fun x25 w =>
     RD Try.prog (Op.unary .not x25) w fun x26 =>
     BR x26
      (R (Value.bool false) w)
      (RD Try.prog (bin .add 3 (.tmp 0) (.const undef) (u4 5) (Value.int .i64 1)) w fun x16 =>
      next4 [x16] w)) (World.drew1 w))
     (R (Value.bool true) w))
def cfg30 : Cfg := { ext := extL, joins := [], loops := [(4, 134215728, [5])], draws := [(6, [0, 1, 2, 3, 4, 5, 6, 7, 8, 9], 0)], pars := [] }
theorem F30_eq (a0 a1 : Value) (w : World) (R : Value → World → Prop) : vcF Try.prog cfg30 Try.f30 [a0, a1] w R = F30 a0 a1 w R := by kernel_rfl
theorem F30_call {a0 a1 : Value} {w : World} {R : Value → World → Prop} (h : F30 a0 a1 w R) : CALL Try.prog 30 [a0, a1] w R :=
  call_of (g := cfg30) ent mixed Try.func30 (Nat.le_of_ble_eq_true (by kernel_rfl)) (by kernel_rfl) (F30_eq a0 a1 w R ▸ h)


theorem eqIntSS_ok {w : World} {v0 : Value} {W0 : World} {l1 : (List (List Int))} {v1 : Value} {W1 : World} {l2 : (List (List Int))}  (h0 : Is W0 v0 l1) (e0 : Ext W0 w) (h1 : Is W1 v1 l2) (e1 : Ext W1 w)  :
    CALL Try.prog 30 [v0, v1] w fun r w' => Ext w w' ∧ (r = .bool (decide (l1 = l2))) := by
  refine F30_call ?_
  unfold F30
  have hl1 := is_len h0
  have hln7 := is_len h0
  refine rd_len u28 h0 ?_
  have hln9 := is_len h1
  refine rd_len u28 h1 ?_
  refine rd_neq ?_
  refine br (fun c1 => ?_) (fun c1 => ?_)
  · refine ⟨Ext.refl w, ?_⟩
    have : l1 ≠ l2 := fun e => c1 (by rw [e])
    simp [this]
  · refine loopC (l1.length) (fun k us w' => us = [.int .i64 (k : Int)] ∧ Ext w w' ∧ (l1.take k = l2.take k)) (0) (by omega) ⟨by simp, Ext.refl w, by simp⟩ ?_
    rintro k m4 uu4 w1_ hk4 ⟨hu, hx1_, hinv⟩
    simp only [List.map_cons, List.map_nil, List.cons.injEq, and_true] at hu
    try rw [hu]
    try clear hu
    have hln13 := is_len h0
    refine rd_len u28 h0 ?_
    refine rd_lss ?_
    refine br (fun c2 => ?_) (fun c2 => ?_)
    · have hx2_ := ext_drew w1_
      refine rd_indexN u28 ty23 h0 (by omega) fun b19 o19 h19 => ?_
      refine rd_load ty23 h19 (e0.trans (hx1_.trans hx2_)) fun v20 h20 => ?_
      refine rd_indexN u28 ty23 h1 (by omega) fun b23 o23 h23 => ?_
      refine rd_load ty23 h23 (e1.trans (hx1_.trans hx2_)) fun v24 h24 => ?_
      refine (eqIntS_ok2 h20 (e0.trans (hx1_.trans hx2_)) h24 (e1.trans (hx1_.trans hx2_))).mono ?_
      rintro _ w3_ ⟨hx3_, rfl⟩
      refine rd_nodec ?_
      refine br (fun c3 => ?_) (fun c3 => ?_)
      · refine ⟨(hx1_.trans (hx2_.trans hx3_)), ?_⟩
        have : l1 ≠ l2 := fun e => c3 (by subst e; rfl)
        simp [this]
      · refine rd_inc (by omega) ?_
        refine ⟨m4 - 1, by omega, k + 1, by omega, by simp, (hx1_.trans (hx2_.trans hx3_)), ?_⟩
        rw [List.take_succ_eq_append_getElem (by omega), List.take_succ_eq_append_getElem (by omega), hinv, Decidable.not_not.1 c3]
    · refine ⟨hx1_, ?_⟩
      rw [List.take_of_length_le (by omega), List.take_of_length_le (by omega)] at hinv
      simp [hinv]


/-- laws.szIntS -/
def F18 (a0 a1 : Value) (w : World) (R : Value → World → Prop) : Prop :=
  RD Try.prog (Builtin.len_ #[23] 3 [a0].toArray) w fun x7 =>
  RD Try.prog (bin .sub 3 (.tmp 0) (.tmp 0) a1 x7) w fun x8 =>
  RD Try.prog (bin .lss 3 (.tmp 0) (.const undef) x8 (Value.int .i64 0)) w fun x10 =>
  BR x10
   (R (Value.int .i64 (-1)) w)
   (R x8 w)
def cfg18 : Cfg := { ext := extL, joins := [], loops := [], draws := [], pars := [] }
theorem F18_eq (a0 a1 : Value) (w : World) (R : Value → World → Prop) : vcF Try.prog cfg18 Try.f18 [a0, a1] w R = F18 a0 a1 w R := by kernel_rfl
theorem F18_call {a0 a1 : Value} {w : World} {R : Value → World → Prop} (h : F18 a0 a1 w R) : CALL Try.prog 18 [a0, a1] w R :=
  call_of (g := cfg18) ent mixed Try.func18 (Nat.le_of_ble_eq_true (by kernel_rfl)) (by kernel_rfl) (F18_eq a0 a1 w R ▸ h)


theorem szIntS_ok {w : World} {v0 : Value} {W0 : World} {l : (List Int)} {left : Int}  (h0 : Is W0 v0 l) (e0 : Ext W0 w) (hl0 : -1 ≤ left) (hl1 : left ≤ 1048576) :
    CALL Try.prog 18 [v0, .int .i64 left] w fun r w' => Ext w w' ∧ (∃ n : Int, r = .int .i64 n ∧ -1 ≤ n ∧ n ≤ left ∧ (0 ≤ n → n + l.length ≤ left)) := by
  refine F18_call ?_
  unfold F18
  have hl := is_len h0
  have hln7 := is_len h0
  refine rd_len u23 h0 ?_
  refine rd_sub (by unfold I64; omega) ?_
  refine rd_lss ?_
  refine br (fun c1 => ?_) (fun c1 => ?_)
  · refine ⟨Ext.refl w, ?_⟩
    exact ⟨-1, rfl, by omega, by omega, by omega⟩
  · refine ⟨Ext.refl w, ?_⟩
    exact ⟨_, rfl, by omega, by omega, by omega⟩





/-- laws.eqState -/
def F9 (a0 a1 : Value) (w : World) (R : Value → World → Prop) : Prop :=
  OP Try.prog (Instr.box 30 a0) w fun x2 w =>
  OP Try.prog (Instr.box 30 a1) w fun x3 w =>
  RD Try.prog (Instr.fieldAt 30 x2 0) w fun x5 =>
  RD Try.prog (Instr.loadAt 23 x5) w fun x6 =>
  RD Try.prog (Instr.fieldAt 30 x3 0) w fun x7 =>
  RD Try.prog (Instr.loadAt 23 x7) w fun x8 =>
  CALL Try.prog 10 [x6, x8] w fun x9 w =>
  RD Try.prog (Op.unary .not x9) w fun x10 =>
  BR x10
   (R (Value.bool false) w)
   (RD Try.prog (Instr.fieldAt 30 x2 1) w fun x11 =>
   RD Try.prog (Instr.loadAt 23 x11) w fun x12 =>
   RD Try.prog (Instr.fieldAt 30 x3 1) w fun x13 =>
   RD Try.prog (Instr.loadAt 23 x13) w fun x14 =>
   CALL Try.prog 10 [x12, x14] w fun x15 w =>
   RD Try.prog (Op.unary .not x15) w fun x16 =>
   BR x16
    (R (Value.bool false) w)
    (RD Try.prog (Instr.fieldAt 30 x2 2) w fun x17 =>
    RD Try.prog (Instr.loadAt 28 x17) w fun x18 =>
    RD Try.prog (Instr.fieldAt 30 x3 2) w fun x19 =>
    RD Try.prog (Instr.loadAt 28 x19) w fun x20 =>
    CALL Try.prog 30 [x18, x20] w fun x21 w =>
    RD Try.prog (Op.unary .not x21) w fun x22 =>
    BR x22
     (R (Value.bool false) w)
     (R (Value.bool true) w)))
def cfg9 : Cfg := { ext := extL, joins := [], loops := [], draws := [], pars := [] }
theorem F9_eq (a0 a1 : Value) (w : World) (R : Value → World → Prop) : vcF Try.prog cfg9 Try.f9 [a0, a1] w R = F9 a0 a1 w R := by kernel_rfl
theorem F9_call {a0 a1 : Value} {w : World} {R : Value → World → Prop} (h : F9 a0 a1 w R) : CALL Try.prog 9 [a0, a1] w R :=
  call_of (g := cfg9) ent mixed Try.func9 (Nat.le_of_ble_eq_true (by kernel_rfl)) (by kernel_rfl) (F9_eq a0 a1 w R ▸ h)


theorem eqState_ok {w : World} {v0 : Value} {W0 : World} {s1 : DState} {v1 : Value} {W1 : World} {s2 : DState}  (h0 : Is W0 v0 s1) (e0 : Ext W0 w) (h1 : Is W1 v1 s2) (e1 : Ext W1 w)  :
    CALL Try.prog 9 [v0, v1] w fun r w' => Ext w w' ∧ (r = .bool (decide (s1 = s2))) := by
  refine F9_call ?_
  unfold F9
  refine op_boxS ty30 rfl h0 e0 fun w1_ hx1_ hA2 hV2 => ?_
  refine op_boxS ty30 rfl h1 (e1.trans hx1_) fun w2_ hx2_ hA3 hV3 => ?_
  refine rd_fld fd30_0 ?_
  refine rd_load ty23 (at_DState_0 hA2) hx2_ fun v6 h6 => ?_
  refine rd_fld fd30_0 ?_
  refine rd_load ty23 (at_DState_0 hA3) (Ext.refl w2_) fun v8 h8 => ?_
  refine (eqIntS_ok2 h6 hx2_ h8 (Ext.refl w2_)).mono ?_
  rintro _ w3_ ⟨hx3_, rfl⟩
  refine rd_nodec ?_
  refine br (fun c1 => ?_) (fun c1 => ?_)
  · refine ⟨(hx1_.trans (hx2_.trans hx3_)), ?_⟩
    have : s1 ≠ s2 := fun e => c1 (by rw [e])
    simp [this]
  · refine rd_fld fd30_1 ?_
    refine rd_load ty23 (at_DState_1 hA2) (hx2_.trans hx3_) fun v12 h12 => ?_
    refine rd_fld fd30_1 ?_
    refine rd_load ty23 (at_DState_1 hA3) hx3_ fun v14 h14 => ?_
    refine (eqIntS_ok2 h12 (hx2_.trans hx3_) h14 hx3_).mono ?_
    rintro _ w4_ ⟨hx4_, rfl⟩
    refine rd_nodec ?_
    refine br (fun c2 => ?_) (fun c2 => ?_)
    · refine ⟨(hx1_.trans (hx2_.trans (hx3_.trans hx4_))), ?_⟩
      have : s1 ≠ s2 := fun e => c2 (by rw [e])
      simp [this]
    · refine rd_fld fd30_2 ?_
      refine rd_load ty28 (at_DState_2 hA2) (hx2_.trans (hx3_.trans hx4_)) fun v18 h18 => ?_
      refine rd_fld fd30_2 ?_
      refine rd_load ty28 (at_DState_2 hA3) (hx3_.trans hx4_) fun v20 h20 => ?_
      refine (eqIntSS_ok h18 (hx2_.trans (hx3_.trans hx4_)) h20 (hx3_.trans hx4_)).mono ?_
      rintro _ w5_ ⟨hx5_, rfl⟩
      refine rd_nodec ?_
      refine br (fun c3 => ?_) (fun c3 => ?_)
      · refine ⟨(hx1_.trans (hx2_.trans (hx3_.trans (hx4_.trans hx5_)))), ?_⟩
        have : s1 ≠ s2 := fun e => c3 (by rw [e])
        simp [this]
      · refine ⟨(hx1_.trans (hx2_.trans (hx3_.trans (hx4_.trans hx5_)))), ?_⟩
        have : s1 = s2 := by
          cases s1; cases s2
          simp only [Decidable.not_not] at c1 c2 c3
          rw [c1, c2, c3]
        simp [this]




/-- spec.l01In -/
def F62 (a0 a1 a2 : Value) (w : World) (R : Value → World → Prop) : Prop :=
  RD Try.prog (bin .geq 3 (.tmp 0) (.tmp 0) a0 a1) w fun x9 =>
  BR x9
  (RD Try.prog (bin .leq 3 (.tmp 0) (.tmp 0) a0 a2) w fun x13 =>
  R x13 w)
  (R (Value.bool false) w)
def cfg62 : Cfg := { ext := extL, joins := [], loops := [], draws := [], pars := [] }
theorem F62_eq (a0 a1 a2 : Value) (w : World) (R : Value → World → Prop) : vcF Try.prog cfg62 Try.f62 [a0, a1, a2] w R = F62 a0 a1 a2 w R := by kernel_rfl
theorem F62_call {a0 a1 a2 : Value} {w : World} {R : Value → World → Prop} (h : F62 a0 a1 a2 w R) : CALL Try.prog 62 [a0, a1, a2] w R :=
  call_of (g := cfg62) ent mixed Try.func62 (Nat.le_of_ble_eq_true (by kernel_rfl)) (by kernel_rfl) (F62_eq a0 a1 a2 w R ▸ h)


theorem l01In_ok {w : World} {a : Int} {b : Int} {c : Int}    :
    CALL Try.prog 62 [.int .i64 a, .int .i64 b, .int .i64 c] w fun r w' => Ext w w' ∧ (r = .bool (decide (b ≤ a ∧ a ≤ c))) := by
  refine F62_call ?_
  unfold F62
  refine rd_geq ?_
  refine br (fun c1 => ?_) (fun c1 => ?_)
  · refine rd_leq ?_
    refine ⟨Ext.refl w, ?_⟩
    simp [c1]
  · refine ⟨Ext.refl w, ?_⟩
    simp [c1]


/-- the last place of a thread's stack -/
def atOf (s : DState) (t : Int) : Int := if h : 0 ≤ t ∧ t.toNat < s.stacks.length then (s.stacks[t.toNat]'h.2).getLastD (-1) else -1
theorem getLastD_eq {l : List Int} (h : l ≠ []) (hi : ((l.length : Int) - 1).toNat < l.length) : l[((l.length : Int) - 1).toNat]'hi = l.getLastD (-1) := by
  have e : ((l.length : Int) - 1).toNat = l.length - 1 := by omega
  simp only [e]
  rw [List.getLastD_eq_getLast?, List.getLast?_eq_getElem?, List.getElem?_eq_getElem (by omega)]
  rfl
/-- spec.AtOf -/
def F66 (a0 a1 : Value) (w : World) (R : Value → World → Prop) : Prop :=
  OP Try.prog (Instr.box 30 a0) w fun x2 w =>
  RD Try.prog (Instr.fieldAt 30 x2 2) w fun x6 =>
  RD Try.prog (Instr.loadAt 28 x6) w fun x7 =>
  RD Try.prog (Builtin.len_ #[28] 3 [x7].toArray) w fun x8 =>
  RD Try.prog (bin .sub 3 (.tmp 0) (.const undef) x8 (Value.int .i64 1)) w fun x9 =>
  CALL Try.prog 62 [a1, (Value.int .i64 0), x9] w fun x10 w =>
  RD Try.prog (Op.unary .not x10) w fun x11 =>
  BR x11
  (R (Value.int .i64 (-1)) w)
  (RD Try.prog (Instr.fieldAt 30 x2 2) w fun x13 =>
  RD Try.prog (Instr.loadAt 28 x13) w fun x14 =>
  RD Try.prog (Instr.indexAt 28 x14 a1) w fun x16 =>
  RD Try.prog (Instr.loadAt 23 x16) w fun x17 =>
  RD Try.prog (Builtin.len_ #[23] 3 [x17].toArray) w fun x18 =>
  RD Try.prog (bin .eql 3 (.tmp 0) (.const undef) x18 (Value.int .i64 0)) w fun x19 =>
  BR x19
   (R (Value.int .i64 (-1)) w)
   ((fun w => RD Try.prog (Instr.fieldAt 30 x2 2) w fun x21 =>
   RD Try.prog (Instr.loadAt 28 x21) w fun x22 =>
   RD Try.prog (Instr.indexAt 28 x22 a1) w fun x24 =>
   RD Try.prog (Instr.loadAt 23 x24) w fun x25 =>
   RD Try.prog (Instr.fieldAt 30 x2 2) w fun x26 =>
   RD Try.prog (Instr.loadAt 28 x26) w fun x27 =>
   RD Try.prog (Instr.indexAt 28 x27 a1) w fun x29 =>
   RD Try.prog (Instr.loadAt 23 x29) w fun x30 =>
   RD Try.prog (Builtin.len_ #[23] 3 [x30].toArray) w fun x31 =>
   RD Try.prog (bin .sub 3 (.tmp 0) (.const undef) x31 (Value.int .i64 1)) w fun x32 =>
   RD Try.prog (Instr.indexAt 23 x25 x32) w fun x33 =>
   RD Try.prog (Instr.loadAt 3 x33) w fun x34 =>
   R x34 w) (World.drew1 w)))
def cfg66 : Cfg := { ext := extL, joins := [], loops := [], draws := [(3, [0, 1, 2, 3, 4, 5, 6, 7, 8, 9, 10, 11, 12, 13, 14], 0)], pars := [] }
theorem F66_eq (a0 a1 : Value) (w : World) (R : Value → World → Prop) : vcF Try.prog cfg66 Try.f66 [a0, a1] w R = F66 a0 a1 w R := by kernel_rfl
theorem F66_call {a0 a1 : Value} {w : World} {R : Value → World → Prop} (h : F66 a0 a1 w R) : CALL Try.prog 66 [a0, a1] w R :=
  call_of (g := cfg66) ent mixed Try.func66 (Nat.le_of_ble_eq_true (by kernel_rfl)) (by kernel_rfl) (F66_eq a0 a1 w R ▸ h)


theorem specAtOf_ok {w : World} {v0 : Value} {W0 : World} {s : DState} {t : Int}  (h0 : Is W0 v0 s) (e0 : Ext W0 w)  :
    CALL Try.prog 66 [v0, .int .i64 t] w fun r w' => Ext w w' ∧ (r = .int .i64 (atOf s t)) := by
  refine F66_call ?_
  unfold F66
  refine op_boxS ty30 rfl h0 e0 fun w1_ hx1_ hA2 hV2 => ?_
  refine rd_fld fd30_2 ?_
  refine rd_load ty28 (at_DState_2 hA2) (Ext.refl w1_) fun v7 h7 => ?_
  have hln8 := is_len h7
  refine rd_len u28 h7 ?_
  refine rd_sub (by unfold I64; omega) ?_
  refine (l01In_ok ).mono ?_
  rintro _ w2_ ⟨hx2_, rfl⟩
  refine rd_nodec ?_
  refine br (fun c1 => ?_) (fun c1 => ?_)
  · refine ⟨(hx1_.trans hx2_), ?_⟩
    unfold atOf
    rw [dif_neg (by omega)]
  · refine rd_fld fd30_2 ?_
    refine rd_load ty28 (at_DState_2 hA2) hx2_ fun v14 h14 => ?_
    refine rd_index u28 ty23 h14 (by omega) (by omega) fun b16 o16 h16 => ?_
    refine rd_load ty23 h16 hx2_ fun v17 h17 => ?_
    have hln18 := is_len h17
    refine rd_len u23 h17 ?_
    refine rd_eql ?_
    refine br (fun c2 => ?_) (fun c2 => ?_)
    · refine ⟨(hx1_.trans hx2_), ?_⟩
      unfold atOf
      rw [dif_pos (by omega)]
      have : s.stacks[t.toNat]'(by omega) = [] := List.eq_nil_of_length_eq_zero (by omega)
      rw [this]; rfl
    · have hx3_ := ext_drew w2_
      refine rd_fld fd30_2 ?_
      refine rd_load ty28 (at_DState_2 hA2) (hx2_.trans hx3_) fun v22 h22 => ?_
      refine rd_index u28 ty23 h22 (by omega) (by omega) fun b24 o24 h24 => ?_
      refine rd_load ty23 h24 (hx2_.trans hx3_) fun v25 h25 => ?_
      refine rd_fld fd30_2 ?_
      refine rd_load ty28 (at_DState_2 hA2) (hx2_.trans hx3_) fun v27 h27 => ?_
      refine rd_index u28 ty23 h27 (by omega) (by omega) fun b29 o29 h29 => ?_
      refine rd_load ty23 h29 (hx2_.trans hx3_) fun v30 h30 => ?_
      have hln31 := is_len h30
      refine rd_len u23 h30 ?_
      refine rd_sub (by unfold I64; omega) ?_
      refine rd_index u23 ty3 h25 (by omega) (by omega) fun b33 o33 h33 => ?_
      refine rd_loadI ty3 h33 (hx2_.trans hx3_) fun hI34 => ?_
      refine ⟨(hx1_.trans (hx2_.trans hx3_)), ?_⟩
      unfold atOf
      rw [dif_pos (by omega)]
      rw [getLastD_eq (fun e => by rw [e] at c2; simp at c2)]

/-- impl.AtOf -/
def F76 (a0 a1 : Value) (w : World) (R : Value → World → Prop) : Prop :=
  OP Try.prog (Instr.box 30 a0) w fun x2 w =>
  RD Try.prog (bin .lss 3 (.tmp 0) (.const undef) a1 (Value.int .i64 0)) w fun x6 =>
  BR x6
  (R (Value.int .i64 (-1)) w)
  (RD Try.prog (Instr.fieldAt 30 x2 2) w fun x9 =>
  RD Try.prog (Instr.loadAt 28 x9) w fun x10 =>
  RD Try.prog (Builtin.len_ #[28] 3 [x10].toArray) w fun x11 =>
  RD Try.prog (bin .geq 3 (.tmp 0) (.tmp 0) a1 x11) w fun x12 =>
  BR x12
  (R (Value.int .i64 (-1)) w)
  (RD Try.prog (Instr.fieldAt 30 x2 2) w fun x15 =>
  RD Try.prog (Instr.loadAt 28 x15) w fun x16 =>
  RD Try.prog (Instr.indexAt 28 x16 a1) w fun x18 =>
  RD Try.prog (Instr.loadAt 23 x18) w fun x19 =>
  RD Try.prog (Builtin.len_ #[23] 3 [x19].toArray) w fun x20 =>
  RD Try.prog (bin .eql 3 (.tmp 0) (.const undef) x20 (Value.int .i64 0)) w fun x21 =>
  BR x21
   (R (Value.int .i64 (-1)) w)
   ((fun w => RD Try.prog (Instr.fieldAt 30 x2 2) w fun x23 =>
   RD Try.prog (Instr.loadAt 28 x23) w fun x24 =>
   RD Try.prog (Instr.indexAt 28 x24 a1) w fun x26 =>
   RD Try.prog (Instr.loadAt 23 x26) w fun x27 =>
   RD Try.prog (Instr.fieldAt 30 x2 2) w fun x28 =>
   RD Try.prog (Instr.loadAt 28 x28) w fun x29 =>
   RD Try.prog (Instr.indexAt 28 x29 a1) w fun x31 =>
   RD Try.prog (Instr.loadAt 23 x31) w fun x32 =>
   RD Try.prog (Builtin.len_ #[23] 3 [x32].toArray) w fun x33 =>
   RD Try.prog (bin .sub 3 (.tmp 0) (.const undef) x33 (Value.int .i64 1)) w fun x34 =>
   RD Try.prog (Instr.indexAt 23 x27 x34) w fun x35 =>
   RD Try.prog (Instr.loadAt 3 x35) w fun x36 =>
   R x36 w) (World.drew1 w))))
def cfg76 : Cfg := { ext := extL, joins := [], loops := [], draws := [(3, [0, 1, 2, 3, 4, 5, 6, 7, 8, 9, 10, 11, 12, 13, 14], 0)], pars := [] }
theorem F76_eq (a0 a1 : Value) (w : World) (R : Value → World → Prop) : vcF Try.prog cfg76 Try.f76 [a0, a1] w R = F76 a0 a1 w R := by kernel_rfl
theorem F76_call {a0 a1 : Value} {w : World} {R : Value → World → Prop} (h : F76 a0 a1 w R) : CALL Try.prog 76 [a0, a1] w R :=
  call_of (g := cfg76) ent mixed Try.func76 (Nat.le_of_ble_eq_true (by kernel_rfl)) (by kernel_rfl) (F76_eq a0 a1 w R ▸ h)


theorem implAtOf_ok {w : World} {v0 : Value} {W0 : World} {s : DState} {t : Int}  (h0 : Is W0 v0 s) (e0 : Ext W0 w)  :
    CALL Try.prog 76 [v0, .int .i64 t] w fun r w' => Ext w w' ∧ (r = .int .i64 (atOf s t)) := by
  refine F76_call ?_
  unfold F76
  refine op_boxS ty30 rfl h0 e0 fun w1_ hx1_ hA2 hV2 => ?_
  refine rd_lss ?_
  refine br (fun c1 => ?_) (fun c1 => ?_)
  · refine ⟨hx1_, ?_⟩
    unfold atOf
    rw [dif_neg (by omega)]
  · refine rd_fld fd30_2 ?_
    refine rd_load ty28 (at_DState_2 hA2) (Ext.refl w1_) fun v10 h10 => ?_
    have hln11 := is_len h10
    refine rd_len u28 h10 ?_
    refine rd_geq ?_
    refine br (fun c2 => ?_) (fun c2 => ?_)
    · refine ⟨hx1_, ?_⟩
      unfold atOf
      rw [dif_neg (by omega)]
    · refine rd_fld fd30_2 ?_
      refine rd_load ty28 (at_DState_2 hA2) (Ext.refl w1_) fun v16 h16 => ?_
      refine rd_index u28 ty23 h16 (by omega) (by omega) fun b18 o18 h18 => ?_
      refine rd_load ty23 h18 (Ext.refl w1_) fun v19 h19 => ?_
      have hln20 := is_len h19
      refine rd_len u23 h19 ?_
      refine rd_eql ?_
      refine br (fun c3 => ?_) (fun c3 => ?_)
      · refine ⟨hx1_, ?_⟩
        unfold atOf
        rw [dif_pos (by omega)]
        have : s.stacks[t.toNat]'(by omega) = [] := List.eq_nil_of_length_eq_zero (by omega)
        rw [this]; rfl
      · have hx2_ := ext_drew w1_
        refine rd_fld fd30_2 ?_
        refine rd_load ty28 (at_DState_2 hA2) hx2_ fun v24 h24 => ?_
        refine rd_index u28 ty23 h24 (by omega) (by omega) fun b26 o26 h26 => ?_
        refine rd_load ty23 h26 hx2_ fun v27 h27 => ?_
        refine rd_fld fd30_2 ?_
        refine rd_load ty28 (at_DState_2 hA2) hx2_ fun v29 h29 => ?_
        refine rd_index u28 ty23 h29 (by omega) (by omega) fun b31 o31 h31 => ?_
        refine rd_load ty23 h31 hx2_ fun v32 h32 => ?_
        have hln33 := is_len h32
        refine rd_len u23 h32 ?_
        refine rd_sub (by unfold I64; omega) ?_
        refine rd_index u23 ty3 h27 (by omega) (by omega) fun b35 o35 h35 => ?_
        refine rd_loadI ty3 h35 hx2_ fun hI36 => ?_
        refine ⟨(hx1_.trans hx2_), ?_⟩
        unfold atOf
        rw [dif_pos (by omega)]
        rw [getLastD_eq (fun e => by rw [e] at c3; simp at c3)]


end Go.Proofs.Yteephmhilnlkpaa
