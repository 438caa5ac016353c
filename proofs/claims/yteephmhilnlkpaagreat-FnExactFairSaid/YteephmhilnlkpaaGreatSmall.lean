/-
  The small functions over lists of ints, lists of lists, states and races: sizes, comparisons.
-/
import Derived.Test.YteephmhilnlkpaaGreatInts
import Derived.Test.YteephmhilnlkpaaGreatTypes
import Derived.Test.YteephmhilnlkpaaGreatData
namespace Go.Proofs.YteephmhilnlkpaaGreat
open Go Go.Sh Go.Proofs
set_option linter.unusedVariables false

theorem rd_neqB {P : Program} {w : World} {K : Value → Prop} {t : TypeId} {x y : Operand} {a b : Bool} (ht : P.underlying t = some .bool) (k : K (.bool (decide (a ≠ b)))) : RD P (bin .neq t x y (.bool a) (.bool b)) w K :=
  rd_of (fun w' _ => by
    have := run_neq_bool (P := P) w' t a b ht
    cases a <;> cases b <;> simp_all [bin, eqGuard]) k

/-- a sum over a list -/
def sm {α : Type} (f : α → Nat) (l : List α) : Nat := (l.map f).sum
theorem sm_take {α : Type} (f : α → Nat) {l : List α} {k : Nat} (h : k < l.length) : sm f (l.take (k + 1)) = sm f (l.take k) + f l[k] := by
  unfold sm
  rw [List.take_succ_eq_append_getElem h, List.map_append, List.sum_append]
  simp
theorem sm_mem {α : Type} (f : α → Nat) {l : List α} {x : α} (h : x ∈ l) : f x ≤ sm f l := by
  unfold sm
  induction l with
  | nil => cases h
  | cons y l ih =>
    rw [List.map_cons, List.sum_cons]
    rcases List.mem_cons.1 h with rfl | h
    · omega
    · have := ih h; omega
def nLL (l : List (List Int)) : Nat := sm List.length l
theorem nLL_take {l : List (List Int)} {i : Nat} (hi : i < l.length) : nLL (l.take (i + 1)) = nLL (l.take i) + l[i].length := sm_take _ hi
theorem nLL_le {l : List (List Int)} (i : Nat) : nLL (l.take i) ≤ nLL l := by
  conv => rhs; rw [← List.take_append_drop i l]
  unfold nLL sm
  rw [List.map_append, List.sum_append]
  omega
theorem nLL_mem {l : List (List Int)} {i : Nat} (hi : i < l.length) : l[i].length ≤ nLL l := sm_mem List.length (List.getElem_mem hi)
theorem eqIntS_ok2 {w w1 w2 : World} {v1 v2 : Value} {l1 l2 : List Int} (h1 : Is w1 v1 l1) (hx1 : Ext w1 w) (h2 : Is w2 v2 l2) (hx2 : Ext w2 w) :
    CALL Tryz.prog 32 [v1, v2] w fun r w' => Ext w w' ∧ r = .bool (decide (l1 = l2)) := eqIntS_ok h1 h2 hx1 hx2

/-- laws.eqIntSS -/
def F58 (a0 a1 : Value) (w : World) (R : Value → World → Prop) : Prop :=
  RD Tryz.prog (Builtin.len_ #[27] 3 [a0].toArray) w fun x7 =>
  RD Tryz.prog (Builtin.len_ #[27] 3 [a1].toArray) w fun x9 =>
  RD Tryz.prog (bin .neq 3 (.tmp 0) (.tmp 0) x7 x9) w fun x10 =>
  BR x10
   (R (Value.bool false) w)
   (LOOPI [5] [(Value.int .i64 0)] w fun u4 w next4 =>
    RD Tryz.prog (Builtin.len_ #[27] 3 [a0].toArray) w fun x13 =>
    RD Tryz.prog (bin .lss 3 (.tmp 0) (.tmp 0) (u4 5) x13) w fun x14 =>
    BR x14
     ((fun w => RD Tryz.prog (Instr.indexAt 27 a0 (u4 5)) w fun x19 =>
     RD Tryz.prog (Instr.loadAt 23 x19) w fun x20 =>
     RD Tryz.prog (Instr.indexAt 27 a1 (u4 5)) w fun x23 =>
     RD Tryz.prog (Instr.loadAt 23 x23) w fun x24 =>
     CALL Tryz.prog 32 [x20, x24] w fun x25 w =>
     RD Tryz.prog (Op.unary .not x25) w fun x26 =>
     BR x26
      (R (Value.bool false) w)
      (RD Tryz.prog (bin .add 3 (.tmp 0) (.const undef) (u4 5) (Value.int .i64 1)) w fun x16 =>
      next4 [x16] w)) (World.drew1 w))
     (R (Value.bool true) w))
def cfg58 : Cfg := { ext := extL, joins := [], loops := [(4, 134215728, [5])], draws := [(6, [0, 1, 2, 3, 4, 5, 6, 7, 8, 9], 0)], pars := [] }
theorem F58_eq (a0 a1 : Value) (w : World) (R : Value → World → Prop) : vcF Tryz.prog cfg58 Tryz.f58 [a0, a1] w R = F58 a0 a1 w R := by kernel_rfl
theorem F58_call {a0 a1 : Value} {w : World} {R : Value → World → Prop} (h : F58 a0 a1 w R) : CALL Tryz.prog 58 [a0, a1] w R :=
  call_of (g := cfg58) ent mixed Tryz.func58 (Nat.le_of_ble_eq_true (by kernel_rfl)) (by kernel_rfl) (F58_eq a0 a1 w R ▸ h)


theorem eqIntSS_ok {w : World} {v0 : Value} {W0 : World} {l1 : (List (List Int))} {v1 : Value} {W1 : World} {l2 : (List (List Int))}  (h0 : Is W0 v0 l1) (e0 : Ext W0 w) (h1 : Is W1 v1 l2) (e1 : Ext W1 w)  :
    CALL Tryz.prog 58 [v0, v1] w fun r w' => Ext w w' ∧ (r = .bool (decide (l1 = l2))) := by
  refine F58_call ?_
  unfold F58
  have hl1 := is_len h0
  have hln7 := is_len h0
  refine rd_len u27 h0 ?_
  have hln9 := is_len h1
  refine rd_len u27 h1 ?_
  refine rd_neq ?_
  refine br (fun c1 => ?_) (fun c1 => ?_)
  · refine ⟨Ext.refl w, ?_⟩
    have : l1 ≠ l2 := fun e => c1 (by rw [e])
    simp [this]
  · refine loopC (l1.length) (fun k us w' => us = [.int .i64 (k : Int)] ∧ Ext w w' ∧ (l1.take k = l2.take k)) (0) (by omega) ⟨by simp, Ext.refl w, by simp⟩ ?_
    rintro k m4 uu4 w1_ hk4 ⟨hu, hx1_, hinv⟩
    simp only [List.map_cons, List.map_nil, List.cons.injEq, and_true] at hu
    try rw [hu]
    try clear hu
    have hln13 := is_len h0
    refine rd_len u27 h0 ?_
    refine rd_lss ?_
    refine br (fun c2 => ?_) (fun c2 => ?_)
    · have hx2_ := ext_drew w1_
      refine rd_indexN u27 ty23 h0 (by omega) fun b19 o19 h19 => ?_
      refine rd_load ty23 h19 (e0.trans (hx1_.trans hx2_)) fun v20 h20 => ?_
      refine rd_indexN u27 ty23 h1 (by omega) fun b23 o23 h23 => ?_
      refine rd_load ty23 h23 (e1.trans (hx1_.trans hx2_)) fun v24 h24 => ?_
      refine (eqIntS_ok2 h20 (e0.trans (hx1_.trans hx2_)) h24 (e1.trans (hx1_.trans hx2_))).mono ?_
      rintro _ w3_ ⟨hx3_, rfl⟩
      refine rd_nodec ?_
      refine br (fun c3 => ?_) (fun c3 => ?_)
      · refine ⟨(hx1_.trans (hx2_.trans hx3_)), ?_⟩
        have : l1 ≠ l2 := fun e => c3 (by subst e; rfl)
        simp [this]
      · refine rd_inc (by omega) ?_
        refine ⟨m4 - 1, by omega, k + 1, by omega, by simp, (hx1_.trans (hx2_.trans hx3_)), ?_⟩
        rw [List.take_succ_eq_append_getElem (by omega), List.take_succ_eq_append_getElem (by omega), hinv, Decidable.not_not.1 c3]
    · refine ⟨hx1_, ?_⟩
      rw [List.take_of_length_le (by omega), List.take_of_length_le (by omega)] at hinv
      simp [hinv]


/-- laws.szIntS -/
def F62 (a0 a1 : Value) (w : World) (R : Value → World → Prop) : Prop :=
  RD Tryz.prog (Builtin.len_ #[23] 3 [a0].toArray) w fun x7 =>
  RD Tryz.prog (bin .sub 3 (.tmp 0) (.tmp 0) a1 x7) w fun x8 =>
  RD Tryz.prog (bin .lss 3 (.tmp 0) (.const undef) x8 (Value.int .i64 0)) w fun x10 =>
  BR x10
   (R (Value.int .i64 (-1)) w)
   (R x8 w)
def cfg62 : Cfg := { ext := extL, joins := [], loops := [], draws := [], pars := [] }
theorem F62_eq (a0 a1 : Value) (w : World) (R : Value → World → Prop) : vcF Tryz.prog cfg62 Tryz.f62 [a0, a1] w R = F62 a0 a1 w R := by kernel_rfl
theorem F62_call {a0 a1 : Value} {w : World} {R : Value → World → Prop} (h : F62 a0 a1 w R) : CALL Tryz.prog 62 [a0, a1] w R :=
  call_of (g := cfg62) ent mixed Tryz.func62 (Nat.le_of_ble_eq_true (by kernel_rfl)) (by kernel_rfl) (F62_eq a0 a1 w R ▸ h)


theorem szIntS_ok {w : World} {v0 : Value} {W0 : World} {l : (List Int)} {left : Int}  (h0 : Is W0 v0 l) (e0 : Ext W0 w) (hl0 : -1 ≤ left) (hl1 : left ≤ 1048576) :
    CALL Tryz.prog 62 [v0, .int .i64 left] w fun r w' => Ext w w' ∧ (∃ n : Int, r = .int .i64 n ∧ -1 ≤ n ∧ n ≤ left ∧ (0 ≤ n → n + l.length ≤ left)) := by
  refine F62_call ?_
  unfold F62
  have hl := is_len h0
  have hln7 := is_len h0
  refine rd_len u23 h0 ?_
  refine rd_sub (by unfold I64; omega) ?_
  refine rd_lss ?_
  refine br (fun c1 => ?_) (fun c1 => ?_)
  · refine ⟨Ext.refl w, ?_⟩
    exact ⟨-1, rfl, by omega, by omega, by omega⟩
  · refine ⟨Ext.refl w, ?_⟩
    exact ⟨_, rfl, by omega, by omega, by omega⟩


/-- laws.szIntSS -/
def F64 (a0 a1 : Value) (w : World) (R : Value → World → Prop) : Prop :=
  RD Tryz.prog (Builtin.len_ #[27] 3 [a0].toArray) w fun x8 =>
  RD Tryz.prog (bin .sub 3 (.tmp 0) (.tmp 0) a1 x8) w fun x9 =>
  RD Tryz.prog (bin .lss 3 (.tmp 0) (.const undef) x9 (Value.int .i64 0)) w fun x11 =>
  BR x11
   (R (Value.int .i64 (-1)) w)
   (LOOPI [1, 5] [x9, (Value.int .i64 0)] w fun u5 w next5 =>
    RD Tryz.prog (Builtin.len_ #[27] 3 [a0].toArray) w fun x14 =>
    RD Tryz.prog (bin .lss 3 (.tmp 0) (.tmp 0) (u5 5) x14) w fun x15 =>
    BR x15
     (RD Tryz.prog (Instr.indexAt 27 a0 (u5 5)) w fun x20 =>
     RD Tryz.prog (Instr.loadAt 23 x20) w fun x21 =>
     CALL Tryz.prog 62 [x21, (u5 1)] w fun x23 w =>
     RD Tryz.prog (bin .lss 3 (.tmp 0) (.const undef) x23 (Value.int .i64 0)) w fun x25 =>
     BR x25
      (R (Value.int .i64 (-1)) w)
      (RD Tryz.prog (bin .add 3 (.tmp 0) (.const undef) (u5 5) (Value.int .i64 1)) w fun x17 =>
      next5 [x23, x17] w))
     (R (u5 1) w))
def cfg64 : Cfg := { ext := extL, joins := [], loops := [(5, 67104818, [1, 5])], draws := [], pars := [] }
theorem F64_eq (a0 a1 : Value) (w : World) (R : Value → World → Prop) : vcF Tryz.prog cfg64 Tryz.f64 [a0, a1] w R = F64 a0 a1 w R := by kernel_rfl
theorem F64_call {a0 a1 : Value} {w : World} {R : Value → World → Prop} (h : F64 a0 a1 w R) : CALL Tryz.prog 64 [a0, a1] w R :=
  call_of (g := cfg64) ent mixed Tryz.func64 (Nat.le_of_ble_eq_true (by kernel_rfl)) (by kernel_rfl) (F64_eq a0 a1 w R ▸ h)


theorem szIntSS_ok {w : World} {v0 : Value} {W0 : World} {l : (List (List Int))} {left : Int}  (h0 : Is W0 v0 l) (e0 : Ext W0 w) (hl0 : -1 ≤ left) (hl1 : left ≤ 1048576) :
    CALL Tryz.prog 64 [v0, .int .i64 left] w fun r w' => Ext w w' ∧ (∃ n : Int, r = .int .i64 n ∧ -1 ≤ n ∧ n ≤ left ∧ (0 ≤ n → l.length ≤ left ∧ (∀ x ∈ l, (x.length : Int) ≤ left) ∧ n + l.length + nLL l ≤ left)) := by
  refine F64_call ?_
  unfold F64
  have hl := is_len h0
  have hln8 := is_len h0
  refine rd_len u27 h0 ?_
  refine rd_sub (by unfold I64; omega) ?_
  refine rd_lss ?_
  refine br (fun c1 => ?_) (fun c1 => ?_)
  · refine ⟨Ext.refl w, ?_⟩
    exact ⟨-1, rfl, by omega, by omega, by omega⟩
  · refine loopC (l.length) (fun k us w' => ∃ q : Int, us = [.int .i64 q, .int .i64 (k : Int)] ∧ Ext w w' ∧ (0 ≤ q ∧ q ≤ left ∧ (∀ x ∈ l.take k, (x.length : Int) ≤ left) ∧ q + l.length + nLL (l.take k) ≤ left)) (0) (by omega) ⟨left - l.length, by simp, Ext.refl w, by omega, by omega, by simp, by simp [nLL, sm]⟩ ?_
    rintro k m5 uu5 w1_ hk5 ⟨q, hu, hx1_, hq0, hq1, hq2, hq3⟩
    simp only [List.map_cons, List.map_nil, List.cons.injEq, and_true] at hu
    obtain ⟨hu0, hu1⟩ := hu
    try rw [hu0]
    try rw [hu1]
    try clear hu0 hu1
    have hln14 := is_len h0
    refine rd_len u27 h0 ?_
    refine rd_lss ?_
    refine br (fun c2 => ?_) (fun c2 => ?_)
    · refine rd_indexN u27 ty23 h0 (by omega) fun b20 o20 h20 => ?_
      refine rd_load ty23 h20 (e0.trans hx1_) fun v21 h21 => ?_
      refine (szIntS_ok h21 (e0.trans hx1_) (by omega) (by omega)).mono ?_
      rintro _ w2_ ⟨hx2_, n23, rfl, hn23⟩
      refine rd_lss ?_
      refine br (fun c3 => ?_) (fun c3 => ?_)
      · refine ⟨(hx1_.trans hx2_), ?_⟩
        exact ⟨-1, rfl, by omega, by omega, by omega⟩
      · refine rd_inc (by omega) ?_
        refine ⟨m5 - 1, by omega, k + 1, by omega, n23, by simp, (hx1_.trans hx2_), ?_⟩
        refine ⟨by omega, by omega, fun x hx => ?_, by rw [nLL_take (by omega)]; have := hn23.2.2 (by omega); omega⟩
        rw [List.take_succ_eq_append_getElem (by omega)] at hx
        rcases List.mem_append.1 hx with hx | hx
        · exact hq2 x hx
        · simp only [List.mem_cons, List.not_mem_nil, or_false] at hx
          subst hx
          have := hn23.2.2 (by omega)
          omega
    · refine ⟨hx1_, ?_⟩
      rw [List.take_of_length_le (by omega)] at hq2 hq3
      exact ⟨q, rfl, by omega, by omega, fun _ => ⟨by omega, hq2, hq3⟩⟩


/-- laws.szState -/
def F15 (a0 a1 : Value) (w : World) (R : Value → World → Prop) : Prop :=
  OP Tryz.prog (Instr.box 29 a0) w fun x2 w =>
  RD Tryz.prog (Instr.fieldAt 29 x2 0) w fun x5 =>
  RD Tryz.prog (Instr.loadAt 23 x5) w fun x6 =>
  CALL Tryz.prog 62 [x6, a1] w fun x8 w =>
  RD Tryz.prog (bin .lss 3 (.tmp 0) (.const undef) x8 (Value.int .i64 0)) w fun x10 =>
  BR x10
   (R (Value.int .i64 (-1)) w)
   (RD Tryz.prog (Instr.fieldAt 29 x2 1) w fun x11 =>
   RD Tryz.prog (Instr.loadAt 23 x11) w fun x12 =>
   CALL Tryz.prog 62 [x12, x8] w fun x14 w =>
   RD Tryz.prog (bin .lss 3 (.tmp 0) (.const undef) x14 (Value.int .i64 0)) w fun x16 =>
   BR x16
    (R (Value.int .i64 (-1)) w)
    (RD Tryz.prog (Instr.fieldAt 29 x2 2) w fun x17 =>
    RD Tryz.prog (Instr.loadAt 27 x17) w fun x18 =>
    CALL Tryz.prog 64 [x18, x14] w fun x20 w =>
    RD Tryz.prog (bin .lss 3 (.tmp 0) (.const undef) x20 (Value.int .i64 0)) w fun x22 =>
    BR x22
     (R (Value.int .i64 (-1)) w)
     (R x20 w)))
def cfg15 : Cfg := { ext := extL, joins := [], loops := [], draws := [], pars := [] }
theorem F15_eq (a0 a1 : Value) (w : World) (R : Value → World → Prop) : vcF Tryz.prog cfg15 Tryz.f15 [a0, a1] w R = F15 a0 a1 w R := by kernel_rfl
theorem F15_call {a0 a1 : Value} {w : World} {R : Value → World → Prop} (h : F15 a0 a1 w R) : CALL Tryz.prog 15 [a0, a1] w R :=
  call_of (g := cfg15) ent mixed Tryz.func15 (Nat.le_of_ble_eq_true (by kernel_rfl)) (by kernel_rfl) (F15_eq a0 a1 w R ▸ h)


theorem szState_ok {w : World} {v0 : Value} {W0 : World} {s : DState} {left : Int}  (h0 : Is W0 v0 s) (e0 : Ext W0 w) (hl0 : -1 ≤ left) (hl1 : left ≤ 1048576) :
    CALL Tryz.prog 15 [v0, .int .i64 left] w fun r w' => Ext w w' ∧ (∃ n : Int, r = .int .i64 n ∧ -1 ≤ n ∧ n ≤ left ∧ (0 ≤ n → (s.vars.length : Int) ≤ left ∧ (s.owner.length : Int) ≤ left ∧ (s.stacks.length : Int) ≤ left ∧ (∀ x ∈ s.stacks, (x.length : Int) ≤ left) ∧ n + s.vars.length + s.owner.length + s.stacks.length + nLL s.stacks ≤ left)) := by
  refine F15_call ?_
  unfold F15
  refine op_boxS ty29 rfl h0 e0 fun w1_ hx1_ hA2 hV2 => ?_
  refine rd_fld fd29_0 ?_
  refine rd_load ty23 (at_DState_0 hA2) (Ext.refl w1_) fun v6 h6 => ?_
  refine (szIntS_ok h6 (Ext.refl w1_) (by omega) (by omega)).mono ?_
  rintro _ w2_ ⟨hx2_, n8, rfl, hn8⟩
  refine rd_lss ?_
  refine br (fun c1 => ?_) (fun c1 => ?_)
  · refine ⟨(hx1_.trans hx2_), ?_⟩
    exact ⟨-1, rfl, by omega, by omega, by omega⟩
  · refine rd_fld fd29_1 ?_
    refine rd_load ty23 (at_DState_1 hA2) hx2_ fun v12 h12 => ?_
    refine (szIntS_ok h12 hx2_ (by omega) (by omega)).mono ?_
    rintro _ w3_ ⟨hx3_, n14, rfl, hn14⟩
    refine rd_lss ?_
    refine br (fun c2 => ?_) (fun c2 => ?_)
    · refine ⟨(hx1_.trans (hx2_.trans hx3_)), ?_⟩
      exact ⟨-1, rfl, by omega, by omega, by omega⟩
    · refine rd_fld fd29_2 ?_
      refine rd_load ty27 (at_DState_2 hA2) (hx2_.trans hx3_) fun v18 h18 => ?_
      refine (szIntSS_ok h18 (hx2_.trans hx3_) (by omega) (by omega)).mono ?_
      rintro _ w4_ ⟨hx4_, n20, rfl, hn20⟩
      refine rd_lss ?_
      refine br (fun c3 => ?_) (fun c3 => ?_)
      · refine ⟨(hx1_.trans (hx2_.trans (hx3_.trans hx4_))), ?_⟩
        exact ⟨-1, rfl, by omega, by omega, by omega⟩
      · refine ⟨(hx1_.trans (hx2_.trans (hx3_.trans hx4_))), ?_⟩
        obtain ⟨hA1, hA2, hA3⟩ := hn8
        obtain ⟨hB1, hB2, hB3⟩ := hn14
        obtain ⟨hC1, hC2, hC3⟩ := hn20
        have h1 := hA3 (by omega)
        have h2 := hB3 (by omega)
        have h3 := hC3 (by omega)
        exact ⟨_, rfl, by omega, by omega, fun _ => ⟨by omega, by omega, by omega, fun x hx => by have := h3.2.1 x hx; omega, by have := h3.2.2; omega⟩⟩



/-- laws.eqState -/
def F20 (a0 a1 : Value) (w : World) (R : Value → World → Prop) : Prop :=
  OP Tryz.prog (Instr.box 32 a0) w fun x2 w =>
  OP Tryz.prog (Instr.box 32 a1) w fun x3 w =>
  RD Tryz.prog (Instr.fieldAt 32 x2 0) w fun x5 =>
  RD Tryz.prog (Instr.loadAt 23 x5) w fun x6 =>
  RD Tryz.prog (Instr.fieldAt 32 x3 0) w fun x7 =>
  RD Tryz.prog (Instr.loadAt 23 x7) w fun x8 =>
  CALL Tryz.prog 32 [x6, x8] w fun x9 w =>
  RD Tryz.prog (Op.unary .not x9) w fun x10 =>
  BR x10
   (R (Value.bool false) w)
   (RD Tryz.prog (Instr.fieldAt 32 x2 1) w fun x11 =>
   RD Tryz.prog (Instr.loadAt 23 x11) w fun x12 =>
   RD Tryz.prog (Instr.fieldAt 32 x3 1) w fun x13 =>
   RD Tryz.prog (Instr.loadAt 23 x13) w fun x14 =>
   CALL Tryz.prog 32 [x12, x14] w fun x15 w =>
   RD Tryz.prog (Op.unary .not x15) w fun x16 =>
   BR x16
    (R (Value.bool false) w)
    (RD Tryz.prog (Instr.fieldAt 32 x2 2) w fun x17 =>
    RD Tryz.prog (Instr.loadAt 27 x17) w fun x18 =>
    RD Tryz.prog (Instr.fieldAt 32 x3 2) w fun x19 =>
    RD Tryz.prog (Instr.loadAt 27 x19) w fun x20 =>
    CALL Tryz.prog 58 [x18, x20] w fun x21 w =>
    RD Tryz.prog (Op.unary .not x21) w fun x22 =>
    BR x22
     (R (Value.bool false) w)
     (R (Value.bool true) w)))
def cfg20 : Cfg := { ext := extL, joins := [], loops := [], draws := [], pars := [] }
theorem F20_eq (a0 a1 : Value) (w : World) (R : Value → World → Prop) : vcF Tryz.prog cfg20 Tryz.f20 [a0, a1] w R = F20 a0 a1 w R := by kernel_rfl
theorem F20_call {a0 a1 : Value} {w : World} {R : Value → World → Prop} (h : F20 a0 a1 w R) : CALL Tryz.prog 20 [a0, a1] w R :=
  call_of (g := cfg20) ent mixed Tryz.func20 (Nat.le_of_ble_eq_true (by kernel_rfl)) (by kernel_rfl) (F20_eq a0 a1 w R ▸ h)


theorem eqState_ok {w : World} {v0 : Value} {W0 : World} {s1 : DState} {v1 : Value} {W1 : World} {s2 : DState}  (h0 : Is W0 v0 s1) (e0 : Ext W0 w) (h1 : Is W1 v1 s2) (e1 : Ext W1 w)  :
    CALL Tryz.prog 20 [v0, v1] w fun r w' => Ext w w' ∧ (r = .bool (decide (s1 = s2))) := by
  refine F20_call ?_
  unfold F20
  refine op_boxS ty32 rfl h0 e0 fun w1_ hx1_ hA2 hV2 => ?_
  refine op_boxS ty32 rfl h1 (e1.trans hx1_) fun w2_ hx2_ hA3 hV3 => ?_
  refine rd_fld fd32_0 ?_
  refine rd_load ty23 (at_DState_0 hA2) hx2_ fun v6 h6 => ?_
  refine rd_fld fd32_0 ?_
  refine rd_load ty23 (at_DState_0 hA3) (Ext.refl w2_) fun v8 h8 => ?_
  refine (eqIntS_ok2 h6 hx2_ h8 (Ext.refl w2_)).mono ?_
  rintro _ w3_ ⟨hx3_, rfl⟩
  refine rd_nodec ?_
  refine br (fun c1 => ?_) (fun c1 => ?_)
  · refine ⟨(hx1_.trans (hx2_.trans hx3_)), ?_⟩
    have : s1 ≠ s2 := fun e => c1 (by rw [e])
    simp [this]
  · refine rd_fld fd32_1 ?_
    refine rd_load ty23 (at_DState_1 hA2) (hx2_.trans hx3_) fun v12 h12 => ?_
    refine rd_fld fd32_1 ?_
    refine rd_load ty23 (at_DState_1 hA3) hx3_ fun v14 h14 => ?_
    refine (eqIntS_ok2 h12 (hx2_.trans hx3_) h14 hx3_).mono ?_
    rintro _ w4_ ⟨hx4_, rfl⟩
    refine rd_nodec ?_
    refine br (fun c2 => ?_) (fun c2 => ?_)
    · refine ⟨(hx1_.trans (hx2_.trans (hx3_.trans hx4_))), ?_⟩
      have : s1 ≠ s2 := fun e => c2 (by rw [e])
      simp [this]
    · refine rd_fld fd32_2 ?_
      refine rd_load ty27 (at_DState_2 hA2) (hx2_.trans (hx3_.trans hx4_)) fun v18 h18 => ?_
      refine rd_fld fd32_2 ?_
      refine rd_load ty27 (at_DState_2 hA3) (hx3_.trans hx4_) fun v20 h20 => ?_
      refine (eqIntSS_ok h18 (hx2_.trans (hx3_.trans hx4_)) h20 (hx3_.trans hx4_)).mono ?_
      rintro _ w5_ ⟨hx5_, rfl⟩
      refine rd_nodec ?_
      refine br (fun c3 => ?_) (fun c3 => ?_)
      · refine ⟨(hx1_.trans (hx2_.trans (hx3_.trans (hx4_.trans hx5_)))), ?_⟩
        have : s1 ≠ s2 := fun e => c3 (by rw [e])
        simp [this]
      · refine ⟨(hx1_.trans (hx2_.trans (hx3_.trans (hx4_.trans hx5_)))), ?_⟩
        have : s1 = s2 := by
          cases s1; cases s2
          simp only [Decidable.not_not] at c1 c2 c3
          rw [c1, c2, c3]
        simp [this]


/-- laws.eqRace -/
def F111 (a0 a1 : Value) (w : World) (R : Value → World → Prop) : Prop :=
  OP Tryz.prog (Instr.box 117 a0) w fun x2 w =>
  OP Tryz.prog (Instr.box 117 a1) w fun x3 w =>
  RD Tryz.prog (Instr.fieldAt 117 x2 0) w fun x5 =>
  RD Tryz.prog (Instr.loadAt 3 x5) w fun x6 =>
  RD Tryz.prog (Instr.fieldAt 117 x3 0) w fun x7 =>
  RD Tryz.prog (Instr.loadAt 3 x7) w fun x8 =>
  RD Tryz.prog (bin .neq 3 (.tmp 0) (.tmp 0) x6 x8) w fun x9 =>
  BR x9
   (R (Value.bool false) w)
   (RD Tryz.prog (Instr.fieldAt 117 x2 1) w fun x10 =>
   RD Tryz.prog (Instr.loadAt 3 x10) w fun x11 =>
   RD Tryz.prog (Instr.fieldAt 117 x3 1) w fun x12 =>
   RD Tryz.prog (Instr.loadAt 3 x12) w fun x13 =>
   RD Tryz.prog (bin .neq 3 (.tmp 0) (.tmp 0) x11 x13) w fun x14 =>
   BR x14
    (R (Value.bool false) w)
    (RD Tryz.prog (Instr.fieldAt 117 x2 2) w fun x15 =>
    RD Tryz.prog (Instr.loadAt 3 x15) w fun x16 =>
    RD Tryz.prog (Instr.fieldAt 117 x3 2) w fun x17 =>
    RD Tryz.prog (Instr.loadAt 3 x17) w fun x18 =>
    RD Tryz.prog (bin .neq 3 (.tmp 0) (.tmp 0) x16 x18) w fun x19 =>
    BR x19
     (R (Value.bool false) w)
     (R (Value.bool true) w)))
def cfg111 : Cfg := { ext := extL, joins := [], loops := [], draws := [], pars := [] }
theorem F111_eq (a0 a1 : Value) (w : World) (R : Value → World → Prop) : vcF Tryz.prog cfg111 Tryz.f111 [a0, a1] w R = F111 a0 a1 w R := by kernel_rfl
theorem F111_call {a0 a1 : Value} {w : World} {R : Value → World → Prop} (h : F111 a0 a1 w R) : CALL Tryz.prog 111 [a0, a1] w R :=
  call_of (g := cfg111) ent mixed Tryz.func111 (Nat.le_of_ble_eq_true (by kernel_rfl)) (by kernel_rfl) (F111_eq a0 a1 w R ▸ h)


theorem eqRace_ok {w : World} {v0 : Value} {W0 : World} {s1 : DRace} {v1 : Value} {W1 : World} {s2 : DRace}  (h0 : Is W0 v0 s1) (e0 : Ext W0 w) (h1 : Is W1 v1 s2) (e1 : Ext W1 w)  :
    CALL Tryz.prog 111 [v0, v1] w fun r w' => Ext w w' ∧ (r = .bool (decide (s1 = s2))) := by
  refine F111_call ?_
  unfold F111
  refine op_boxS ty117 rfl h0 e0 fun w1_ hx1_ hA2 hV2 => ?_
  refine op_boxS ty117 rfl h1 (e1.trans hx1_) fun w2_ hx2_ hA3 hV3 => ?_
  refine rd_fld fd117_0 ?_
  refine rd_loadI ty3 (at_DRace_0 hA2) hx2_ fun hI6 => ?_
  refine rd_fld fd117_0 ?_
  refine rd_loadI ty3 (at_DRace_0 hA3) (Ext.refl w2_) fun hI8 => ?_
  refine rd_neq ?_
  refine br (fun c1 => ?_) (fun c1 => ?_)
  · refine ⟨(hx1_.trans hx2_), ?_⟩
    have : s1 ≠ s2 := fun e => c1 (by rw [e])
    simp [this]
  · refine rd_fld fd117_1 ?_
    refine rd_loadI ty3 (at_DRace_1 hA2) hx2_ fun hI11 => ?_
    refine rd_fld fd117_1 ?_
    refine rd_loadI ty3 (at_DRace_1 hA3) (Ext.refl w2_) fun hI13 => ?_
    refine rd_neq ?_
    refine br (fun c2 => ?_) (fun c2 => ?_)
    · refine ⟨(hx1_.trans hx2_), ?_⟩
      have : s1 ≠ s2 := fun e => c2 (by rw [e])
      simp [this]
    · refine rd_fld fd117_2 ?_
      refine rd_loadI ty3 (at_DRace_2 hA2) hx2_ fun hI16 => ?_
      refine rd_fld fd117_2 ?_
      refine rd_loadI ty3 (at_DRace_2 hA3) (Ext.refl w2_) fun hI18 => ?_
      refine rd_neq ?_
      refine br (fun c3 => ?_) (fun c3 => ?_)
      · refine ⟨(hx1_.trans hx2_), ?_⟩
        have : s1 ≠ s2 := fun e => c3 (by rw [e])
        simp [this]
      · refine ⟨(hx1_.trans hx2_), ?_⟩
        have : s1 = s2 := by
          cases s1; cases s2
          simp only [ne_eq, Decidable.not_not] at c1 c2 c3
          rw [c1, c2, c3]
        simp [this]


/-- laws.eqRaceS -/
def F46 (a0 a1 : Value) (w : World) (R : Value → World → Prop) : Prop :=
  RD Tryz.prog (Builtin.len_ #[61] 3 [a0].toArray) w fun x7 =>
  RD Tryz.prog (Builtin.len_ #[61] 3 [a1].toArray) w fun x9 =>
  RD Tryz.prog (bin .neq 3 (.tmp 0) (.tmp 0) x7 x9) w fun x10 =>
  BR x10
   (R (Value.bool false) w)
   (LOOPI [5] [(Value.int .i64 0)] w fun u4 w next4 =>
    RD Tryz.prog (Builtin.len_ #[61] 3 [a0].toArray) w fun x13 =>
    RD Tryz.prog (bin .lss 3 (.tmp 0) (.tmp 0) (u4 5) x13) w fun x14 =>
    BR x14
     ((fun w => RD Tryz.prog (Instr.indexAt 61 a0 (u4 5)) w fun x19 =>
     RD Tryz.prog (Instr.loadAt 117 x19) w fun x20 =>
     RD Tryz.prog (Instr.indexAt 61 a1 (u4 5)) w fun x23 =>
     RD Tryz.prog (Instr.loadAt 117 x23) w fun x24 =>
     CALL Tryz.prog 111 [x20, x24] w fun x25 w =>
     RD Tryz.prog (Op.unary .not x25) w fun x26 =>
     BR x26
      (R (Value.bool false) w)
      (RD Tryz.prog (bin .add 3 (.tmp 0) (.const undef) (u4 5) (Value.int .i64 1)) w fun x16 =>
      next4 [x16] w)) (World.drew1 w))
     (R (Value.bool true) w))
def cfg46 : Cfg := { ext := extL, joins := [], loops := [(4, 134215728, [5])], draws := [(6, [0, 1, 2, 3, 4, 5, 6, 7, 8, 9], 0)], pars := [] }
theorem F46_eq (a0 a1 : Value) (w : World) (R : Value → World → Prop) : vcF Tryz.prog cfg46 Tryz.f46 [a0, a1] w R = F46 a0 a1 w R := by kernel_rfl
theorem F46_call {a0 a1 : Value} {w : World} {R : Value → World → Prop} (h : F46 a0 a1 w R) : CALL Tryz.prog 46 [a0, a1] w R :=
  call_of (g := cfg46) ent mixed Tryz.func46 (Nat.le_of_ble_eq_true (by kernel_rfl)) (by kernel_rfl) (F46_eq a0 a1 w R ▸ h)


theorem eqRaceS_ok {w : World} {v0 : Value} {W0 : World} {l1 : (List DRace)} {v1 : Value} {W1 : World} {l2 : (List DRace)}  (h0 : Is W0 v0 l1) (e0 : Ext W0 w) (h1 : Is W1 v1 l2) (e1 : Ext W1 w)  :
    CALL Tryz.prog 46 [v0, v1] w fun r w' => Ext w w' ∧ (r = .bool (decide (l1 = l2))) := by
  refine F46_call ?_
  unfold F46
  have hl1 := is_len h0
  have hln7 := is_len h0
  refine rd_len u61 h0 ?_
  have hln9 := is_len h1
  refine rd_len u61 h1 ?_
  refine rd_neq ?_
  refine br (fun c1 => ?_) (fun c1 => ?_)
  · refine ⟨Ext.refl w, ?_⟩
    have : l1 ≠ l2 := fun e => c1 (by rw [e])
    simp [this]
  · refine loopC (l1.length) (fun k us w' => us = [.int .i64 (k : Int)] ∧ Ext w w' ∧ (l1.take k = l2.take k)) (0) (by omega) ⟨by simp, Ext.refl w, by simp⟩ ?_
    rintro k m4 uu4 w1_ hk4 ⟨hu, hx1_, hinv⟩
    simp only [List.map_cons, List.map_nil, List.cons.injEq, and_true] at hu
    try rw [hu]
    try clear hu
    have hln13 := is_len h0
    refine rd_len u61 h0 ?_
    refine rd_lss ?_
    refine br (fun c2 => ?_) (fun c2 => ?_)
    · have hx2_ := ext_drew w1_
      refine rd_indexN u61 ty117 h0 (by omega) fun b19 o19 h19 => ?_
      refine rd_load ty117 h19 (e0.trans (hx1_.trans hx2_)) fun v20 h20 => ?_
      refine rd_indexN u61 ty117 h1 (by omega) fun b23 o23 h23 => ?_
      refine rd_load ty117 h23 (e1.trans (hx1_.trans hx2_)) fun v24 h24 => ?_
      refine (eqRace_ok h20 (e0.trans (hx1_.trans hx2_)) h24 (e1.trans (hx1_.trans hx2_))).mono ?_
      rintro _ w3_ ⟨hx3_, rfl⟩
      refine rd_nodec ?_
      refine br (fun c3 => ?_) (fun c3 => ?_)
      · refine ⟨(hx1_.trans (hx2_.trans hx3_)), ?_⟩
        have : l1 ≠ l2 := fun e => c3 (by subst e; rfl)
        simp [this]
      · refine rd_inc (by omega) ?_
        refine ⟨m4 - 1, by omega, k + 1, by omega, by simp, (hx1_.trans (hx2_.trans hx3_)), ?_⟩
        rw [List.take_succ_eq_append_getElem (by omega), List.take_succ_eq_append_getElem (by omega), hinv, Decidable.not_not.1 c3]
    · refine ⟨hx1_, ?_⟩
      rw [List.take_of_length_le (by omega), List.take_of_length_le (by omega)] at hinv
      simp [hinv]


/-- spec.l01In -/
def F156 (a0 a1 a2 : Value) (w : World) (R : Value → World → Prop) : Prop :=
  RD Tryz.prog (bin .geq 3 (.tmp 0) (.tmp 0) a0 a1) w fun x9 =>
  BR x9
  (RD Tryz.prog (bin .leq 3 (.tmp 0) (.tmp 0) a0 a2) w fun x13 =>
  R x13 w)
  (R (Value.bool false) w)
def cfg156 : Cfg := { ext := extL, joins := [], loops := [], draws := [], pars := [] }
theorem F156_eq (a0 a1 a2 : Value) (w : World) (R : Value → World → Prop) : vcF Tryz.prog cfg156 Tryz.f156 [a0, a1, a2] w R = F156 a0 a1 a2 w R := by kernel_rfl
theorem F156_call {a0 a1 a2 : Value} {w : World} {R : Value → World → Prop} (h : F156 a0 a1 a2 w R) : CALL Tryz.prog 156 [a0, a1, a2] w R :=
  call_of (g := cfg156) ent mixed Tryz.func156 (Nat.le_of_ble_eq_true (by kernel_rfl)) (by kernel_rfl) (F156_eq a0 a1 a2 w R ▸ h)


theorem l01In_ok {w : World} {a : Int} {b : Int} {c : Int}    :
    CALL Tryz.prog 156 [.int .i64 a, .int .i64 b, .int .i64 c] w fun r w' => Ext w w' ∧ (r = .bool (decide (b ≤ a ∧ a ≤ c))) := by
  refine F156_call ?_
  unfold F156
  refine rd_geq ?_
  refine br (fun c1 => ?_) (fun c1 => ?_)
  · refine rd_leq ?_
    refine ⟨Ext.refl w, ?_⟩
    simp [c1]
  · refine ⟨Ext.refl w, ?_⟩
    simp [c1]


/-- the last place of a thread's stack -/
def atOf (s : DState) (t : Int) : Int := if h : 0 ≤ t ∧ t.toNat < s.stacks.length then (s.stacks[t.toNat]'h.2).getLastD (-1) else -1
theorem getLastD_eq {l : List Int} (h : l ≠ []) (hi : ((l.length : Int) - 1).toNat < l.length) : l[((l.length : Int) - 1).toNat]'hi = l.getLastD (-1) := by
  have e : ((l.length : Int) - 1).toNat = l.length - 1 := by omega
  simp only [e]
  rw [List.getLastD_eq_getLast?, List.getLast?_eq_getElem?, List.getElem?_eq_getElem (by omega)]
  rfl
/-- spec.AtOf -/
def F91 (a0 a1 : Value) (w : World) (R : Value → World → Prop) : Prop :=
  OP Tryz.prog (Instr.box 32 a0) w fun x2 w =>
  RD Tryz.prog (Instr.fieldAt 32 x2 2) w fun x6 =>
  RD Tryz.prog (Instr.loadAt 27 x6) w fun x7 =>
  RD Tryz.prog (Builtin.len_ #[27] 3 [x7].toArray) w fun x8 =>
  RD Tryz.prog (bin .sub 3 (.tmp 0) (.const undef) x8 (Value.int .i64 1)) w fun x9 =>
  CALL Tryz.prog 156 [a1, (Value.int .i64 0), x9] w fun x10 w =>
  RD Tryz.prog (Op.unary .not x10) w fun x11 =>
  BR x11
  (R (Value.int .i64 (-1)) w)
  (RD Tryz.prog (Instr.fieldAt 32 x2 2) w fun x13 =>
  RD Tryz.prog (Instr.loadAt 27 x13) w fun x14 =>
  RD Tryz.prog (Instr.indexAt 27 x14 a1) w fun x16 =>
  RD Tryz.prog (Instr.loadAt 23 x16) w fun x17 =>
  RD Tryz.prog (Builtin.len_ #[23] 3 [x17].toArray) w fun x18 =>
  RD Tryz.prog (bin .eql 3 (.tmp 0) (.const undef) x18 (Value.int .i64 0)) w fun x19 =>
  BR x19
   (R (Value.int .i64 (-1)) w)
   ((fun w => RD Tryz.prog (Instr.fieldAt 32 x2 2) w fun x21 =>
   RD Tryz.prog (Instr.loadAt 27 x21) w fun x22 =>
   RD Tryz.prog (Instr.indexAt 27 x22 a1) w fun x24 =>
   RD Tryz.prog (Instr.loadAt 23 x24) w fun x25 =>
   RD Tryz.prog (Instr.fieldAt 32 x2 2) w fun x26 =>
   RD Tryz.prog (Instr.loadAt 27 x26) w fun x27 =>
   RD Tryz.prog (Instr.indexAt 27 x27 a1) w fun x29 =>
   RD Tryz.prog (Instr.loadAt 23 x29) w fun x30 =>
   RD Tryz.prog (Builtin.len_ #[23] 3 [x30].toArray) w fun x31 =>
   RD Tryz.prog (bin .sub 3 (.tmp 0) (.const undef) x31 (Value.int .i64 1)) w fun x32 =>
   RD Tryz.prog (Instr.indexAt 23 x25 x32) w fun x33 =>
   RD Tryz.prog (Instr.loadAt 3 x33) w fun x34 =>
   R x34 w) (World.drew1 w)))
def cfg91 : Cfg := { ext := extL, joins := [], loops := [], draws := [(3, [0, 1, 2, 3, 4, 5, 6, 7, 8, 9, 10, 11, 12, 13, 14], 0)], pars := [] }
theorem F91_eq (a0 a1 : Value) (w : World) (R : Value → World → Prop) : vcF Tryz.prog cfg91 Tryz.f91 [a0, a1] w R = F91 a0 a1 w R := by kernel_rfl
theorem F91_call {a0 a1 : Value} {w : World} {R : Value → World → Prop} (h : F91 a0 a1 w R) : CALL Tryz.prog 91 [a0, a1] w R :=
  call_of (g := cfg91) ent mixed Tryz.func91 (Nat.le_of_ble_eq_true (by kernel_rfl)) (by kernel_rfl) (F91_eq a0 a1 w R ▸ h)


theorem specAtOf_ok {w : World} {v0 : Value} {W0 : World} {s : DState} {t : Int}  (h0 : Is W0 v0 s) (e0 : Ext W0 w)  :
    CALL Tryz.prog 91 [v0, .int .i64 t] w fun r w' => Ext w w' ∧ (r = .int .i64 (atOf s t)) := by
  refine F91_call ?_
  unfold F91
  refine op_boxS ty32 rfl h0 e0 fun w1_ hx1_ hA2 hV2 => ?_
  refine rd_fld fd32_2 ?_
  refine rd_load ty27 (at_DState_2 hA2) (Ext.refl w1_) fun v7 h7 => ?_
  have hln8 := is_len h7
  refine rd_len u27 h7 ?_
  refine rd_sub (by unfold I64; omega) ?_
  refine (l01In_ok ).mono ?_
  rintro _ w2_ ⟨hx2_, rfl⟩
  refine rd_nodec ?_
  refine br (fun c1 => ?_) (fun c1 => ?_)
  · refine ⟨(hx1_.trans hx2_), ?_⟩
    unfold atOf
    rw [dif_neg (by omega)]
  · refine rd_fld fd32_2 ?_
    refine rd_load ty27 (at_DState_2 hA2) hx2_ fun v14 h14 => ?_
    refine rd_index u27 ty23 h14 (by omega) (by omega) fun b16 o16 h16 => ?_
    refine rd_load ty23 h16 hx2_ fun v17 h17 => ?_
    have hln18 := is_len h17
    refine rd_len u23 h17 ?_
    refine rd_eql ?_
    refine br (fun c2 => ?_) (fun c2 => ?_)
    · refine ⟨(hx1_.trans hx2_), ?_⟩
      unfold atOf
      rw [dif_pos (by omega)]
      have : s.stacks[t.toNat]'(by omega) = [] := List.eq_nil_of_length_eq_zero (by omega)
      rw [this]; rfl
    · have hx3_ := ext_drew w2_
      refine rd_fld fd32_2 ?_
      refine rd_load ty27 (at_DState_2 hA2) (hx2_.trans hx3_) fun v22 h22 => ?_
      refine rd_index u27 ty23 h22 (by omega) (by omega) fun b24 o24 h24 => ?_
      refine rd_load ty23 h24 (hx2_.trans hx3_) fun v25 h25 => ?_
      refine rd_fld fd32_2 ?_
      refine rd_load ty27 (at_DState_2 hA2) (hx2_.trans hx3_) fun v27 h27 => ?_
      refine rd_index u27 ty23 h27 (by omega) (by omega) fun b29 o29 h29 => ?_
      refine rd_load ty23 h29 (hx2_.trans hx3_) fun v30 h30 => ?_
      have hln31 := is_len h30
      refine rd_len u23 h30 ?_
      refine rd_sub (by unfold I64; omega) ?_
      refine rd_index u23 ty3 h25 (by omega) (by omega) fun b33 o33 h33 => ?_
      refine rd_loadI ty3 h33 (hx2_.trans hx3_) fun hI34 => ?_
      refine ⟨(hx1_.trans (hx2_.trans hx3_)), ?_⟩
      unfold atOf
      rw [dif_pos (by omega)]
      rw [getLastD_eq (fun e => by rw [e] at c2; simp at c2)]

/-- impl.AtOf -/
def F99 (a0 a1 : Value) (w : World) (R : Value → World → Prop) : Prop :=
  OP Tryz.prog (Instr.box 32 a0) w fun x2 w =>
  RD Tryz.prog (bin .lss 3 (.tmp 0) (.const undef) a1 (Value.int .i64 0)) w fun x6 =>
  BR x6
  (R (Value.int .i64 (-1)) w)
  (RD Tryz.prog (Instr.fieldAt 32 x2 2) w fun x9 =>
  RD Tryz.prog (Instr.loadAt 27 x9) w fun x10 =>
  RD Tryz.prog (Builtin.len_ #[27] 3 [x10].toArray) w fun x11 =>
  RD Tryz.prog (bin .geq 3 (.tmp 0) (.tmp 0) a1 x11) w fun x12 =>
  BR x12
  (R (Value.int .i64 (-1)) w)
  (RD Tryz.prog (Instr.fieldAt 32 x2 2) w fun x15 =>
  RD Tryz.prog (Instr.loadAt 27 x15) w fun x16 =>
  RD Tryz.prog (Instr.indexAt 27 x16 a1) w fun x18 =>
  RD Tryz.prog (Instr.loadAt 23 x18) w fun x19 =>
  RD Tryz.prog (Builtin.len_ #[23] 3 [x19].toArray) w fun x20 =>
  RD Tryz.prog (bin .eql 3 (.tmp 0) (.const undef) x20 (Value.int .i64 0)) w fun x21 =>
  BR x21
   (R (Value.int .i64 (-1)) w)
   ((fun w => RD Tryz.prog (Instr.fieldAt 32 x2 2) w fun x23 =>
   RD Tryz.prog (Instr.loadAt 27 x23) w fun x24 =>
   RD Tryz.prog (Instr.indexAt 27 x24 a1) w fun x26 =>
   RD Tryz.prog (Instr.loadAt 23 x26) w fun x27 =>
   RD Tryz.prog (Instr.fieldAt 32 x2 2) w fun x28 =>
   RD Tryz.prog (Instr.loadAt 27 x28) w fun x29 =>
   RD Tryz.prog (Instr.indexAt 27 x29 a1) w fun x31 =>
   RD Tryz.prog (Instr.loadAt 23 x31) w fun x32 =>
   RD Tryz.prog (Builtin.len_ #[23] 3 [x32].toArray) w fun x33 =>
   RD Tryz.prog (bin .sub 3 (.tmp 0) (.const undef) x33 (Value.int .i64 1)) w fun x34 =>
   RD Tryz.prog (Instr.indexAt 23 x27 x34) w fun x35 =>
   RD Tryz.prog (Instr.loadAt 3 x35) w fun x36 =>
   R x36 w) (World.drew1 w))))
def cfg99 : Cfg := { ext := extL, joins := [], loops := [], draws := [(3, [0, 1, 2, 3, 4, 5, 6, 7, 8, 9, 10, 11, 12, 13, 14], 0)], pars := [] }
theorem F99_eq (a0 a1 : Value) (w : World) (R : Value → World → Prop) : vcF Tryz.prog cfg99 Tryz.f99 [a0, a1] w R = F99 a0 a1 w R := by kernel_rfl
theorem F99_call {a0 a1 : Value} {w : World} {R : Value → World → Prop} (h : F99 a0 a1 w R) : CALL Tryz.prog 99 [a0, a1] w R :=
  call_of (g := cfg99) ent mixed Tryz.func99 (Nat.le_of_ble_eq_true (by kernel_rfl)) (by kernel_rfl) (F99_eq a0 a1 w R ▸ h)


theorem implAtOf_ok {w : World} {v0 : Value} {W0 : World} {s : DState} {t : Int}  (h0 : Is W0 v0 s) (e0 : Ext W0 w)  :
    CALL Tryz.prog 99 [v0, .int .i64 t] w fun r w' => Ext w w' ∧ (r = .int .i64 (atOf s t)) := by
  refine F99_call ?_
  unfold F99
  refine op_boxS ty32 rfl h0 e0 fun w1_ hx1_ hA2 hV2 => ?_
  refine rd_lss ?_
  refine br (fun c1 => ?_) (fun c1 => ?_)
  · refine ⟨hx1_, ?_⟩
    unfold atOf
    rw [dif_neg (by omega)]
  · refine rd_fld fd32_2 ?_
    refine rd_load ty27 (at_DState_2 hA2) (Ext.refl w1_) fun v10 h10 => ?_
    have hln11 := is_len h10
    refine rd_len u27 h10 ?_
    refine rd_geq ?_
    refine br (fun c2 => ?_) (fun c2 => ?_)
    · refine ⟨hx1_, ?_⟩
      unfold atOf
      rw [dif_neg (by omega)]
    · refine rd_fld fd32_2 ?_
      refine rd_load ty27 (at_DState_2 hA2) (Ext.refl w1_) fun v16 h16 => ?_
      refine rd_index u27 ty23 h16 (by omega) (by omega) fun b18 o18 h18 => ?_
      refine rd_load ty23 h18 (Ext.refl w1_) fun v19 h19 => ?_
      have hln20 := is_len h19
      refine rd_len u23 h19 ?_
      refine rd_eql ?_
      refine br (fun c3 => ?_) (fun c3 => ?_)
      · refine ⟨hx1_, ?_⟩
        unfold atOf
        rw [dif_pos (by omega)]
        have : s.stacks[t.toNat]'(by omega) = [] := List.eq_nil_of_length_eq_zero (by omega)
        rw [this]; rfl
      · have hx2_ := ext_drew w1_
        refine rd_fld fd32_2 ?_
        refine rd_load ty27 (at_DState_2 hA2) hx2_ fun v24 h24 => ?_
        refine rd_index u27 ty23 h24 (by omega) (by omega) fun b26 o26 h26 => ?_
        refine rd_load ty23 h26 hx2_ fun v27 h27 => ?_
        refine rd_fld fd32_2 ?_
        refine rd_load ty27 (at_DState_2 hA2) hx2_ fun v29 h29 => ?_
        refine rd_index u27 ty23 h29 (by omega) (by omega) fun b31 o31 h31 => ?_
        refine rd_load ty23 h31 hx2_ fun v32 h32 => ?_
        have hln33 := is_len h32
        refine rd_len u23 h32 ?_
        refine rd_sub (by unfold I64; omega) ?_
        refine rd_index u23 ty3 h27 (by omega) (by omega) fun b35 o35 h35 => ?_
        refine rd_loadI ty3 h35 hx2_ fun hI36 => ?_
        refine ⟨(hx1_.trans hx2_), ?_⟩
        unfold atOf
        rw [dif_pos (by omega)]
        rw [getLastD_eq (fun e => by rw [e] at c3; simp at c3)]


end Go.Proofs.YteephmhilnlkpaaGreat
