/-
  Sets as bits; rounds of threads that wait for one another.
-/
import Derived.Test.YteephmhilnlkpaaGreatGo
import Derived.Test.YteephmhilnlkpaaGreatBits
namespace Go.Proofs.YteephmhilnlkpaaGreat
open Go Go.Sh Go.Proofs
set_option linter.unusedVariables false
set_option linter.unusedSimpArgs false

/-- impl.hasBit -/
def F230 (a0 a1 : Value) (w : World) (R : Value → World → Prop) : Prop :=
  RD Tryz.prog (convert 3 102 a1) w fun x7 =>
  RD Tryz.prog (bin .shr 3 (.tmp 0) (.tmp 0) a0 x7) w fun x8 =>
  RD Tryz.prog (bin .and 3 (.tmp 0) (.const undef) x8 (Value.int .i64 1)) w fun x9 =>
  RD Tryz.prog (bin .eql 3 (.tmp 0) (.const undef) x9 (Value.int .i64 1)) w fun x10 =>
  R x10 w
def cfg230 : Cfg := { ext := extL, joins := [], loops := [], draws := [], pars := [] }
theorem F230_eq (a0 a1 : Value) (w : World) (R : Value → World → Prop) : vcF Tryz.prog cfg230 Tryz.f230 [a0, a1] w R = F230 a0 a1 w R := by kernel_rfl
theorem F230_call {a0 a1 : Value} {w : World} {R : Value → World → Prop} (h : F230 a0 a1 w R) : CALL Tryz.prog 230 [a0, a1] w R :=
  call_of (g := cfg230) ent mixed Tryz.func230 (Nat.le_of_ble_eq_true (by kernel_rfl)) (by kernel_rfl) (F230_eq a0 a1 w R ▸ h)


theorem hasBit_ok {w : World} {m : Nat} {i : Nat}   (hm : m < 4611686018427387904) (hi : i < 4611686018427387904) :
    CALL Tryz.prog 230 [.int .i64 (m : Int), .int .i64 (i : Int)] w fun r w' => Ext w w' ∧ (r = .bool (m.testBit i)) := by
  refine F230_call ?_
  unfold F230
  refine rd_uint (by kernel_rfl) u102 (by omega) ?_
  refine rd_shr (by omega) ?_
  refine rd_and (n := 1) (Nat.lt_of_le_of_lt (Nat.shiftRight_le m i) hm) (by omega) ?_
  refine rd_eql ?_
  refine ⟨Ext.refl w, ?_⟩
  rw [bit_and]

/-- impl.bitsOf -/
def F164 (a0 : Value) (w : World) (R : Value → World → Prop) : Prop :=
  LOOPI [3, 4] [(Value.slice none 0 0), (Value.int .i64 0)] w fun u3 w next3 =>
   RD Tryz.prog (convert 3 102 (u3 4)) w fun x7 =>
   RD Tryz.prog (bin .shr 3 (.tmp 0) (.tmp 0) a0 x7) w fun x8 =>
   RD Tryz.prog (bin .neq 3 (.tmp 0) (.const undef) x8 (Value.int .i64 0)) w fun x9 =>
   BR x9
    (CALL Tryz.prog 230 [a0, (u3 4)] w fun x14 w =>
    BR x14
     (OP Tryz.prog (Instr.buildSlice 23 1 #[(0, (u3 4))]) w fun x17 w =>
     OP Tryz.prog (Builtin.append_ #[23, 23] 23 [(u3 3), x17].toArray) w fun x18 w =>
     RD Tryz.prog (bin .add 3 (.tmp 0) (.const undef) (u3 4) (Value.int .i64 1)) w fun x11 =>
     next3 [x18, x11] w)
     (RD Tryz.prog (bin .add 3 (.tmp 0) (.const undef) (u3 4) (Value.int .i64 1)) w fun x11 =>
     next3 [(u3 3), x11] w))
    (R (u3 3) w)
def cfg164 : Cfg := { ext := extL, joins := [], loops := [(3, 524280, [3, 4])], draws := [], pars := [] }
theorem F164_eq (a0 : Value) (w : World) (R : Value → World → Prop) : vcF Tryz.prog cfg164 Tryz.f164 [a0] w R = F164 a0 w R := by kernel_rfl
theorem F164_call {a0 : Value} {w : World} {R : Value → World → Prop} (h : F164 a0 w R) : CALL Tryz.prog 164 [a0] w R :=
  call_of (g := cfg164) ent mixed Tryz.func164 (Nat.le_of_ble_eq_true (by kernel_rfl)) (by kernel_rfl) (F164_eq a0 w R ▸ h)


theorem bitsOf_ok {w : World} {m : Nat}   (hm : m < 4611686018427387904) :
    CALL Tryz.prog 164 [.int .i64 (m : Int)] w fun r w' => Ext w w' ∧ (Own w.heap.size w' r (bitsL m)) := by
  refine F164_call ?_
  unfold F164
  refine loopC (62) (fun k us w' => ∃ v : Value, us = [v, .int .i64 (k : Int)] ∧ Ext w w' ∧ (RowI w.heap.size w'.heap.size 3 w' v (bitsTo m k))) (0) (by omega) ⟨_, rfl, Ext.refl w, rowI_nil _ _ _ _⟩ ?_
  rintro k m3 uu3 w1_ hk3 ⟨v3, hu, hx1_, hrow⟩
  have hs_hx1_ := hx1_.size
  simp only [List.map_cons, List.map_nil, List.cons.injEq, and_true] at hu
  obtain ⟨hu0, hu1⟩ := hu
  try rw [hu0]
  try rw [hu1]
  try clear hu0 hu1
  have hrl := bitsTo_len m k
  refine rd_uint (by kernel_rfl) u102 (by omega) ?_
  refine rd_shr (by omega) ?_
  refine rd_neq ?_
  refine br (fun c1 => ?_) (fun c1 => ?_)
  · have hk62 : k < 62 := by
      rcases Nat.lt_or_ge k 62 with h | h
      · exact h
      · have h1 : m < 2 ^ k := Nat.lt_of_lt_of_le (show m < 2 ^ 62 by omega) (Nat.pow_le_pow_right (by omega) h)
        exact absurd (by rw [shr_zero.2 h1]; rfl) c1
    refine (hasBit_ok (by omega) (by omega)).mono ?_
    rintro _ w2_ ⟨hx2_, rfl⟩
    have hs_hx2_ := hx2_.size
    refine br_b (fun c2 => ?_) (fun c2 => ?_)
    · refine op_push (α := Int) u23 ty3 z3 zc3 (by decide) (hrow.ext hx2_) (by omega) (ownI_int (lo := w2_.heap.size) (hi := w2_.heap.size) (by first | assumption | (unfold I64 at *; omega))) (by omega) (by omega) (by rw [maxLen_eq]; omega) (by omega) fun v18 w3_ hc3_ o18 => ?_
      have hs_hc3_ := hc3_.size
      refine rd_inc (by omega) ?_
      refine ⟨m3 - 1, by omega, k + 1, by omega, _, rfl, (Ext.chgI (hx1_.trans hx2_) hc3_ (by omega)), ?_⟩
      rw [bitsTo, if_pos c2]; exact o18
    · refine rd_inc (by omega) ?_
      refine ⟨m3 - 1, by omega, k + 1, by omega, _, rfl, (hx1_.trans hx2_), ?_⟩
      rw [bitsTo, if_neg (by simp [c2])]; exact (hrow.ext hx2_).mono (by omega) (by omega)
  · refine ⟨hx1_, ?_⟩
    have h1 : m >>> k = 0 := by have := Decidable.not_not.1 c1; omega
    rw [bitsL_eq (shr_zero.1 h1) (by omega)]
    exact hrow.own.own

/-- spec.l12Bit -/
def F153 (a0 : Value) (w : World) (R : Value → World → Prop) : Prop :=
  RD Tryz.prog (convert 3 102 a0) w fun x4 =>
  RD Tryz.prog (bin .shl 3 (.const undef) (.tmp 0) (Value.int .i64 1) x4) w fun x5 =>
  R x5 w
def cfg153 : Cfg := { ext := extL, joins := [], loops := [], draws := [], pars := [] }
theorem F153_eq (a0 : Value) (w : World) (R : Value → World → Prop) : vcF Tryz.prog cfg153 Tryz.f153 [a0] w R = F153 a0 w R := by kernel_rfl
theorem F153_call {a0 : Value} {w : World} {R : Value → World → Prop} (h : F153 a0 w R) : CALL Tryz.prog 153 [a0] w R :=
  call_of (g := cfg153) ent mixed Tryz.func153 (Nat.le_of_ble_eq_true (by kernel_rfl)) (by kernel_rfl) (F153_eq a0 w R ▸ h)


theorem l12Bit_ok {w : World} {i : Nat}   (hi : i < 62) :
    CALL Tryz.prog 153 [.int .i64 (i : Int)] w fun r w' => Ext w w' ∧ (r = .int .i64 ((2 ^ i : Nat) : Int)) := by
  refine F153_call ?_
  unfold F153
  refine rd_uint (by kernel_rfl) u102 (by omega) ?_
  refine rd_shl1 (by omega) ?_
  refine ⟨Ext.refl w, ?_⟩
  rfl

/-- spec.l12In -/
def F107 (a0 a1 : Value) (w : World) (R : Value → World → Prop) : Prop :=
  CALL Tryz.prog 153 [a1] w fun x7 w =>
  RD Tryz.prog (bin .and 3 (.tmp 0) (.tmp 0) a0 x7) w fun x8 =>
  RD Tryz.prog (bin .neq 3 (.tmp 0) (.const undef) x8 (Value.int .i64 0)) w fun x9 =>
  R x9 w
def cfg107 : Cfg := { ext := extL, joins := [], loops := [], draws := [], pars := [] }
theorem F107_eq (a0 a1 : Value) (w : World) (R : Value → World → Prop) : vcF Tryz.prog cfg107 Tryz.f107 [a0, a1] w R = F107 a0 a1 w R := by kernel_rfl
theorem F107_call {a0 a1 : Value} {w : World} {R : Value → World → Prop} (h : F107 a0 a1 w R) : CALL Tryz.prog 107 [a0, a1] w R :=
  call_of (g := cfg107) ent mixed Tryz.func107 (Nat.le_of_ble_eq_true (by kernel_rfl)) (by kernel_rfl) (F107_eq a0 a1 w R ▸ h)


theorem l12In_ok {w : World} {m : Nat} {i : Nat}   (hm : m < 4611686018427387904) (hi : i < 62) :
    CALL Tryz.prog 107 [.int .i64 (m : Int), .int .i64 (i : Int)] w fun r w' => Ext w w' ∧ (r = .bool (m.testBit i)) := by
  refine F107_call ?_
  unfold F107
  refine (l12Bit_ok (by omega)).mono ?_
  rintro _ w1_ ⟨hx1_, rfl⟩
  have hp : 2 ^ i < 4611686018427387904 := Nat.lt_of_lt_of_le (Nat.pow_lt_pow_right (by omega) hi) (by omega : 2 ^ 62 ≤ 4611686018427387904)
  refine rd_and (by omega) (by omega) ?_
  refine rd_neq ?_
  refine ⟨hx1_, ?_⟩
  rw [bit_and2]

/-- spec.l12Ok -/
def F157 (a0 : Value) (w : World) (R : Value → World → Prop) : Prop :=
  CALL Tryz.prog 156 [a0, (Value.int .i64 0), (Value.int .i64 63)] w fun x4 w =>
  R x4 w
def cfg157 : Cfg := { ext := extL, joins := [], loops := [], draws := [], pars := [] }
theorem F157_eq (a0 : Value) (w : World) (R : Value → World → Prop) : vcF Tryz.prog cfg157 Tryz.f157 [a0] w R = F157 a0 w R := by kernel_rfl
theorem F157_call {a0 : Value} {w : World} {R : Value → World → Prop} (h : F157 a0 w R) : CALL Tryz.prog 157 [a0] w R :=
  call_of (g := cfg157) ent mixed Tryz.func157 (Nat.le_of_ble_eq_true (by kernel_rfl)) (by kernel_rfl) (F157_eq a0 w R ▸ h)


theorem l12Ok_ok {w : World} {a : Int}    :
    CALL Tryz.prog 157 [.int .i64 a] w fun r w' => Ext w w' ∧ (r = .bool (decide (0 ≤ a ∧ a ≤ 63))) := by
  refine F157_call ?_
  unfold F157
  refine (l01In_ok ).mono ?_
  rintro _ w1_ ⟨hx1_, rfl⟩
  refine ⟨hx1_, ?_⟩
  rfl

/-- spec.ListOf -/
def F172 (a0 : Value) (w : World) (R : Value → World → Prop) : Prop :=
  OP Tryz.prog (Instr.buildSlice 23 0 #[]) w fun x5 w =>
  LOOPI [3, 4] [x5, (Value.int .i64 0)] w fun u3 w next3 =>
   CALL Tryz.prog 157 [a0] w fun x7 w =>
   BR x7
   (RD Tryz.prog (bin .lss 3 (.tmp 0) (.const undef) (u3 4) (Value.int .i64 6)) w fun x10 =>
   BR x10
    (CALL Tryz.prog 107 [a0, (u3 4)] w fun x16 w =>
    BR x16
     (OP Tryz.prog (Instr.buildSlice 23 1 #[(0, (u3 4))]) w fun x19 w =>
     OP Tryz.prog (Builtin.append_ #[23, 23] 23 [(u3 3), x19].toArray) w fun x20 w =>
     RD Tryz.prog (bin .add 3 (.tmp 0) (.const undef) (u3 4) (Value.int .i64 1)) w fun x13 =>
     next3 [x20, x13] w)
     (RD Tryz.prog (bin .add 3 (.tmp 0) (.const undef) (u3 4) (Value.int .i64 1)) w fun x13 =>
     next3 [(u3 3), x13] w))
    (R (u3 3) w))
   (R (u3 3) w)
def cfg172 : Cfg := { ext := extL, joins := [], loops := [(3, 2097112, [3, 4])], draws := [], pars := [] }
theorem F172_eq (a0 : Value) (w : World) (R : Value → World → Prop) : vcF Tryz.prog cfg172 Tryz.f172 [a0] w R = F172 a0 w R := by kernel_rfl
theorem F172_call {a0 : Value} {w : World} {R : Value → World → Prop} (h : F172 a0 w R) : CALL Tryz.prog 172 [a0] w R :=
  call_of (g := cfg172) ent mixed Tryz.func172 (Nat.le_of_ble_eq_true (by kernel_rfl)) (by kernel_rfl) (F172_eq a0 w R ▸ h)


theorem listOf_ok {w : World} {m : Nat}   (hm : m < 64) :
    CALL Tryz.prog 172 [.int .i64 (m : Int)] w fun r w' => Ext w w' ∧ (Own w.heap.size w' r (bitsL m)) := by
  refine F172_call ?_
  unfold F172
  refine op_build0I (α := Int) u23 ty3 fun v5 w1_ hx1_ o5 => ?_
  have hs_hx1_ := hx1_.size
  refine loopC (6) (fun k us w' => ∃ v : Value, us = [v, .int .i64 (k : Int)] ∧ Ext w1_ w' ∧ (RowI w1_.heap.size w'.heap.size 3 w' v (bitsTo m k))) (0) (by omega) ⟨_, rfl, Ext.refl w1_, rowI_zcap _ _ _ _ _⟩ ?_
  rintro k m3 uu3 w2_ hk3 ⟨v3, hu, hx2_, hrow⟩
  have hs_hx2_ := hx2_.size
  simp only [List.map_cons, List.map_nil, List.cons.injEq, and_true] at hu
  obtain ⟨hu0, hu1⟩ := hu
  try rw [hu0]
  try rw [hu1]
  try clear hu0 hu1
  have hrl := bitsTo_len m k
  refine (l12Ok_ok ).mono ?_
  rintro _ w3_ ⟨hx3_, rfl⟩
  have hs_hx3_ := hx3_.size
  refine br (fun c1 => ?_) (fun c1 => ?_)
  · refine rd_lss ?_
    refine br (fun c2 => ?_) (fun c2 => ?_)
    · refine (l12In_ok (by omega) (by omega)).mono ?_
      rintro _ w4_ ⟨hx4_, rfl⟩
      have hs_hx4_ := hx4_.size
      refine br_b (fun c3 => ?_) (fun c3 => ?_)
      · refine op_push (α := Int) u23 ty3 z3 zc3 (by decide) (hrow.ext (hx3_.trans hx4_)) (by omega) (ownI_int (lo := w4_.heap.size) (hi := w4_.heap.size) (by first | assumption | (unfold I64 at *; omega))) (by omega) (by omega) (by rw [maxLen_eq]; omega) (by omega) fun v20 w5_ hc5_ o20 => ?_
        have hs_hc5_ := hc5_.size
        have o5_c5 := (o5.ext (hx2_.trans (hx3_.trans hx4_))).chg hc5_ (by omega)
        refine rd_inc (by omega) ?_
        refine ⟨m3 - 1, by omega, k + 1, by omega, _, rfl, (Ext.chgI ((hx2_.trans hx3_).trans hx4_) hc5_ (by omega)), ?_⟩
        rw [bitsTo, if_pos c3]; exact o20
      · refine rd_inc (by omega) ?_
        refine ⟨m3 - 1, by omega, k + 1, by omega, _, rfl, (hx2_.trans (hx3_.trans hx4_)), ?_⟩
        rw [bitsTo, if_neg (by simp [c3])]; exact (hrow.ext (hx3_.trans hx4_)).mono (by omega) (by omega)
    · refine ⟨(hx1_.trans (hx2_.trans hx3_)), ?_⟩
      rw [bitsL_eq (k := 6) (by omega) (by omega)]
      have : k = 6 := by omega
      subst this
      exact (hrow.own.ext hx3_).own.mono (by omega)
  · refine ⟨(hx1_.trans (hx2_.trans hx3_)), ?_⟩
    exact absurd c1 (by omega)

theorem waits_lt {c : DCode} {s : DState} (hc : CodeR c) (hs : StateR c s) (t : Int) : -1 ≤ waitsOf c s t ∧ waitsOf c s t < c.locks.length ∧ (0 ≤ waitsOf c s t → (waitsOf c s t).toNat < s.owner.length ∧ 0 ≤ ow s (waitsOf c s t) ∧ ow s (waitsOf c s t) < s.stacks.length) := by
  unfold waitsOf
  split
  · rename_i h
    have h1 := atI_lock hc hs h.1 (.inl h.2.1)
    have h2 := ow_range hs h1.1 h1.2
    have h3 := hs.2.1
    refine ⟨by omega, by omega, fun _ => ⟨h1.2, h.2.2, h2.2⟩⟩
  · exact ⟨by omega, by omega, fun h => by omega⟩
/-- the locks of a thread's round: m were met, u is looked at -/
def knotG (c : DCode) (s : DState) (t : Int) : Nat → Nat → Int → Nat
  | 0, _, _ => 0
  | n + 1, m, u => if waitsOf c s u < 0 then 0 else if ow s (waitsOf c s u) = t then m ||| 2 ^ (waitsOf c s u).toNat else knotG c s t n (m ||| 2 ^ (waitsOf c s u).toNat) (ow s (waitsOf c s u))
def knotOf (c : DCode) (s : DState) (t : Int) : Nat := knotG c s t s.stacks.length 0 t
theorem or_lt6 {m i : Nat} (hm : m < 64) (hi : i < 6) : m ||| 2 ^ i < 64 := Nat.or_lt_two_pow (n := 6) hm (Nat.pow_lt_pow_right (by omega) hi)
theorem knotG_lt {c : DCode} {s : DState} (hc : CodeR c) (hs : StateR c s) (t : Int) : ∀ n m u, m < 64 → knotG c s t n m u < 64
  | 0, _, _, _ => by rw [knotG]; omega
  | n + 1, m, u, hm => by
    have h1 := waits_lt hc hs u
    have h2 := hc.1.locks6
    rw [knotG]
    split
    · omega
    · have h3 := or_lt6 hm (i := (waitsOf c s u).toNat) (by omega)
      split
      · exact h3
      · exact knotG_lt hc hs t n _ _ h3
theorem knotOf_lt {c : DCode} {s : DState} (hc : CodeR c) (hs : StateR c s) (t : Int) : knotOf c s t < 64 := knotG_lt hc hs t _ _ _ (by omega)
/-- impl.knot -/
def F177 (a0 a1 a2 : Value) (w : World) (R : Value → World → Prop) : Prop :=
  OP Tryz.prog (Instr.box 37 a0) w fun x3 w =>
  OP Tryz.prog (Instr.box 32 a1) w fun x4 w =>
  RD Tryz.prog (Instr.fieldAt 32 x4 2) w fun x11 =>
  RD Tryz.prog (Instr.loadAt 27 x11) w fun x12 =>
  RD Tryz.prog (Builtin.len_ #[27] 3 [x12].toArray) w fun x13 =>
  LOOPI [7, 8, 14] [(Value.int .i64 0), a2, (Value.int .i64 0)] w fun u3 w next3 =>
   RD Tryz.prog (bin .lss 3 (.tmp 0) (.tmp 0) (u3 14) x13) w fun x15 =>
   BR x15
    (RD Tryz.prog (Instr.loadAt 37 x3) w fun x16 =>
    RD Tryz.prog (Instr.loadAt 32 x4) w fun x17 =>
    CALL Tryz.prog 178 [x16, x17, (u3 8)] w fun x19 w =>
    RD Tryz.prog (bin .lss 3 (.tmp 0) (.const undef) x19 (Value.int .i64 0)) w fun x21 =>
    BR x21
     (R (Value.int .i64 0) w)
     (RD Tryz.prog (convert 3 102 x19) w fun x24 =>
     RD Tryz.prog (bin .shl 3 (.const undef) (.tmp 0) (Value.int .i64 1) x24) w fun x25 =>
     RD Tryz.prog (bin .or 3 (.tmp 0) (.tmp 0) (u3 7) x25) w fun x26 =>
     RD Tryz.prog (Instr.loadAt 32 x4) w fun x27 =>
     CALL Tryz.prog 125 [x27, x19] w fun x29 w =>
     RD Tryz.prog (bin .eql 3 (.tmp 0) (.tmp 0) x29 a2) w fun x32 =>
     BR x32
      (R x26 w)
      (RD Tryz.prog (bin .add 3 (.tmp 0) (.const undef) (u3 14) (Value.int .i64 1)) w fun x34 =>
      next3 [x26, x29, x34] w)))
    (R (Value.int .i64 0) w)
def cfg177 : Cfg := { ext := extL, joins := [], loops := [(3, 34359722944, [7, 8, 14])], draws := [], pars := [] }
theorem F177_eq (a0 a1 a2 : Value) (w : World) (R : Value → World → Prop) : vcF Tryz.prog cfg177 Tryz.f177 [a0, a1, a2] w R = F177 a0 a1 a2 w R := by kernel_rfl
theorem F177_call {a0 a1 a2 : Value} {w : World} {R : Value → World → Prop} (h : F177 a0 a1 a2 w R) : CALL Tryz.prog 177 [a0, a1, a2] w R :=
  call_of (g := cfg177) ent mixed Tryz.func177 (Nat.le_of_ble_eq_true (by kernel_rfl)) (by kernel_rfl) (F177_eq a0 a1 a2 w R ▸ h)


theorem knot_ok {w : World} {v0 : Value} {W0 : World} {c : DCode} {v1 : Value} {W1 : World} {s : DState} {t : Int}  (h0 : Is W0 v0 c) (e0 : Ext W0 w) (h1 : Is W1 v1 s) (e1 : Ext W1 w) (hc : CodeR c) (hs : StateR c s) :
    CALL Tryz.prog 177 [v0, v1, .int .i64 t] w fun r w' => Ext w w' ∧ (r = .int .i64 (knotOf c s t : Int)) := by
  refine F177_call ?_
  unfold F177
  refine op_boxS ty37 rfl h0 e0 fun w1_ hx1_ hA3 hV3 => ?_
  refine op_boxS ty32 rfl h1 (e1.trans hx1_) fun w2_ hx2_ hA4 hV4 => ?_
  refine rd_fld fd32_2 ?_
  refine rd_load ty27 (at_DState_2 hA4) (Ext.refl w2_) fun v12 h12 => ?_
  have hln13 := is_len h12
  refine rd_len u27 h12 ?_
  refine loopC (s.stacks.length) (fun k us w' => ∃ q : Nat × Int, us = [.int .i64 (q.1 : Int), .int .i64 q.2, .int .i64 (k : Int)] ∧ Ext w2_ w' ∧ (q.1 < 64 ∧ knotG c s t (s.stacks.length - k) q.1 q.2 = knotOf c s t)) (0) (by omega) ⟨(0, t), rfl, Ext.refl w2_, by simp, rfl⟩ ?_
  rintro k m3 uu3 w3_ hk3 ⟨q, hu, hx3_, hq1, hq2⟩
  simp only [List.map_cons, List.map_nil, List.cons.injEq, and_true] at hu
  obtain ⟨hu0, hu1, hu2⟩ := hu
  try rw [hu0]
  try rw [hu1]
  try rw [hu2]
  try clear hu0 hu1 hu2
  obtain ⟨q, u⟩ := q; simp only at hq1 hq2 ⊢; have hw := waits_lt hc hs u; have hl6 := hc.1.locks6; have hmany := hs.2.2.1
  refine rd_lss ?_
  refine br (fun c1 => ?_) (fun c1 => ?_)
  · refine rd_var hV3 (hx2_.trans hx3_) ?_
    refine rd_var hV4 hx3_ ?_
    refine (waits_ok h0 (e0.trans (hx1_.trans (hx2_.trans hx3_))) h1 (e1.trans (hx1_.trans (hx2_.trans hx3_))) (by assumption) (by assumption)).mono ?_
    rintro _ w4_ ⟨hx4_, rfl⟩
    refine rd_lss ?_
    refine br (fun c2 => ?_) (fun c2 => ?_)
    · refine ⟨(hx1_.trans (hx2_.trans (hx3_.trans hx4_))), ?_⟩
      rw [show s.stacks.length - k = (s.stacks.length - k - 1) + 1 by omega, knotG, if_pos (by omega)] at hq2
      rw [← hq2]; rfl
    · rw [show s.stacks.length - k = (s.stacks.length - k - 1) + 1 by omega, knotG, if_neg (by omega)] at hq2
      obtain ⟨l, hl⟩ : ∃ l : Nat, waitsOf c s u = (l : Int) := ⟨(waitsOf c s u).toNat, by omega⟩
      have hw2 := hw.2.2 (by omega)
      rw [hl] at hw hw2 hq2 ⊢
      simp only [Int.toNat_natCast] at hq2 hw2
      have ho6 := or_lt6 hq1 (i := l) (by omega)
      have hp : 2 ^ l < 64 := Nat.pow_lt_pow_right (n := 6) (by omega) (by omega)
      refine rd_uint (by kernel_rfl) u102 (by omega) ?_
      refine rd_shl1 (by omega) ?_
      refine rd_or (by omega) (by omega) ?_
      refine rd_var hV4 (hx3_.trans hx4_) ?_
      refine (holderOf_ok h1 (e1.trans (hx1_.trans (hx2_.trans (hx3_.trans hx4_)))) (by omega) (by omega)).mono ?_
      rintro _ w5_ ⟨hx5_, rfl⟩
      refine rd_eql ?_
      refine br (fun c3 => ?_) (fun c3 => ?_)
      · refine ⟨(hx1_.trans (hx2_.trans (hx3_.trans (hx4_.trans hx5_)))), ?_⟩
        rw [if_pos (by omega)] at hq2
        rw [hq2]
      · refine rd_inc (by omega) ?_
        refine ⟨m3 - 1, by omega, k + 1, by omega, (q ||| 2 ^ l, max (ow s (l : Int)) (-1)), rfl, (hx3_.trans (hx4_.trans hx5_)), ?_⟩
        rw [if_neg (by omega)] at hq2
        refine ⟨ho6, ?_⟩
        rw [← hq2]
        simp only
        rw [show max (ow s (l : Int)) (-1) = ow s (l : Int) by omega, Nat.sub_sub]
  · refine ⟨(hx1_.trans (hx2_.trans hx3_)), ?_⟩
    rw [show s.stacks.length - k = 0 by omega, knotG] at hq2
    rw [← hq2]; rfl

def knotL (c : DCode) (s : DState) (t : Int) : List Int := if CodeR c ∧ StateR c s then bitsL (knotOf c s t) else []
theorem knotOf_out {c : DCode} {s : DState} {t : Int} (h : ¬ (0 ≤ t ∧ t ≤ (s.stacks.length : Int) - 1)) : knotOf c s t = 0 := by
  unfold knotOf
  cases hn : s.stacks.length with
  | zero => rfl
  | succ n =>
    rw [knotG, if_pos]
    unfold waitsOf atOf
    rw [dif_neg (by omega)]
    simp
theorem bitsL_zero : bitsL 0 = [] := by rw [bitsL_eq (k := 0) (by omega) (by omega)]; rfl
/-- the locks of all rounds, of the first k threads -/
def knotsTo (c : DCode) (s : DState) : Nat → Nat
  | 0 => 0
  | k + 1 => if knotOf c s k ≠ 0 then knotsTo c s k ||| 2 ^ (waitsOf c s k).toNat else knotsTo c s k
theorem knotOf_waits {c : DCode} {s : DState} {t : Int} (h : knotOf c s t ≠ 0) : 0 ≤ waitsOf c s t := by
  unfold knotOf at h
  cases hn : s.stacks.length with
  | zero => rw [hn, knotG] at h; exact absurd rfl h
  | succ n =>
    rw [hn, knotG] at h
    split at h
    · exact absurd rfl h
    · omega
theorem knotsTo_lt {c : DCode} {s : DState} (hc : CodeR c) (hs : StateR c s) : ∀ k, knotsTo c s k < 64
  | 0 => by rw [knotsTo]; omega
  | k + 1 => by
    have h1 := knotsTo_lt hc hs k
    have h2 := waits_lt hc hs k
    have h3 := hc.1.locks6
    rw [knotsTo]
    split
    · rename_i h
      have := knotOf_waits h
      exact or_lt6 h1 (by omega)
    · exact h1
/-- impl.knots -/
def F104 (a0 a1 : Value) (w : World) (R : Value → World → Prop) : Prop :=
  OP Tryz.prog (Instr.box 37 a0) w fun x2 w =>
  OP Tryz.prog (Instr.box 32 a1) w fun x3 w =>
  RD Tryz.prog (Instr.fieldAt 32 x3 2) w fun x7 =>
  RD Tryz.prog (Instr.loadAt 27 x7) w fun x8 =>
  RD Tryz.prog (Builtin.len_ #[27] 3 [x8].toArray) w fun x9 =>
  LOOPI [5, 10] [(Value.int .i64 0), (Value.int .i64 0)] w fun u3 w next3 =>
   RD Tryz.prog (bin .lss 3 (.tmp 0) (.tmp 0) (u3 10) x9) w fun x11 =>
   BR x11
    (RD Tryz.prog (Instr.loadAt 37 x2) w fun x13 =>
    RD Tryz.prog (Instr.loadAt 32 x3) w fun x14 =>
    CALL Tryz.prog 177 [x13, x14, (u3 10)] w fun x16 w =>
    RD Tryz.prog (bin .neq 3 (.tmp 0) (.const undef) x16 (Value.int .i64 0)) w fun x17 =>
    BR x17
     (RD Tryz.prog (Instr.loadAt 37 x2) w fun x19 =>
     RD Tryz.prog (Instr.loadAt 32 x3) w fun x20 =>
     CALL Tryz.prog 178 [x19, x20, (u3 10)] w fun x22 w =>
     RD Tryz.prog (convert 3 102 x22) w fun x23 =>
     RD Tryz.prog (bin .shl 3 (.const undef) (.tmp 0) (Value.int .i64 1) x23) w fun x24 =>
     RD Tryz.prog (bin .or 3 (.tmp 0) (.tmp 0) (u3 5) x24) w fun x25 =>
     RD Tryz.prog (bin .add 3 (.tmp 0) (.const undef) (u3 10) (Value.int .i64 1)) w fun x26 =>
     next3 [x25, x26] w)
     (RD Tryz.prog (bin .add 3 (.tmp 0) (.const undef) (u3 10) (Value.int .i64 1)) w fun x26 =>
     next3 [(u3 5), x26] w))
    (R (u3 5) w)
def cfg104 : Cfg := { ext := extL, joins := [], loops := [(3, 134216800, [5, 10])], draws := [], pars := [] }
theorem F104_eq (a0 a1 : Value) (w : World) (R : Value → World → Prop) : vcF Tryz.prog cfg104 Tryz.f104 [a0, a1] w R = F104 a0 a1 w R := by kernel_rfl
theorem F104_call {a0 a1 : Value} {w : World} {R : Value → World → Prop} (h : F104 a0 a1 w R) : CALL Tryz.prog 104 [a0, a1] w R :=
  call_of (g := cfg104) ent mixed Tryz.func104 (Nat.le_of_ble_eq_true (by kernel_rfl)) (by kernel_rfl) (F104_eq a0 a1 w R ▸ h)


theorem knots_ok {w : World} {v0 : Value} {W0 : World} {c : DCode} {v1 : Value} {W1 : World} {s : DState}  (h0 : Is W0 v0 c) (e0 : Ext W0 w) (h1 : Is W1 v1 s) (e1 : Ext W1 w) (hc : CodeR c) (hs : StateR c s) :
    CALL Tryz.prog 104 [v0, v1] w fun r w' => Ext w w' ∧ (r = .int .i64 (knotsTo c s s.stacks.length : Int)) := by
  refine F104_call ?_
  unfold F104
  refine op_boxS ty37 rfl h0 e0 fun w1_ hx1_ hA2 hV2 => ?_
  refine op_boxS ty32 rfl h1 (e1.trans hx1_) fun w2_ hx2_ hA3 hV3 => ?_
  refine rd_fld fd32_2 ?_
  refine rd_load ty27 (at_DState_2 hA3) (Ext.refl w2_) fun v8 h8 => ?_
  have hln9 := is_len h8
  refine rd_len u27 h8 ?_
  refine loopC (s.stacks.length) (fun k us w' => us = [.int .i64 (knotsTo c s k : Int), .int .i64 (k : Int)] ∧ Ext w2_ w' ∧ (True)) (0) (by omega) ⟨rfl, Ext.refl w2_, trivial⟩ ?_
  rintro k m3 uu3 w3_ hk3 ⟨hu, hx3_, _⟩
  simp only [List.map_cons, List.map_nil, List.cons.injEq, and_true] at hu
  obtain ⟨hu0, hu1⟩ := hu
  try rw [hu0]
  try rw [hu1]
  try clear hu0 hu1
  have hw := waits_lt hc hs k; have hl6 := hc.1.locks6; have hmany := hs.2.2.1; have hk64 := knotsTo_lt hc hs k; have hk1 := knotsTo_lt hc hs (k + 1); rw [knotsTo] at hk1
  refine rd_lss ?_
  refine br (fun c1 => ?_) (fun c1 => ?_)
  · refine rd_var hV2 (hx2_.trans hx3_) ?_
    refine rd_var hV3 hx3_ ?_
    refine (knot_ok h0 (e0.trans (hx1_.trans (hx2_.trans hx3_))) h1 (e1.trans (hx1_.trans (hx2_.trans hx3_))) (by assumption) (by assumption)).mono ?_
    rintro _ w4_ ⟨hx4_, rfl⟩
    refine rd_neq ?_
    refine br (fun c2 => ?_) (fun c2 => ?_)
    · refine rd_var hV2 (hx2_.trans (hx3_.trans hx4_)) ?_
      refine rd_var hV3 (hx3_.trans hx4_) ?_
      refine (waits_ok h0 (e0.trans (hx1_.trans (hx2_.trans (hx3_.trans hx4_)))) h1 (e1.trans (hx1_.trans (hx2_.trans (hx3_.trans hx4_)))) (by assumption) (by assumption)).mono ?_
      rintro _ w5_ ⟨hx5_, rfl⟩
      have hw0 := knotOf_waits (c := c) (s := s) (t := k) (by omega)
      obtain ⟨l, hl⟩ : ∃ l : Nat, waitsOf c s k = (l : Int) := ⟨(waitsOf c s k).toNat, by omega⟩
      rw [hl] at hw ⊢
      have hp : 2 ^ l < 64 := Nat.pow_lt_pow_right (n := 6) (by omega) (by omega)
      refine rd_uint (by kernel_rfl) u102 (by omega) ?_
      refine rd_shl1 (by omega) ?_
      refine rd_or (by omega) (by omega) ?_
      refine rd_inc (by omega) ?_
      refine ⟨m3 - 1, by omega, k + 1, by omega, by rw [knotsTo, if_pos (by omega), hl]; rfl, (hx3_.trans (hx4_.trans hx5_)), ?_⟩
      trivial
    · refine rd_inc (by omega) ?_
      refine ⟨m3 - 1, by omega, k + 1, by omega, by rw [knotsTo, if_neg (by omega)], (hx3_.trans hx4_), ?_⟩
      trivial
  · refine ⟨(hx1_.trans (hx2_.trans hx3_)), ?_⟩
    rw [show k = s.stacks.length by omega]

theorem knotG_found {c : DCode} {s : DState} (hc : CodeR c) (hs : StateR c s) {t u : Int} {n m : Nat} (h1 : ¬ waitsOf c s u < 0) (h2 : ow s (waitsOf c s u) = t) : knotG c s t (n + 1) m u ≠ 0 := by
  rw [knotG, if_neg h1, if_pos h2]
  intro e
  have := congrArg (·.testBit (waitsOf c s u).toNat) e
  simp [Nat.testBit_or, Nat.testBit_two_pow] at this
/-- spec.l24Knot -/
def F102 (a0 a1 : Value) (w : World) (R : Value → World → Prop) : Prop :=
  OP Tryz.prog (Instr.box 37 a0) w fun x2 w =>
  OP Tryz.prog (Instr.box 32 a1) w fun x3 w =>
  LOOPI [5, 6] [(Value.int .i64 0), (Value.int .i64 0)] w fun u3 w next3 =>
   RD Tryz.prog (Instr.fieldAt 32 x3 2) w fun x11 =>
   RD Tryz.prog (Instr.loadAt 27 x11) w fun x12 =>
   RD Tryz.prog (Builtin.len_ #[27] 3 [x12].toArray) w fun x13 =>
   RD Tryz.prog (bin .lss 3 (.tmp 0) (.tmp 0) (u3 6) x13) w fun x14 =>
   BR x14
    (LOOPI [5, 7, 8] [(u3 5), (u3 6), (Value.int .i64 0)] w fun u7 w next7 =>
     RD Tryz.prog (Instr.fieldAt 32 x3 2) w fun x19 =>
     RD Tryz.prog (Instr.loadAt 27 x19) w fun x20 =>
     RD Tryz.prog (Builtin.len_ #[27] 3 [x20].toArray) w fun x21 =>
     RD Tryz.prog (bin .lss 3 (.tmp 0) (.tmp 0) (u7 8) x21) w fun x22 =>
     BR x22
      (RD Tryz.prog (Instr.loadAt 37 x2) w fun x25 =>
      RD Tryz.prog (Instr.loadAt 32 x3) w fun x26 =>
      CALL Tryz.prog 171 [x25, x26, (u7 7)] w fun x28 w =>
      RD Tryz.prog (bin .lss 3 (.tmp 0) (.const undef) x28 (Value.int .i64 0)) w fun x30 =>
      BR x30
       (RD Tryz.prog (bin .add 3 (.tmp 0) (.const undef) (u3 6) (Value.int .i64 1)) w fun x16 =>
       next3 [(u7 5), x16] w)
       (RD Tryz.prog (Instr.fieldAt 32 x3 1) w fun x31 =>
       RD Tryz.prog (Instr.loadAt 23 x31) w fun x32 =>
       RD Tryz.prog (Instr.indexAt 23 x32 x28) w fun x34 =>
       RD Tryz.prog (Instr.loadAt 3 x34) w fun x35 =>
       RD Tryz.prog (bin .eql 3 (.tmp 0) (.tmp 0) x35 (u3 6)) w fun x38 =>
       BR x38
        (RD Tryz.prog (Instr.loadAt 37 x2) w fun x40 =>
        RD Tryz.prog (Instr.loadAt 32 x3) w fun x41 =>
        CALL Tryz.prog 171 [x40, x41, (u3 6)] w fun x43 w =>
        CALL Tryz.prog 153 [x43] w fun x44 w =>
        RD Tryz.prog (bin .or 3 (.tmp 0) (.tmp 0) (u7 5) x44) w fun x45 =>
        RD Tryz.prog (bin .add 3 (.tmp 0) (.const undef) (u3 6) (Value.int .i64 1)) w fun x16 =>
        next3 [x45, x16] w)
        (RD Tryz.prog (bin .add 3 (.tmp 0) (.const undef) (u7 8) (Value.int .i64 1)) w fun x24 =>
        next7 [(u7 5), x35, x24] w)))
      (RD Tryz.prog (bin .add 3 (.tmp 0) (.const undef) (u3 6) (Value.int .i64 1)) w fun x16 =>
      next3 [(u7 5), x16] w))
    (CALL Tryz.prog 172 [(u3 5)] w fun x47 w =>
    R x47 w)
def cfg102 : Cfg := { ext := extL, joins := [], loops := [(3, 70368744177632, [5, 6]), (7, 70368743916448, [5, 7, 8])], draws := [], pars := [] }
theorem F102_eq (a0 a1 : Value) (w : World) (R : Value → World → Prop) : vcF Tryz.prog cfg102 Tryz.f102 [a0, a1] w R = F102 a0 a1 w R := by kernel_rfl
theorem F102_call {a0 a1 : Value} {w : World} {R : Value → World → Prop} (h : F102 a0 a1 w R) : CALL Tryz.prog 102 [a0, a1] w R :=
  call_of (g := cfg102) ent mixed Tryz.func102 (Nat.le_of_ble_eq_true (by kernel_rfl)) (by kernel_rfl) (F102_eq a0 a1 w R ▸ h)


theorem l24Knot_ok {w : World} {v0 : Value} {W0 : World} {c : DCode} {v1 : Value} {W1 : World} {s : DState}  (h0 : Is W0 v0 c) (e0 : Ext W0 w) (h1 : Is W1 v1 s) (e1 : Ext W1 w) (hc : CodeR c) (hs : StateR c s) :
    CALL Tryz.prog 102 [v0, v1] w fun r w' => Ext w w' ∧ (Own w.heap.size w' r (bitsL (knotsTo c s s.stacks.length))) := by
  refine F102_call ?_
  unfold F102
  have hs_e0 := e0.size
  have hs_e1 := e1.size
  refine op_boxS ty37 rfl h0 e0 fun w1_ hx1_ hA2 hV2 => ?_
  have hs_hx1_ := hx1_.size
  refine op_boxS ty32 rfl h1 (e1.trans hx1_) fun w2_ hx2_ hA3 hV3 => ?_
  have hs_hx2_ := hx2_.size
  refine loopC (s.stacks.length) (fun k us w' => us = [.int .i64 (knotsTo c s k : Int), .int .i64 (k : Int)] ∧ Ext w2_ w' ∧ (True)) (0) (by omega) ⟨rfl, Ext.refl w2_, trivial⟩ ?_
  rintro k m3 uu3 w3_ hk3 ⟨hu, hx3_, _⟩
  have hs_hx3_ := hx3_.size
  simp only [List.map_cons, List.map_nil, List.cons.injEq, and_true] at hu
  obtain ⟨hu0, hu1⟩ := hu
  try rw [hu0]
  try rw [hu1]
  try clear hu0 hu1
  have hwk := waits_lt hc hs k; have hl6 := hc.1.locks6; have hmany := hs.2.2.1; have hk64 := knotsTo_lt hc hs k; have hk1 := knotsTo_lt hc hs (k + 1); rw [knotsTo] at hk1
  refine rd_fld fd32_2 ?_
  refine rd_load ty27 (at_DState_2 hA3) hx3_ fun v12 h12 => ?_
  have hln13 := is_len h12
  refine rd_len u27 h12 ?_
  refine rd_lss ?_
  refine br (fun c1 => ?_) (fun c1 => ?_)
  · refine loopC (s.stacks.length) (fun j us w' => ∃ q : Nat × Int, us = [.int .i64 (knotsTo c s k : Int), .int .i64 q.2, .int .i64 (j : Int)] ∧ Ext w3_ w' ∧ (knotG c s k (s.stacks.length - j) q.1 q.2 = knotOf c s k)) (0) (by omega) ⟨(0, (k : Int)), rfl, Ext.refl w3_, rfl⟩ ?_
    rintro j m7 uu7 w4_ hk7 ⟨q, hu, hx4_, hq2⟩
    have hs_hx4_ := hx4_.size
    simp only [List.map_cons, List.map_nil, List.cons.injEq, and_true] at hu
    obtain ⟨hu0, hu1, hu2⟩ := hu
    try rw [hu0]
    try rw [hu1]
    try rw [hu2]
    try clear hu0 hu1 hu2
    obtain ⟨q, u⟩ := q; simp only at hq2 ⊢; have hw := waits_lt hc hs u
    refine rd_fld fd32_2 ?_
    refine rd_load ty27 (at_DState_2 hA3) (hx3_.trans hx4_) fun v20 h20 => ?_
    have hln21 := is_len h20
    refine rd_len u27 h20 ?_
    refine rd_lss ?_
    refine br (fun c2 => ?_) (fun c2 => ?_)
    · refine rd_var hV2 (hx2_.trans (hx3_.trans hx4_)) ?_
      refine rd_var hV3 (hx3_.trans hx4_) ?_
      refine (l24Waits_ok h0 (e0.trans (hx1_.trans (hx2_.trans (hx3_.trans hx4_)))) h1 (e1.trans (hx1_.trans (hx2_.trans (hx3_.trans hx4_)))) (by assumption) (by assumption)).mono ?_
      rintro _ w5_ ⟨hx5_, rfl⟩
      have hs_hx5_ := hx5_.size
      refine rd_lss ?_
      refine br (fun c3 => ?_) (fun c3 => ?_)
      · refine rd_inc (by omega) ?_
        refine ⟨m3 - 1, by omega, k + 1, by omega, by rw [show s.stacks.length - j = (s.stacks.length - j - 1) + 1 by omega, knotG, if_pos c3] at hq2; rw [knotsTo, if_neg (by omega)], (hx3_.trans (hx4_.trans hx5_)), ?_⟩
        trivial
      · refine rd_fld fd32_1 ?_
        refine rd_load ty23 (at_DState_1 hA3) (hx3_.trans (hx4_.trans hx5_)) fun v32 h32 => ?_
        refine rd_index u23 ty3 h32 (by omega) (by omega) fun b34 o34 h34 => ?_
        rw [ow_get' (by omega) (hw.2.2 (by omega)).1] at h34
        refine rd_loadI ty3 h34 (hx3_.trans (hx4_.trans hx5_)) fun hI35 => ?_
        refine rd_eql ?_
        refine br (fun c4 => ?_) (fun c4 => ?_)
        · refine rd_var hV2 (hx2_.trans (hx3_.trans (hx4_.trans hx5_))) ?_
          refine rd_var hV3 (hx3_.trans (hx4_.trans hx5_)) ?_
          refine (l24Waits_ok h0 (e0.trans (hx1_.trans (hx2_.trans (hx3_.trans (hx4_.trans hx5_))))) h1 (e1.trans (hx1_.trans (hx2_.trans (hx3_.trans (hx4_.trans hx5_))))) (by assumption) (by assumption)).mono ?_
          rintro _ w6_ ⟨hx6_, rfl⟩
          have hs_hx6_ := hx6_.size
          have hf : knotOf c s k ≠ 0 := by rw [← hq2, show s.stacks.length - j = (s.stacks.length - j - 1) + 1 by omega]; exact knotG_found hc hs c3 c4
          have hw0 := knotOf_waits hf
          obtain ⟨l, hl⟩ : ∃ l : Nat, waitsOf c s k = (l : Int) := ⟨(waitsOf c s k).toNat, by omega⟩
          rw [hl] at hwk ⊢
          have hp : 2 ^ l < 64 := Nat.pow_lt_pow_right (n := 6) (by omega) (by omega)
          refine (l12Bit_ok (by omega)).mono ?_
          rintro _ w7_ ⟨hx7_, rfl⟩
          have hs_hx7_ := hx7_.size
          refine rd_or (by omega) (by omega) ?_
          refine rd_inc (by omega) ?_
          refine ⟨m3 - 1, by omega, k + 1, by omega, by rw [knotsTo, if_pos hf, hl]; rfl, (hx3_.trans (hx4_.trans (hx5_.trans (hx6_.trans hx7_)))), ?_⟩
          trivial
        · refine rd_inc (by omega) ?_
          refine ⟨m7 - 1, by omega, j + 1, by omega, (q ||| 2 ^ (waitsOf c s u).toNat, ow s (waitsOf c s u)), rfl, (hx4_.trans hx5_), ?_⟩
          rw [show s.stacks.length - j = (s.stacks.length - j - 1) + 1 by omega, knotG, if_neg c3, if_neg c4] at hq2
          rw [← hq2, Nat.sub_sub]
    · refine rd_inc (by omega) ?_
      refine ⟨m3 - 1, by omega, k + 1, by omega, by rw [show s.stacks.length - j = 0 by omega, knotG] at hq2; rw [knotsTo, if_neg (by omega)], (hx3_.trans hx4_), ?_⟩
      trivial
  · have hkk : k = s.stacks.length := by omega
    refine (listOf_ok (by omega)).mono ?_
    rintro r47 w8_ ⟨hx8_, o47⟩
    have o47 := o47.toI
    have hs_hx8_ := hx8_.size
    refine ⟨(hx1_.trans (hx2_.trans (hx3_.trans hx8_))), ?_⟩
    rw [← hkk]; exact o47.own.mono (by omega)

def knotsL (c : DCode) (s : DState) : List Int := if CodeR c ∧ StateR c s then bitsL (knotsTo c s s.stacks.length) else []
end Go.Proofs.YteephmhilnlkpaaGreat
