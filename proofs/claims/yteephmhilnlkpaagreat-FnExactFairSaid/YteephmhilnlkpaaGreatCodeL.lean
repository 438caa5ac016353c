/-
  What the laws do with code: sizes, copies, comparisons.
-/
import Derived.Test.YteephmhilnlkpaaGreatConv
import Derived.Test.YteephmhilnlkpaaGreatTerm
namespace Go.Proofs.YteephmhilnlkpaaGreat
open Go Go.Sh Go.Proofs
set_option linter.unusedVariables false
/-- laws.toStringS -/
def F68 (a0 : Value) (w : World) (R : Value → World → Prop) : Prop :=
  RD Tryz.prog (Builtin.len_ #[22] 3 [a0].toArray) w fun x6 =>
  OP Tryz.prog (Instr.makeSlice 22 x6 x6) w fun x7 w =>
  LOOPI [4] [(Value.int .i64 0)] w fun u3 w next3 =>
   RD Tryz.prog (Builtin.len_ #[22] 3 [a0].toArray) w fun x10 =>
   RD Tryz.prog (bin .lss 3 (.tmp 0) (.tmp 0) (u3 4) x10) w fun x11 =>
   BR x11
    (RD Tryz.prog (Instr.indexAt 22 a0 (u3 4)) w fun x18 =>
    RD Tryz.prog (Instr.loadAt 9 x18) w fun x19 =>
    RD Tryz.prog (Instr.indexAt 22 x7 (u3 4)) w fun x20 =>
    OPU Tryz.prog (Instr.storeAt 9 x20 x19) w fun w =>
    RD Tryz.prog (bin .add 3 (.tmp 0) (.const undef) (u3 4) (Value.int .i64 1)) w fun x13 =>
    next3 [x13] w)
    (R x7 w)
def cfg68 : Cfg := { ext := extL, joins := [], loops := [(3, 2096912, [4])], draws := [], pars := [] }
theorem F68_eq (a0 : Value) (w : World) (R : Value → World → Prop) : vcF Tryz.prog cfg68 Tryz.f68 [a0] w R = F68 a0 w R := by kernel_rfl
theorem F68_call {a0 : Value} {w : World} {R : Value → World → Prop} (h : F68 a0 w R) : CALL Tryz.prog 68 [a0] w R :=
  call_of (g := cfg68) ent mixed Tryz.func68 (Nat.le_of_ble_eq_true (by kernel_rfl)) (by kernel_rfl) (F68_eq a0 w R ▸ h)

/-- laws.toTermS -/
def F250 (a0 : Value) (w : World) (R : Value → World → Prop) : Prop :=
  RD Tryz.prog (Builtin.len_ #[126] 3 [a0].toArray) w fun x6 =>
  OP Tryz.prog (Instr.makeSlice 131 x6 x6) w fun x7 w =>
  LOOPI [4] [(Value.int .i64 0)] w fun u3 w next3 =>
   RD Tryz.prog (Builtin.len_ #[126] 3 [a0].toArray) w fun x10 =>
   RD Tryz.prog (bin .lss 3 (.tmp 0) (.tmp 0) (u3 4) x10) w fun x11 =>
   BR x11
    (RD Tryz.prog (Instr.indexAt 126 a0 (u3 4)) w fun x18 =>
    RD Tryz.prog (Instr.loadAt 128 x18) w fun x19 =>
    CALL Tryz.prog 194 [x19] w fun x20 w =>
    RD Tryz.prog (Instr.indexAt 131 x7 (u3 4)) w fun x21 =>
    OPU Tryz.prog (Instr.storeAt 133 x21 x20) w fun w =>
    RD Tryz.prog (bin .add 3 (.tmp 0) (.const undef) (u3 4) (Value.int .i64 1)) w fun x13 =>
    next3 [x13] w)
    (R x7 w)
def cfg250 : Cfg := { ext := extL, joins := [], loops := [(3, 4194064, [4])], draws := [], pars := [] }
theorem F250_eq (a0 : Value) (w : World) (R : Value → World → Prop) : vcF Tryz.prog cfg250 Tryz.f250 [a0] w R = F250 a0 w R := by kernel_rfl
theorem F250_call {a0 : Value} {w : World} {R : Value → World → Prop} (h : F250 a0 w R) : CALL Tryz.prog 250 [a0] w R :=
  call_of (g := cfg250) ent mixed Tryz.func250 (Nat.le_of_ble_eq_true (by kernel_rfl)) (by kernel_rfl) (F250_eq a0 w R ▸ h)

/-- laws.toInsS -/
def F69 (a0 : Value) (w : World) (R : Value → World → Prop) : Prop :=
  RD Tryz.prog (Builtin.len_ #[24] 3 [a0].toArray) w fun x6 =>
  OP Tryz.prog (Instr.makeSlice 35 x6 x6) w fun x7 w =>
  LOOPI [4] [(Value.int .i64 0)] w fun u3 w next3 =>
   RD Tryz.prog (Builtin.len_ #[24] 3 [a0].toArray) w fun x10 =>
   RD Tryz.prog (bin .lss 3 (.tmp 0) (.tmp 0) (u3 4) x10) w fun x11 =>
   BR x11
    (RD Tryz.prog (Instr.indexAt 24 a0 (u3 4)) w fun x18 =>
    RD Tryz.prog (Instr.loadAt 130 x18) w fun x19 =>
    CALL Tryz.prog 123 [x19] w fun x20 w =>
    RD Tryz.prog (Instr.indexAt 35 x7 (u3 4)) w fun x21 =>
    OPU Tryz.prog (Instr.storeAt 135 x21 x20) w fun w =>
    RD Tryz.prog (bin .add 3 (.tmp 0) (.const undef) (u3 4) (Value.int .i64 1)) w fun x13 =>
    next3 [x13] w)
    (R x7 w)
def cfg69 : Cfg := { ext := extL, joins := [], loops := [(3, 4194064, [4])], draws := [], pars := [] }
theorem F69_eq (a0 : Value) (w : World) (R : Value → World → Prop) : vcF Tryz.prog cfg69 Tryz.f69 [a0] w R = F69 a0 w R := by kernel_rfl
theorem F69_call {a0 : Value} {w : World} {R : Value → World → Prop} (h : F69 a0 w R) : CALL Tryz.prog 69 [a0] w R :=
  call_of (g := cfg69) ent mixed Tryz.func69 (Nat.le_of_ble_eq_true (by kernel_rfl)) (by kernel_rfl) (F69_eq a0 w R ▸ h)

set_option linter.unusedVariables false

def wStr (l : List ByteArray) : Nat := l.length + sm ByteArray.size l
mutual
def wT : DTerm → Nat
  | .mk _ _ s ks => s.size + wTs ks
def wTs : List DTerm → Nat
  | [] => 0
  | t :: r => 1 + wT t + wTs r
end
theorem wTs_eq (l : List DTerm) : wTs l = l.length + sm wT l := by
  induction l with
  | nil => simp [wTs, sm]
  | cons t l ih => rw [wTs, ih]; simp [sm]; omega
theorem wT_eq (t : DTerm) : wT t = t.name.size + wTs t.kids := by cases t; rw [wT]; rfl
def wIns (l : List DIns) : Nat := l.length + sm (fun i => wT i.term) l
def wCode (c : DCode) : Nat := wStr c.globals + wStr c.locks + wStr c.procs + c.entry.length + wIns c.ins

/-- laws.szStringS -/
def F61 (a0 a1 : Value) (w : World) (R : Value → World → Prop) : Prop :=
  RD Tryz.prog (Builtin.len_ #[22] 3 [a0].toArray) w fun x8 =>
  RD Tryz.prog (bin .sub 3 (.tmp 0) (.tmp 0) a1 x8) w fun x9 =>
  RD Tryz.prog (bin .lss 3 (.tmp 0) (.const undef) x9 (Value.int .i64 0)) w fun x11 =>
  BR x11
   (R (Value.int .i64 (-1)) w)
   (LOOPI [1, 5] [x9, (Value.int .i64 0)] w fun u5 w next5 =>
    RD Tryz.prog (Builtin.len_ #[22] 3 [a0].toArray) w fun x14 =>
    RD Tryz.prog (bin .lss 3 (.tmp 0) (.tmp 0) (u5 5) x14) w fun x15 =>
    BR x15
     (RD Tryz.prog (Instr.indexAt 22 a0 (u5 5)) w fun x21 =>
     RD Tryz.prog (Instr.loadAt 9 x21) w fun x22 =>
     RD Tryz.prog (Builtin.len_ #[9] 3 [x22].toArray) w fun x23 =>
     RD Tryz.prog (bin .sub 3 (.tmp 0) (.tmp 0) (u5 1) x23) w fun x24 =>
     RD Tryz.prog (bin .lss 3 (.tmp 0) (.const undef) x24 (Value.int .i64 0)) w fun x26 =>
     BR x26
      (R (Value.int .i64 (-1)) w)
      (RD Tryz.prog (bin .add 3 (.tmp 0) (.const undef) (u5 5) (Value.int .i64 1)) w fun x17 =>
      next5 [x24, x17] w))
     (R (u5 1) w))
def cfg61 : Cfg := { ext := extL, joins := [], loops := [(5, 134213682, [1, 5])], draws := [], pars := [] }
theorem F61_eq (a0 a1 : Value) (w : World) (R : Value → World → Prop) : vcF Tryz.prog cfg61 Tryz.f61 [a0, a1] w R = F61 a0 a1 w R := by kernel_rfl
theorem F61_call {a0 a1 : Value} {w : World} {R : Value → World → Prop} (h : F61 a0 a1 w R) : CALL Tryz.prog 61 [a0, a1] w R :=
  call_of (g := cfg61) ent mixed Tryz.func61 (Nat.le_of_ble_eq_true (by kernel_rfl)) (by kernel_rfl) (F61_eq a0 a1 w R ▸ h)


theorem szStringS_ok {w : World} {v0 : Value} {W0 : World} {l : (List ByteArray)} {left : Int}  (h0 : Is W0 v0 l) (e0 : Ext W0 w) (hl0 : -1 ≤ left) (hl1 : left ≤ 1048576) :
    CALL Tryz.prog 61 [v0, .int .i64 left] w fun r w' => Ext w w' ∧ (∃ n : Int, r = .int .i64 n ∧ -1 ≤ n ∧ n ≤ left ∧ (0 ≤ n → n + wStr l ≤ left)) := by
  refine F61_call ?_
  unfold F61
  have hl := is_len h0
  have hln8 := is_len h0
  refine rd_len u22 h0 ?_
  refine rd_sub (by unfold I64; omega) ?_
  refine rd_lss ?_
  refine br (fun c1 => ?_) (fun c1 => ?_)
  · refine ⟨Ext.refl w, ?_⟩
    exact ⟨-1, rfl, by omega, by omega, by omega⟩
  · refine loopC (l.length) (fun k us w' => ∃ q : Int, us = [.int .i64 q, .int .i64 (k : Int)] ∧ Ext w w' ∧ (0 ≤ q ∧ q + l.length + sm ByteArray.size (l.take k) = left)) (0) (by omega) ⟨left - l.length, by simp, Ext.refl w, by omega, by simp [sm]⟩ ?_
    rintro k m5 uu5 w1_ hk5 ⟨q, hu, hx1_, hq0, hq1⟩
    simp only [List.map_cons, List.map_nil, List.cons.injEq, and_true] at hu
    obtain ⟨hu0, hu1⟩ := hu
    try rw [hu0]
    try rw [hu1]
    try clear hu0 hu1
    have hln14 := is_len h0
    refine rd_len u22 h0 ?_
    refine rd_lss ?_
    refine br (fun c2 => ?_) (fun c2 => ?_)
    · refine rd_indexN u22 ty9 h0 (by omega) fun b21 o21 h21 => ?_
      refine rd_loadS ty9 h21 (e0.trans hx1_) fun hS22 => ?_
      refine rd_lenS u9 ?_
      rw [maxLen_eq] at hS22
      refine rd_sub (by unfold I64; omega) ?_
      refine rd_lss ?_
      refine br (fun c3 => ?_) (fun c3 => ?_)
      · refine ⟨hx1_, ?_⟩
        exact ⟨-1, rfl, by omega, by omega, by omega⟩
      · refine rd_inc (by omega) ?_
        refine ⟨m5 - 1, by omega, k + 1, by omega, _, rfl, hx1_, ?_⟩
        refine ⟨by omega, ?_⟩
        rw [sm_take _ (by omega)]
        omega
    · refine ⟨hx1_, ?_⟩
      rw [List.take_of_length_le (by omega)] at hq1
      exact ⟨q, rfl, by omega, by omega, fun _ => by unfold wStr; omega⟩


def SzTerm (t : DTerm) : Prop := ∀ {w W : World} {v : Value} {left : Int}, Is W v t → Ext W w → -1 ≤ left → left ≤ 1048576 →
  CALL Tryz.prog 191 [v, .int .i64 left] w fun r w' => Ext w w' ∧ ∃ n : Int, r = .int .i64 n ∧ -1 ≤ n ∧ n ≤ left ∧ (0 ≤ n → n + wT t ≤ left)
def SzTermS (t : List DTerm) : Prop := ∀ {w W : World} {v : Value} {left : Int}, Is W v t → Ext W w → -1 ≤ left → left ≤ 1048576 →
  CALL Tryz.prog 246 [v, .int .i64 left] w fun r w' => Ext w w' ∧ ∃ n : Int, r = .int .i64 n ∧ -1 ≤ n ∧ n ≤ left ∧ (0 ≤ n → n + wTs t ≤ left)
/-- laws.szTermS -/
def F246 (a0 a1 : Value) (w : World) (R : Value → World → Prop) : Prop :=
  RD Tryz.prog (Builtin.len_ #[126] 3 [a0].toArray) w fun x8 =>
  RD Tryz.prog (bin .sub 3 (.tmp 0) (.tmp 0) a1 x8) w fun x9 =>
  RD Tryz.prog (bin .lss 3 (.tmp 0) (.const undef) x9 (Value.int .i64 0)) w fun x11 =>
  BR x11
   (R (Value.int .i64 (-1)) w)
   (LOOPI [1, 5] [x9, (Value.int .i64 0)] w fun u5 w next5 =>
    RD Tryz.prog (Builtin.len_ #[126] 3 [a0].toArray) w fun x14 =>
    RD Tryz.prog (bin .lss 3 (.tmp 0) (.tmp 0) (u5 5) x14) w fun x15 =>
    BR x15
     (RD Tryz.prog (Instr.indexAt 126 a0 (u5 5)) w fun x20 =>
     RD Tryz.prog (Instr.loadAt 128 x20) w fun x21 =>
     CALL Tryz.prog 191 [x21, (u5 1)] w fun x23 w =>
     RD Tryz.prog (bin .lss 3 (.tmp 0) (.const undef) x23 (Value.int .i64 0)) w fun x25 =>
     BR x25
      (R (Value.int .i64 (-1)) w)
      (RD Tryz.prog (bin .add 3 (.tmp 0) (.const undef) (u5 5) (Value.int .i64 1)) w fun x17 =>
      next5 [x23, x17] w))
     (R (u5 1) w))
def cfg246 : Cfg := { ext := extL, joins := [], loops := [(5, 67104818, [1, 5])], draws := [], pars := [] }
theorem F246_eq (a0 a1 : Value) (w : World) (R : Value → World → Prop) : vcF Tryz.prog cfg246 Tryz.f246 [a0, a1] w R = F246 a0 a1 w R := by kernel_rfl
theorem F246_call {a0 a1 : Value} {w : World} {R : Value → World → Prop} (h : F246 a0 a1 w R) : CALL Tryz.prog 246 [a0, a1] w R :=
  call_of (g := cfg246) ent mixed Tryz.func246 (Nat.le_of_ble_eq_true (by kernel_rfl)) (by kernel_rfl) (F246_eq a0 a1 w R ▸ h)


theorem szTermS_step {w : World} {v0 : Value} {W0 : World} {l : (List DTerm)} {left : Int}  (h0 : Is W0 v0 l) (e0 : Ext W0 w) (ih : ∀ t ∈ l, SzTerm t) (hl0 : -1 ≤ left) (hl1 : left ≤ 1048576) :
    CALL Tryz.prog 246 [v0, .int .i64 left] w fun r w' => Ext w w' ∧ (∃ n : Int, r = .int .i64 n ∧ -1 ≤ n ∧ n ≤ left ∧ (0 ≤ n → n + wTs l ≤ left)) := by
  refine F246_call ?_
  unfold F246
  have hl := is_len h0
  have hln8 := is_len h0
  refine rd_len u126 h0 ?_
  refine rd_sub (by unfold I64; omega) ?_
  refine rd_lss ?_
  refine br (fun c1 => ?_) (fun c1 => ?_)
  · refine ⟨Ext.refl w, ?_⟩
    exact ⟨-1, rfl, by omega, by omega, by omega⟩
  · refine loopC (l.length) (fun k us w' => ∃ q : Int, us = [.int .i64 q, .int .i64 (k : Int)] ∧ Ext w w' ∧ (0 ≤ q ∧ q + l.length + sm wT (l.take k) ≤ left)) (0) (by omega) ⟨left - l.length, by simp, Ext.refl w, by omega, by simp [sm]⟩ ?_
    rintro k m5 uu5 w1_ hk5 ⟨q, hu, hx1_, hq0, hq1⟩
    simp only [List.map_cons, List.map_nil, List.cons.injEq, and_true] at hu
    obtain ⟨hu0, hu1⟩ := hu
    try rw [hu0]
    try rw [hu1]
    try clear hu0 hu1
    have hln14 := is_len h0
    refine rd_len u126 h0 ?_
    refine rd_lss ?_
    refine br (fun c2 => ?_) (fun c2 => ?_)
    · refine rd_indexN u126 ty128 h0 (by omega) fun b20 o20 h20 => ?_
      refine rd_load ty128 h20 (e0.trans hx1_) fun v21 h21 => ?_
      refine (ih _ (List.getElem_mem _) h21 (e0.trans hx1_) (by omega) (by omega)).mono ?_
      rintro _ w2_ ⟨hx2_, n23, rfl, hn23⟩
      refine rd_lss ?_
      refine br (fun c3 => ?_) (fun c3 => ?_)
      · refine ⟨(hx1_.trans hx2_), ?_⟩
        exact ⟨-1, rfl, by omega, by omega, by omega⟩
      · refine rd_inc (by omega) ?_
        refine ⟨m5 - 1, by omega, k + 1, by omega, _, rfl, (hx1_.trans hx2_), ?_⟩
        refine ⟨by omega, ?_⟩
        rw [sm_take _ (by omega)]
        have := hn23.2.2 (by omega)
        omega
    · refine ⟨hx1_, ?_⟩
      rw [List.take_of_length_le (by omega)] at hq1
      exact ⟨q, rfl, by omega, by omega, fun _ => by rw [wTs_eq]; omega⟩

/-- laws.szTerm -/
def F191 (a0 a1 : Value) (w : World) (R : Value → World → Prop) : Prop :=
  OP Tryz.prog (Instr.box 128 a0) w fun x2 w =>
  RD Tryz.prog (Instr.fieldAt 128 x2 2) w fun x6 =>
  RD Tryz.prog (Instr.loadAt 9 x6) w fun x7 =>
  RD Tryz.prog (Builtin.len_ #[9] 3 [x7].toArray) w fun x8 =>
  RD Tryz.prog (bin .sub 3 (.tmp 0) (.tmp 0) a1 x8) w fun x9 =>
  RD Tryz.prog (bin .lss 3 (.tmp 0) (.const undef) x9 (Value.int .i64 0)) w fun x11 =>
  BR x11
   (R (Value.int .i64 (-1)) w)
   (RD Tryz.prog (Instr.fieldAt 128 x2 3) w fun x12 =>
   RD Tryz.prog (Instr.loadAt 126 x12) w fun x13 =>
   CALL Tryz.prog 246 [x13, x9] w fun x15 w =>
   RD Tryz.prog (bin .lss 3 (.tmp 0) (.const undef) x15 (Value.int .i64 0)) w fun x17 =>
   BR x17
    (R (Value.int .i64 (-1)) w)
    (R x15 w))
def cfg191 : Cfg := { ext := extL, joins := [], loops := [], draws := [], pars := [] }
theorem F191_eq (a0 a1 : Value) (w : World) (R : Value → World → Prop) : vcF Tryz.prog cfg191 Tryz.f191 [a0, a1] w R = F191 a0 a1 w R := by kernel_rfl
theorem F191_call {a0 a1 : Value} {w : World} {R : Value → World → Prop} (h : F191 a0 a1 w R) : CALL Tryz.prog 191 [a0, a1] w R :=
  call_of (g := cfg191) ent mixed Tryz.func191 (Nat.le_of_ble_eq_true (by kernel_rfl)) (by kernel_rfl) (F191_eq a0 a1 w R ▸ h)


theorem szTerm_step {w : World} {v0 : Value} {W0 : World} {t : DTerm} {left : Int}  (h0 : Is W0 v0 t) (e0 : Ext W0 w) (ih : SzTermS t.kids) (hl0 : -1 ≤ left) (hl1 : left ≤ 1048576) :
    CALL Tryz.prog 191 [v0, .int .i64 left] w fun r w' => Ext w w' ∧ (∃ n : Int, r = .int .i64 n ∧ -1 ≤ n ∧ n ≤ left ∧ (0 ≤ n → n + wT t ≤ left)) := by
  refine F191_call ?_
  unfold F191
  refine op_boxS ty128 rfl h0 e0 fun w1_ hx1_ hA2 hV2 => ?_
  refine rd_fld fd128_2 ?_
  refine rd_loadS ty9 (at_DTerm_2 hA2) (Ext.refl w1_) fun hS7 => ?_
  refine rd_lenS u9 ?_
  rw [maxLen_eq] at hS7
  refine rd_sub (by unfold I64; omega) ?_
  refine rd_lss ?_
  refine br (fun c1 => ?_) (fun c1 => ?_)
  · refine ⟨hx1_, ?_⟩
    exact ⟨-1, rfl, by omega, by omega, by omega⟩
  · refine rd_fld fd128_3 ?_
    refine rd_load ty126 (at_DTerm_3 hA2) (Ext.refl w1_) fun v13 h13 => ?_
    refine (ih h13 (Ext.refl w1_) (by omega) (by omega)).mono ?_
    rintro _ w2_ ⟨hx2_, n15, rfl, hn15⟩
    refine rd_lss ?_
    refine br (fun c2 => ?_) (fun c2 => ?_)
    · refine ⟨(hx1_.trans hx2_), ?_⟩
      exact ⟨-1, rfl, by omega, by omega, by omega⟩
    · refine ⟨(hx1_.trans hx2_), ?_⟩
      refine ⟨n15, rfl, by omega, by omega, fun h => ?_⟩
      have := hn15.2.2 (by omega)
      rw [wT_eq]; omega

theorem szTerm_ok (t : DTerm) : SzTerm t := DTerm.ind (fun t ih {w W v left} h e h0 h1 => szTerm_step h e (fun {w W v left} h e h0 h1 => szTermS_step h e ih h0 h1) h0 h1) t
/-- laws.szIns -/
def F120 (a0 a1 : Value) (w : World) (R : Value → World → Prop) : Prop :=
  OP Tryz.prog (Instr.box 130 a0) w fun x2 w =>
  RD Tryz.prog (Instr.fieldAt 130 x2 2) w fun x5 =>
  RD Tryz.prog (Instr.loadAt 128 x5) w fun x6 =>
  CALL Tryz.prog 191 [x6, a1] w fun x8 w =>
  RD Tryz.prog (bin .lss 3 (.tmp 0) (.const undef) x8 (Value.int .i64 0)) w fun x10 =>
  BR x10
   (R (Value.int .i64 (-1)) w)
   (R x8 w)
def cfg120 : Cfg := { ext := extL, joins := [], loops := [], draws := [], pars := [] }
theorem F120_eq (a0 a1 : Value) (w : World) (R : Value → World → Prop) : vcF Tryz.prog cfg120 Tryz.f120 [a0, a1] w R = F120 a0 a1 w R := by kernel_rfl
theorem F120_call {a0 a1 : Value} {w : World} {R : Value → World → Prop} (h : F120 a0 a1 w R) : CALL Tryz.prog 120 [a0, a1] w R :=
  call_of (g := cfg120) ent mixed Tryz.func120 (Nat.le_of_ble_eq_true (by kernel_rfl)) (by kernel_rfl) (F120_eq a0 a1 w R ▸ h)


theorem szIns_ok {w : World} {v0 : Value} {W0 : World} {i : DIns} {left : Int}  (h0 : Is W0 v0 i) (e0 : Ext W0 w) (hl0 : -1 ≤ left) (hl1 : left ≤ 1048576) :
    CALL Tryz.prog 120 [v0, .int .i64 left] w fun r w' => Ext w w' ∧ (∃ n : Int, r = .int .i64 n ∧ -1 ≤ n ∧ n ≤ left ∧ (0 ≤ n → n + wT i.term ≤ left)) := by
  refine F120_call ?_
  unfold F120
  refine op_boxS ty130 rfl h0 e0 fun w1_ hx1_ hA2 hV2 => ?_
  refine rd_fld fd130_2 ?_
  refine rd_load ty128 (at_DIns_2 hA2) (Ext.refl w1_) fun v6 h6 => ?_
  refine ((szTerm_ok _) h6 (Ext.refl w1_) (by omega) (by omega)).mono ?_
  rintro _ w2_ ⟨hx2_, n8, rfl, hn8⟩
  refine rd_lss ?_
  refine br (fun c1 => ?_) (fun c1 => ?_)
  · refine ⟨(hx1_.trans hx2_), ?_⟩
    exact ⟨-1, rfl, by omega, by omega, by omega⟩
  · refine ⟨(hx1_.trans hx2_), ?_⟩
    exact ⟨n8, rfl, by omega, by omega, hn8.2.2⟩

/-- laws.szInsS -/
def F63 (a0 a1 : Value) (w : World) (R : Value → World → Prop) : Prop :=
  RD Tryz.prog (Builtin.len_ #[24] 3 [a0].toArray) w fun x8 =>
  RD Tryz.prog (bin .sub 3 (.tmp 0) (.tmp 0) a1 x8) w fun x9 =>
  RD Tryz.prog (bin .lss 3 (.tmp 0) (.const undef) x9 (Value.int .i64 0)) w fun x11 =>
  BR x11
   (R (Value.int .i64 (-1)) w)
   (LOOPI [1, 5] [x9, (Value.int .i64 0)] w fun u5 w next5 =>
    RD Tryz.prog (Builtin.len_ #[24] 3 [a0].toArray) w fun x14 =>
    RD Tryz.prog (bin .lss 3 (.tmp 0) (.tmp 0) (u5 5) x14) w fun x15 =>
    BR x15
     (RD Tryz.prog (Instr.indexAt 24 a0 (u5 5)) w fun x20 =>
     RD Tryz.prog (Instr.loadAt 130 x20) w fun x21 =>
     CALL Tryz.prog 120 [x21, (u5 1)] w fun x23 w =>
     RD Tryz.prog (bin .lss 3 (.tmp 0) (.const undef) x23 (Value.int .i64 0)) w fun x25 =>
     BR x25
      (R (Value.int .i64 (-1)) w)
      (RD Tryz.prog (bin .add 3 (.tmp 0) (.const undef) (u5 5) (Value.int .i64 1)) w fun x17 =>
      next5 [x23, x17] w))
     (R (u5 1) w))
def cfg63 : Cfg := { ext := extL, joins := [], loops := [(5, 67104818, [1, 5])], draws := [], pars := [] }
theorem F63_eq (a0 a1 : Value) (w : World) (R : Value → World → Prop) : vcF Tryz.prog cfg63 Tryz.f63 [a0, a1] w R = F63 a0 a1 w R := by kernel_rfl
theorem F63_call {a0 a1 : Value} {w : World} {R : Value → World → Prop} (h : F63 a0 a1 w R) : CALL Tryz.prog 63 [a0, a1] w R :=
  call_of (g := cfg63) ent mixed Tryz.func63 (Nat.le_of_ble_eq_true (by kernel_rfl)) (by kernel_rfl) (F63_eq a0 a1 w R ▸ h)


theorem szInsS_ok {w : World} {v0 : Value} {W0 : World} {l : (List DIns)} {left : Int}  (h0 : Is W0 v0 l) (e0 : Ext W0 w) (hl0 : -1 ≤ left) (hl1 : left ≤ 1048576) :
    CALL Tryz.prog 63 [v0, .int .i64 left] w fun r w' => Ext w w' ∧ (∃ n : Int, r = .int .i64 n ∧ -1 ≤ n ∧ n ≤ left ∧ (0 ≤ n → n + wIns l ≤ left)) := by
  refine F63_call ?_
  unfold F63
  have hl := is_len h0
  have hln8 := is_len h0
  refine rd_len u24 h0 ?_
  refine rd_sub (by unfold I64; omega) ?_
  refine rd_lss ?_
  refine br (fun c1 => ?_) (fun c1 => ?_)
  · refine ⟨Ext.refl w, ?_⟩
    exact ⟨-1, rfl, by omega, by omega, by omega⟩
  · refine loopC (l.length) (fun k us w' => ∃ q : Int, us = [.int .i64 q, .int .i64 (k : Int)] ∧ Ext w w' ∧ (0 ≤ q ∧ q + l.length + sm (fun i => wT i.term) (l.take k) ≤ left)) (0) (by omega) ⟨left - l.length, by simp, Ext.refl w, by omega, by simp [sm]⟩ ?_
    rintro k m5 uu5 w1_ hk5 ⟨q, hu, hx1_, hq0, hq1⟩
    simp only [List.map_cons, List.map_nil, List.cons.injEq, and_true] at hu
    obtain ⟨hu0, hu1⟩ := hu
    try rw [hu0]
    try rw [hu1]
    try clear hu0 hu1
    have hln14 := is_len h0
    refine rd_len u24 h0 ?_
    refine rd_lss ?_
    refine br (fun c2 => ?_) (fun c2 => ?_)
    · refine rd_indexN u24 ty130 h0 (by omega) fun b20 o20 h20 => ?_
      refine rd_load ty130 h20 (e0.trans hx1_) fun v21 h21 => ?_
      refine (szIns_ok h21 (e0.trans hx1_) (by omega) (by omega)).mono ?_
      rintro _ w2_ ⟨hx2_, n23, rfl, hn23⟩
      refine rd_lss ?_
      refine br (fun c3 => ?_) (fun c3 => ?_)
      · refine ⟨(hx1_.trans hx2_), ?_⟩
        exact ⟨-1, rfl, by omega, by omega, by omega⟩
      · refine rd_inc (by omega) ?_
        refine ⟨m5 - 1, by omega, k + 1, by omega, _, rfl, (hx1_.trans hx2_), ?_⟩
        refine ⟨by omega, ?_⟩
        rw [sm_take _ (by omega)]
        have := hn23.2.2 (by omega)
        omega
    · refine ⟨hx1_, ?_⟩
      rw [List.take_of_length_le (by omega)] at hq1
      exact ⟨q, rfl, by omega, by omega, fun _ => by unfold wIns; omega⟩

/-- laws.szCode -/
def F14 (a0 a1 : Value) (w : World) (R : Value → World → Prop) : Prop :=
  OP Tryz.prog (Instr.box 26 a0) w fun x2 w =>
  RD Tryz.prog (Instr.fieldAt 26 x2 0) w fun x5 =>
  RD Tryz.prog (Instr.loadAt 22 x5) w fun x6 =>
  CALL Tryz.prog 61 [x6, a1] w fun x8 w =>
  RD Tryz.prog (bin .lss 3 (.tmp 0) (.const undef) x8 (Value.int .i64 0)) w fun x10 =>
  BR x10
   (R (Value.int .i64 (-1)) w)
   (RD Tryz.prog (Instr.fieldAt 26 x2 1) w fun x11 =>
   RD Tryz.prog (Instr.loadAt 22 x11) w fun x12 =>
   CALL Tryz.prog 61 [x12, x8] w fun x14 w =>
   RD Tryz.prog (bin .lss 3 (.tmp 0) (.const undef) x14 (Value.int .i64 0)) w fun x16 =>
   BR x16
    (R (Value.int .i64 (-1)) w)
    (RD Tryz.prog (Instr.fieldAt 26 x2 2) w fun x17 =>
    RD Tryz.prog (Instr.loadAt 22 x17) w fun x18 =>
    CALL Tryz.prog 61 [x18, x14] w fun x20 w =>
    RD Tryz.prog (bin .lss 3 (.tmp 0) (.const undef) x20 (Value.int .i64 0)) w fun x22 =>
    BR x22
     (R (Value.int .i64 (-1)) w)
     (RD Tryz.prog (Instr.fieldAt 26 x2 3) w fun x23 =>
     RD Tryz.prog (Instr.loadAt 23 x23) w fun x24 =>
     CALL Tryz.prog 62 [x24, x20] w fun x26 w =>
     RD Tryz.prog (bin .lss 3 (.tmp 0) (.const undef) x26 (Value.int .i64 0)) w fun x28 =>
     BR x28
      (R (Value.int .i64 (-1)) w)
      (RD Tryz.prog (Instr.fieldAt 26 x2 4) w fun x29 =>
      RD Tryz.prog (Instr.loadAt 24 x29) w fun x30 =>
      CALL Tryz.prog 63 [x30, x26] w fun x32 w =>
      RD Tryz.prog (bin .lss 3 (.tmp 0) (.const undef) x32 (Value.int .i64 0)) w fun x34 =>
      BR x34
       (R (Value.int .i64 (-1)) w)
       (R x32 w)))))
def cfg14 : Cfg := { ext := extL, joins := [], loops := [], draws := [], pars := [] }
theorem F14_eq (a0 a1 : Value) (w : World) (R : Value → World → Prop) : vcF Tryz.prog cfg14 Tryz.f14 [a0, a1] w R = F14 a0 a1 w R := by kernel_rfl
theorem F14_call {a0 a1 : Value} {w : World} {R : Value → World → Prop} (h : F14 a0 a1 w R) : CALL Tryz.prog 14 [a0, a1] w R :=
  call_of (g := cfg14) ent mixed Tryz.func14 (Nat.le_of_ble_eq_true (by kernel_rfl)) (by kernel_rfl) (F14_eq a0 a1 w R ▸ h)


theorem szCode_ok {w : World} {v0 : Value} {W0 : World} {c : DCode} {left : Int}  (h0 : Is W0 v0 c) (e0 : Ext W0 w) (hl0 : -1 ≤ left) (hl1 : left ≤ 1048576) :
    CALL Tryz.prog 14 [v0, .int .i64 left] w fun r w' => Ext w w' ∧ (∃ n : Int, r = .int .i64 n ∧ -1 ≤ n ∧ n ≤ left ∧ (0 ≤ n → n + wCode c ≤ left)) := by
  refine F14_call ?_
  unfold F14
  refine op_boxS ty26 rfl h0 e0 fun w1_ hx1_ hA2 hV2 => ?_
  refine rd_fld fd26_0 ?_
  refine rd_load ty22 (at_DCode_0 hA2) (Ext.refl w1_) fun v6 h6 => ?_
  refine (szStringS_ok h6 (Ext.refl w1_) (by omega) (by omega)).mono ?_
  rintro _ w2_ ⟨hx2_, n8, rfl, hn8⟩
  refine rd_lss ?_
  refine br (fun c1 => ?_) (fun c1 => ?_)
  · refine ⟨(hx1_.trans hx2_), ?_⟩
    exact ⟨-1, rfl, by omega, by omega, by omega⟩
  · refine rd_fld fd26_1 ?_
    refine rd_load ty22 (at_DCode_1 hA2) hx2_ fun v12 h12 => ?_
    refine (szStringS_ok h12 hx2_ (by omega) (by omega)).mono ?_
    rintro _ w3_ ⟨hx3_, n14, rfl, hn14⟩
    refine rd_lss ?_
    refine br (fun c2 => ?_) (fun c2 => ?_)
    · refine ⟨(hx1_.trans (hx2_.trans hx3_)), ?_⟩
      exact ⟨-1, rfl, by omega, by omega, by omega⟩
    · refine rd_fld fd26_2 ?_
      refine rd_load ty22 (at_DCode_2 hA2) (hx2_.trans hx3_) fun v18 h18 => ?_
      refine (szStringS_ok h18 (hx2_.trans hx3_) (by omega) (by omega)).mono ?_
      rintro _ w4_ ⟨hx4_, n20, rfl, hn20⟩
      refine rd_lss ?_
      refine br (fun c3 => ?_) (fun c3 => ?_)
      · refine ⟨(hx1_.trans (hx2_.trans (hx3_.trans hx4_))), ?_⟩
        exact ⟨-1, rfl, by omega, by omega, by omega⟩
      · refine rd_fld fd26_3 ?_
        refine rd_load ty23 (at_DCode_3 hA2) (hx2_.trans (hx3_.trans hx4_)) fun v24 h24 => ?_
        refine (szIntS_ok h24 (hx2_.trans (hx3_.trans hx4_)) (by omega) (by omega)).mono ?_
        rintro _ w5_ ⟨hx5_, n26, rfl, hn26⟩
        refine rd_lss ?_
        refine br (fun c4 => ?_) (fun c4 => ?_)
        · refine ⟨(hx1_.trans (hx2_.trans (hx3_.trans (hx4_.trans hx5_)))), ?_⟩
          exact ⟨-1, rfl, by omega, by omega, by omega⟩
        · refine rd_fld fd26_4 ?_
          refine rd_load ty24 (at_DCode_4 hA2) (hx2_.trans (hx3_.trans (hx4_.trans hx5_))) fun v30 h30 => ?_
          refine (szInsS_ok h30 (hx2_.trans (hx3_.trans (hx4_.trans hx5_))) (by omega) (by omega)).mono ?_
          rintro _ w6_ ⟨hx6_, n32, rfl, hn32⟩
          refine rd_lss ?_
          refine br (fun c5 => ?_) (fun c5 => ?_)
          · refine ⟨(hx1_.trans (hx2_.trans (hx3_.trans (hx4_.trans (hx5_.trans hx6_))))), ?_⟩
            exact ⟨-1, rfl, by omega, by omega, by omega⟩
          · refine ⟨(hx1_.trans (hx2_.trans (hx3_.trans (hx4_.trans (hx5_.trans hx6_))))), ?_⟩
            refine ⟨n32, rfl, by omega, by omega, fun _ => ?_⟩
            have h1 := hn8.2.2 (by omega)
            have h2 := hn14.2.2 (by omega)
            have h3 := hn20.2.2 (by omega)
            have h4 := hn26.2.2 (by omega)
            have h5 := hn32.2.2 (by omega)
            unfold wCode
            omega


/-- laws.eqStringS -/
def F75 (a0 a1 : Value) (w : World) (R : Value → World → Prop) : Prop :=
  RD Tryz.prog (Builtin.len_ #[22] 3 [a0].toArray) w fun x7 =>
  RD Tryz.prog (Builtin.len_ #[22] 3 [a1].toArray) w fun x9 =>
  RD Tryz.prog (bin .neq 3 (.tmp 0) (.tmp 0) x7 x9) w fun x10 =>
  BR x10
   (R (Value.bool false) w)
   (LOOPI [5] [(Value.int .i64 0)] w fun u4 w next4 =>
    RD Tryz.prog (Builtin.len_ #[22] 3 [a0].toArray) w fun x13 =>
    RD Tryz.prog (bin .lss 3 (.tmp 0) (.tmp 0) (u4 5) x13) w fun x14 =>
    BR x14
     ((fun w => RD Tryz.prog (Instr.indexAt 22 a0 (u4 5)) w fun x19 =>
     RD Tryz.prog (Instr.loadAt 9 x19) w fun x20 =>
     RD Tryz.prog (Instr.indexAt 22 a1 (u4 5)) w fun x23 =>
     RD Tryz.prog (Instr.loadAt 9 x23) w fun x24 =>
     RD Tryz.prog (bin .neq 9 (.tmp 0) (.tmp 0) x20 x24) w fun x25 =>
     BR x25
      (R (Value.bool false) w)
      (RD Tryz.prog (bin .add 3 (.tmp 0) (.const undef) (u4 5) (Value.int .i64 1)) w fun x16 =>
      next4 [x16] w)) (World.drew1 w))
     (R (Value.bool true) w))
def cfg75 : Cfg := { ext := extL, joins := [], loops := [(4, 67106864, [5])], draws := [(6, [0, 1, 2, 3, 4, 5, 6, 7, 8], 0)], pars := [] }
theorem F75_eq (a0 a1 : Value) (w : World) (R : Value → World → Prop) : vcF Tryz.prog cfg75 Tryz.f75 [a0, a1] w R = F75 a0 a1 w R := by kernel_rfl
theorem F75_call {a0 a1 : Value} {w : World} {R : Value → World → Prop} (h : F75 a0 a1 w R) : CALL Tryz.prog 75 [a0, a1] w R :=
  call_of (g := cfg75) ent mixed Tryz.func75 (Nat.le_of_ble_eq_true (by kernel_rfl)) (by kernel_rfl) (F75_eq a0 a1 w R ▸ h)


theorem eqStringS_ok {w : World} {v0 : Value} {W0 : World} {l1 : (List ByteArray)} {v1 : Value} {W1 : World} {l2 : (List ByteArray)}  (h0 : Is W0 v0 l1) (e0 : Ext W0 w) (h1 : Is W1 v1 l2) (e1 : Ext W1 w)  :
    CALL Tryz.prog 75 [v0, v1] w fun r w' => Ext w w' ∧ (r = .bool (decide (l1 = l2))) := by
  refine F75_call ?_
  unfold F75
  have hl1 := is_len h0
  have hln7 := is_len h0
  refine rd_len u22 h0 ?_
  have hln9 := is_len h1
  refine rd_len u22 h1 ?_
  refine rd_neq ?_
  refine br (fun c1 => ?_) (fun c1 => ?_)
  · refine ⟨Ext.refl w, ?_⟩
    have : l1 ≠ l2 := fun e => c1 (by rw [e])
    simp [this]
  · refine loopC (l1.length) (fun k us w' => us = [.int .i64 (k : Int)] ∧ Ext w w' ∧ (l1.take k = l2.take k)) (0) (by omega) ⟨by simp, Ext.refl w, by simp⟩ ?_
    rintro k m4 uu4 w1_ hk4 ⟨hu, hx1_, hinv⟩
    simp only [List.map_cons, List.map_nil, List.cons.injEq, and_true] at hu
    try rw [hu]
    try clear hu
    have hln13 := is_len h0
    refine rd_len u22 h0 ?_
    refine rd_lss ?_
    refine br (fun c2 => ?_) (fun c2 => ?_)
    · have hx2_ := ext_drew w1_
      refine rd_indexN u22 ty9 h0 (by omega) fun b19 o19 h19 => ?_
      refine rd_loadS ty9 h19 (e0.trans (hx1_.trans hx2_)) fun hS20 => ?_
      refine rd_indexN u22 ty9 h1 (by omega) fun b23 o23 h23 => ?_
      refine rd_loadS ty9 h23 (e1.trans (hx1_.trans hx2_)) fun hS24 => ?_
      refine rd_neqS ?_
      refine br (fun c3 => ?_) (fun c3 => ?_)
      · refine ⟨(hx1_.trans hx2_), ?_⟩
        have : l1 ≠ l2 := fun e => c3 (by subst e; rfl)
        simp [this]
      · refine rd_inc (by omega) ?_
        refine ⟨m4 - 1, by omega, k + 1, by omega, by simp, (hx1_.trans hx2_), ?_⟩
        rw [List.take_succ_eq_append_getElem (by omega), List.take_succ_eq_append_getElem (by omega), hinv, Decidable.not_not.1 c3]
    · refine ⟨hx1_, ?_⟩
      rw [List.take_of_length_le (by omega), List.take_of_length_le (by omega)] at hinv
      simp [hinv]

def EqTerm (t : DTerm) : Prop := ∀ {w W W' : World} {v v' : Value} {t' : DTerm}, Is W v t → Ext W w → Is W' v' t' → Ext W' w →
  CALL Tryz.prog 198 [v, v'] w fun r w' => Ext w w' ∧ r = .bool (decide (t = t'))
def EqTermS (t : List DTerm) : Prop := ∀ {w W W' : World} {v v' : Value} {t' : List DTerm}, Is W v t → Ext W w → Is W' v' t' → Ext W' w →
  CALL Tryz.prog 251 [v, v'] w fun r w' => Ext w w' ∧ r = .bool (decide (t = t'))
/-- laws.eqTermS -/
def F251 (a0 a1 : Value) (w : World) (R : Value → World → Prop) : Prop :=
  RD Tryz.prog (Builtin.len_ #[131] 3 [a0].toArray) w fun x7 =>
  RD Tryz.prog (Builtin.len_ #[131] 3 [a1].toArray) w fun x9 =>
  RD Tryz.prog (bin .neq 3 (.tmp 0) (.tmp 0) x7 x9) w fun x10 =>
  BR x10
   (R (Value.bool false) w)
   (LOOPI [5] [(Value.int .i64 0)] w fun u4 w next4 =>
    RD Tryz.prog (Builtin.len_ #[131] 3 [a0].toArray) w fun x13 =>
    RD Tryz.prog (bin .lss 3 (.tmp 0) (.tmp 0) (u4 5) x13) w fun x14 =>
    BR x14
     ((fun w => RD Tryz.prog (Instr.indexAt 131 a0 (u4 5)) w fun x19 =>
     RD Tryz.prog (Instr.loadAt 133 x19) w fun x20 =>
     RD Tryz.prog (Instr.indexAt 131 a1 (u4 5)) w fun x23 =>
     RD Tryz.prog (Instr.loadAt 133 x23) w fun x24 =>
     CALL Tryz.prog 198 [x20, x24] w fun x25 w =>
     RD Tryz.prog (Op.unary .not x25) w fun x26 =>
     BR x26
      (R (Value.bool false) w)
      (RD Tryz.prog (bin .add 3 (.tmp 0) (.const undef) (u4 5) (Value.int .i64 1)) w fun x16 =>
      next4 [x16] w)) (World.drew1 w))
     (R (Value.bool true) w))
def cfg251 : Cfg := { ext := extL, joins := [], loops := [(4, 134215728, [5])], draws := [(6, [0, 1, 2, 3, 4, 5, 6, 7, 8, 9], 0)], pars := [] }
theorem F251_eq (a0 a1 : Value) (w : World) (R : Value → World → Prop) : vcF Tryz.prog cfg251 Tryz.f251 [a0, a1] w R = F251 a0 a1 w R := by kernel_rfl
theorem F251_call {a0 a1 : Value} {w : World} {R : Value → World → Prop} (h : F251 a0 a1 w R) : CALL Tryz.prog 251 [a0, a1] w R :=
  call_of (g := cfg251) ent mixed Tryz.func251 (Nat.le_of_ble_eq_true (by kernel_rfl)) (by kernel_rfl) (F251_eq a0 a1 w R ▸ h)


theorem eqTermS_step {w : World} {v0 : Value} {W0 : World} {l1 : (List DTerm)} {v1 : Value} {W1 : World} {l2 : (List DTerm)}  (h0 : Is W0 v0 l1) (e0 : Ext W0 w) (h1 : Is W1 v1 l2) (e1 : Ext W1 w) (ih : ∀ t ∈ l1, EqTerm t) :
    CALL Tryz.prog 251 [v0, v1] w fun r w' => Ext w w' ∧ (r = .bool (decide (l1 = l2))) := by
  refine F251_call ?_
  unfold F251
  have hl1 := is_len h0
  have hln7 := is_len h0
  refine rd_len u131 h0 ?_
  have hln9 := is_len h1
  refine rd_len u131 h1 ?_
  refine rd_neq ?_
  refine br (fun c1 => ?_) (fun c1 => ?_)
  · refine ⟨Ext.refl w, ?_⟩
    have : l1 ≠ l2 := fun e => c1 (by rw [e])
    simp [this]
  · refine loopC (l1.length) (fun k us w' => us = [.int .i64 (k : Int)] ∧ Ext w w' ∧ (l1.take k = l2.take k)) (0) (by omega) ⟨by simp, Ext.refl w, by simp⟩ ?_
    rintro k m4 uu4 w1_ hk4 ⟨hu, hx1_, hinv⟩
    simp only [List.map_cons, List.map_nil, List.cons.injEq, and_true] at hu
    try rw [hu]
    try clear hu
    have hln13 := is_len h0
    refine rd_len u131 h0 ?_
    refine rd_lss ?_
    refine br (fun c2 => ?_) (fun c2 => ?_)
    · have hx2_ := ext_drew w1_
      refine rd_indexN u131 ty133 h0 (by omega) fun b19 o19 h19 => ?_
      refine rd_load ty133 h19 (e0.trans (hx1_.trans hx2_)) fun v20 h20 => ?_
      refine rd_indexN u131 ty133 h1 (by omega) fun b23 o23 h23 => ?_
      refine rd_load ty133 h23 (e1.trans (hx1_.trans hx2_)) fun v24 h24 => ?_
      refine (ih _ (List.getElem_mem _) h20 (e0.trans (hx1_.trans hx2_)) h24 (e1.trans (hx1_.trans hx2_))).mono ?_
      rintro _ w3_ ⟨hx3_, rfl⟩
      refine rd_nodec ?_
      refine br (fun c3 => ?_) (fun c3 => ?_)
      · refine ⟨(hx1_.trans (hx2_.trans hx3_)), ?_⟩
        have : l1 ≠ l2 := fun e => c3 (by subst e; rfl)
        simp [this]
      · refine rd_inc (by omega) ?_
        refine ⟨m4 - 1, by omega, k + 1, by omega, by simp, (hx1_.trans (hx2_.trans hx3_)), ?_⟩
        rw [List.take_succ_eq_append_getElem (by omega), List.take_succ_eq_append_getElem (by omega), hinv, Decidable.not_not.1 c3]
    · refine ⟨hx1_, ?_⟩
      rw [List.take_of_length_le (by omega), List.take_of_length_le (by omega)] at hinv
      simp [hinv]

/-- laws.eqTerm -/
def F198 (a0 a1 : Value) (w : World) (R : Value → World → Prop) : Prop :=
  OP Tryz.prog (Instr.box 133 a0) w fun x2 w =>
  OP Tryz.prog (Instr.box 133 a1) w fun x3 w =>
  RD Tryz.prog (Instr.fieldAt 133 x2 0) w fun x5 =>
  RD Tryz.prog (Instr.loadAt 3 x5) w fun x6 =>
  RD Tryz.prog (Instr.fieldAt 133 x3 0) w fun x7 =>
  RD Tryz.prog (Instr.loadAt 3 x7) w fun x8 =>
  RD Tryz.prog (bin .neq 3 (.tmp 0) (.tmp 0) x6 x8) w fun x9 =>
  BR x9
   (R (Value.bool false) w)
   (RD Tryz.prog (Instr.fieldAt 133 x2 1) w fun x10 =>
   RD Tryz.prog (Instr.loadAt 3 x10) w fun x11 =>
   RD Tryz.prog (Instr.fieldAt 133 x3 1) w fun x12 =>
   RD Tryz.prog (Instr.loadAt 3 x12) w fun x13 =>
   RD Tryz.prog (bin .neq 3 (.tmp 0) (.tmp 0) x11 x13) w fun x14 =>
   BR x14
    (R (Value.bool false) w)
    (RD Tryz.prog (Instr.fieldAt 133 x2 2) w fun x15 =>
    RD Tryz.prog (Instr.loadAt 9 x15) w fun x16 =>
    RD Tryz.prog (Instr.fieldAt 133 x3 2) w fun x17 =>
    RD Tryz.prog (Instr.loadAt 9 x17) w fun x18 =>
    RD Tryz.prog (bin .neq 9 (.tmp 0) (.tmp 0) x16 x18) w fun x19 =>
    BR x19
     (R (Value.bool false) w)
     (RD Tryz.prog (Instr.fieldAt 133 x2 3) w fun x20 =>
     RD Tryz.prog (Instr.loadAt 131 x20) w fun x21 =>
     RD Tryz.prog (Instr.fieldAt 133 x3 3) w fun x22 =>
     RD Tryz.prog (Instr.loadAt 131 x22) w fun x23 =>
     CALL Tryz.prog 251 [x21, x23] w fun x24 w =>
     RD Tryz.prog (Op.unary .not x24) w fun x25 =>
     BR x25
      (R (Value.bool false) w)
      (R (Value.bool true) w))))
def cfg198 : Cfg := { ext := extL, joins := [], loops := [], draws := [], pars := [] }
theorem F198_eq (a0 a1 : Value) (w : World) (R : Value → World → Prop) : vcF Tryz.prog cfg198 Tryz.f198 [a0, a1] w R = F198 a0 a1 w R := by kernel_rfl
theorem F198_call {a0 a1 : Value} {w : World} {R : Value → World → Prop} (h : F198 a0 a1 w R) : CALL Tryz.prog 198 [a0, a1] w R :=
  call_of (g := cfg198) ent mixed Tryz.func198 (Nat.le_of_ble_eq_true (by kernel_rfl)) (by kernel_rfl) (F198_eq a0 a1 w R ▸ h)


theorem eqTerm_step {w : World} {v0 : Value} {W0 : World} {t1 : DTerm} {v1 : Value} {W1 : World} {t2 : DTerm}  (h0 : Is W0 v0 t1) (e0 : Ext W0 w) (h1 : Is W1 v1 t2) (e1 : Ext W1 w) (ih : EqTermS t1.kids) :
    CALL Tryz.prog 198 [v0, v1] w fun r w' => Ext w w' ∧ (r = .bool (decide (t1 = t2))) := by
  refine F198_call ?_
  unfold F198
  refine op_boxS ty133 rfl h0 e0 fun w1_ hx1_ hA2 hV2 => ?_
  refine op_boxS ty133 rfl h1 (e1.trans hx1_) fun w2_ hx2_ hA3 hV3 => ?_
  refine rd_fld fd133_0 ?_
  refine rd_loadI ty3 (at_DTerm_0 hA2) hx2_ fun hI6 => ?_
  refine rd_fld fd133_0 ?_
  refine rd_loadI ty3 (at_DTerm_0 hA3) (Ext.refl w2_) fun hI8 => ?_
  refine rd_neq ?_
  refine br (fun c1 => ?_) (fun c1 => ?_)
  · refine ⟨(hx1_.trans hx2_), ?_⟩
    have : t1 ≠ t2 := fun e => c1 (by rw [e])
    simp [this]
  · refine rd_fld fd133_1 ?_
    refine rd_loadI ty3 (at_DTerm_1 hA2) hx2_ fun hI11 => ?_
    refine rd_fld fd133_1 ?_
    refine rd_loadI ty3 (at_DTerm_1 hA3) (Ext.refl w2_) fun hI13 => ?_
    refine rd_neq ?_
    refine br (fun c2 => ?_) (fun c2 => ?_)
    · refine ⟨(hx1_.trans hx2_), ?_⟩
      have : t1 ≠ t2 := fun e => c2 (by rw [e])
      simp [this]
    · refine rd_fld fd133_2 ?_
      refine rd_loadS ty9 (at_DTerm_2 hA2) hx2_ fun hS16 => ?_
      refine rd_fld fd133_2 ?_
      refine rd_loadS ty9 (at_DTerm_2 hA3) (Ext.refl w2_) fun hS18 => ?_
      refine rd_neqS ?_
      refine br (fun c3 => ?_) (fun c3 => ?_)
      · refine ⟨(hx1_.trans hx2_), ?_⟩
        have : t1 ≠ t2 := fun e => c3 (by rw [e])
        simp [this]
      · refine rd_fld fd133_3 ?_
        refine rd_load ty131 (at_DTerm_3 hA2) hx2_ fun v21 h21 => ?_
        refine rd_fld fd133_3 ?_
        refine rd_load ty131 (at_DTerm_3 hA3) (Ext.refl w2_) fun v23 h23 => ?_
        refine (ih h21 hx2_ h23 (Ext.refl w2_)).mono ?_
        rintro _ w3_ ⟨hx3_, rfl⟩
        refine rd_nodec ?_
        refine br (fun c4 => ?_) (fun c4 => ?_)
        · refine ⟨(hx1_.trans (hx2_.trans hx3_)), ?_⟩
          have : t1 ≠ t2 := fun e => c4 (by rw [e])
          simp [this]
        · refine ⟨(hx1_.trans (hx2_.trans hx3_)), ?_⟩
          have : t1 = t2 := DTerm.ext_iff.2 ⟨Decidable.not_not.1 c1, Decidable.not_not.1 c2, Decidable.not_not.1 c3, Decidable.not_not.1 c4⟩
          simp [this]

theorem eqTerm_ok (t : DTerm) : EqTerm t := DTerm.ind (fun t ih {_ _ _ _ _ _} h e h' e' => eqTerm_step h e h' e' (fun {_ _ _ _ _ _} h e h' e' => eqTermS_step h e h' e' ih)) t
/-- laws.eqIns -/
def F128 (a0 a1 : Value) (w : World) (R : Value → World → Prop) : Prop :=
  OP Tryz.prog (Instr.box 135 a0) w fun x2 w =>
  OP Tryz.prog (Instr.box 135 a1) w fun x3 w =>
  RD Tryz.prog (Instr.fieldAt 135 x2 0) w fun x5 =>
  RD Tryz.prog (Instr.loadAt 3 x5) w fun x6 =>
  RD Tryz.prog (Instr.fieldAt 135 x3 0) w fun x7 =>
  RD Tryz.prog (Instr.loadAt 3 x7) w fun x8 =>
  RD Tryz.prog (bin .neq 3 (.tmp 0) (.tmp 0) x6 x8) w fun x9 =>
  BR x9
   (R (Value.bool false) w)
   (RD Tryz.prog (Instr.fieldAt 135 x2 1) w fun x10 =>
   RD Tryz.prog (Instr.loadAt 3 x10) w fun x11 =>
   RD Tryz.prog (Instr.fieldAt 135 x3 1) w fun x12 =>
   RD Tryz.prog (Instr.loadAt 3 x12) w fun x13 =>
   RD Tryz.prog (bin .neq 3 (.tmp 0) (.tmp 0) x11 x13) w fun x14 =>
   BR x14
    (R (Value.bool false) w)
    (RD Tryz.prog (Instr.fieldAt 135 x2 2) w fun x15 =>
    RD Tryz.prog (Instr.loadAt 133 x15) w fun x16 =>
    RD Tryz.prog (Instr.fieldAt 135 x3 2) w fun x17 =>
    RD Tryz.prog (Instr.loadAt 133 x17) w fun x18 =>
    CALL Tryz.prog 198 [x16, x18] w fun x19 w =>
    RD Tryz.prog (Op.unary .not x19) w fun x20 =>
    BR x20
     (R (Value.bool false) w)
     (RD Tryz.prog (Instr.fieldAt 135 x2 3) w fun x21 =>
     RD Tryz.prog (Instr.loadAt 3 x21) w fun x22 =>
     RD Tryz.prog (Instr.fieldAt 135 x3 3) w fun x23 =>
     RD Tryz.prog (Instr.loadAt 3 x23) w fun x24 =>
     RD Tryz.prog (bin .neq 3 (.tmp 0) (.tmp 0) x22 x24) w fun x25 =>
     BR x25
      (R (Value.bool false) w)
      (R (Value.bool true) w))))
def cfg128 : Cfg := { ext := extL, joins := [], loops := [], draws := [], pars := [] }
theorem F128_eq (a0 a1 : Value) (w : World) (R : Value → World → Prop) : vcF Tryz.prog cfg128 Tryz.f128 [a0, a1] w R = F128 a0 a1 w R := by kernel_rfl
theorem F128_call {a0 a1 : Value} {w : World} {R : Value → World → Prop} (h : F128 a0 a1 w R) : CALL Tryz.prog 128 [a0, a1] w R :=
  call_of (g := cfg128) ent mixed Tryz.func128 (Nat.le_of_ble_eq_true (by kernel_rfl)) (by kernel_rfl) (F128_eq a0 a1 w R ▸ h)


theorem eqIns_ok {w : World} {v0 : Value} {W0 : World} {t1 : DIns} {v1 : Value} {W1 : World} {t2 : DIns}  (h0 : Is W0 v0 t1) (e0 : Ext W0 w) (h1 : Is W1 v1 t2) (e1 : Ext W1 w)  :
    CALL Tryz.prog 128 [v0, v1] w fun r w' => Ext w w' ∧ (r = .bool (decide (t1 = t2))) := by
  refine F128_call ?_
  unfold F128
  refine op_boxS ty135 rfl h0 e0 fun w1_ hx1_ hA2 hV2 => ?_
  refine op_boxS ty135 rfl h1 (e1.trans hx1_) fun w2_ hx2_ hA3 hV3 => ?_
  refine rd_fld fd135_0 ?_
  refine rd_loadI ty3 (at_DIns_0 hA2) hx2_ fun hI6 => ?_
  refine rd_fld fd135_0 ?_
  refine rd_loadI ty3 (at_DIns_0 hA3) (Ext.refl w2_) fun hI8 => ?_
  refine rd_neq ?_
  refine br (fun c1 => ?_) (fun c1 => ?_)
  · refine ⟨(hx1_.trans hx2_), ?_⟩
    have : t1 ≠ t2 := fun e => c1 (by rw [e])
    simp [this]
  · refine rd_fld fd135_1 ?_
    refine rd_loadI ty3 (at_DIns_1 hA2) hx2_ fun hI11 => ?_
    refine rd_fld fd135_1 ?_
    refine rd_loadI ty3 (at_DIns_1 hA3) (Ext.refl w2_) fun hI13 => ?_
    refine rd_neq ?_
    refine br (fun c2 => ?_) (fun c2 => ?_)
    · refine ⟨(hx1_.trans hx2_), ?_⟩
      have : t1 ≠ t2 := fun e => c2 (by rw [e])
      simp [this]
    · refine rd_fld fd135_2 ?_
      refine rd_load ty133 (at_DIns_2 hA2) hx2_ fun v16 h16 => ?_
      refine rd_fld fd135_2 ?_
      refine rd_load ty133 (at_DIns_2 hA3) (Ext.refl w2_) fun v18 h18 => ?_
      refine ((eqTerm_ok _) h16 hx2_ h18 (Ext.refl w2_)).mono ?_
      rintro _ w3_ ⟨hx3_, rfl⟩
      refine rd_nodec ?_
      refine br (fun c3 => ?_) (fun c3 => ?_)
      · refine ⟨(hx1_.trans (hx2_.trans hx3_)), ?_⟩
        have : t1 ≠ t2 := fun e => c3 (by rw [e])
        simp [this]
      · refine rd_fld fd135_3 ?_
        refine rd_loadI ty3 (at_DIns_3 hA2) (hx2_.trans hx3_) fun hI22 => ?_
        refine rd_fld fd135_3 ?_
        refine rd_loadI ty3 (at_DIns_3 hA3) hx3_ fun hI24 => ?_
        refine rd_neq ?_
        refine br (fun c4 => ?_) (fun c4 => ?_)
        · refine ⟨(hx1_.trans (hx2_.trans hx3_)), ?_⟩
          have : t1 ≠ t2 := fun e => c4 (by rw [e])
          simp [this]
        · refine ⟨(hx1_.trans (hx2_.trans hx3_)), ?_⟩
          have : t1 = t2 := DIns.ext_iff.2 ⟨Decidable.not_not.1 c1, Decidable.not_not.1 c2, Decidable.not_not.1 c3, Decidable.not_not.1 c4⟩
          simp [this]

/-- laws.eqInsS -/
def F76 (a0 a1 : Value) (w : World) (R : Value → World → Prop) : Prop :=
  RD Tryz.prog (Builtin.len_ #[35] 3 [a0].toArray) w fun x7 =>
  RD Tryz.prog (Builtin.len_ #[35] 3 [a1].toArray) w fun x9 =>
  RD Tryz.prog (bin .neq 3 (.tmp 0) (.tmp 0) x7 x9) w fun x10 =>
  BR x10
   (R (Value.bool false) w)
   (LOOPI [5] [(Value.int .i64 0)] w fun u4 w next4 =>
    RD Tryz.prog (Builtin.len_ #[35] 3 [a0].toArray) w fun x13 =>
    RD Tryz.prog (bin .lss 3 (.tmp 0) (.tmp 0) (u4 5) x13) w fun x14 =>
    BR x14
     ((fun w => RD Tryz.prog (Instr.indexAt 35 a0 (u4 5)) w fun x19 =>
     RD Tryz.prog (Instr.loadAt 135 x19) w fun x20 =>
     RD Tryz.prog (Instr.indexAt 35 a1 (u4 5)) w fun x23 =>
     RD Tryz.prog (Instr.loadAt 135 x23) w fun x24 =>
     CALL Tryz.prog 128 [x20, x24] w fun x25 w =>
     RD Tryz.prog (Op.unary .not x25) w fun x26 =>
     BR x26
      (R (Value.bool false) w)
      (RD Tryz.prog (bin .add 3 (.tmp 0) (.const undef) (u4 5) (Value.int .i64 1)) w fun x16 =>
      next4 [x16] w)) (World.drew1 w))
     (R (Value.bool true) w))
def cfg76 : Cfg := { ext := extL, joins := [], loops := [(4, 134215728, [5])], draws := [(6, [0, 1, 2, 3, 4, 5, 6, 7, 8, 9], 0)], pars := [] }
theorem F76_eq (a0 a1 : Value) (w : World) (R : Value → World → Prop) : vcF Tryz.prog cfg76 Tryz.f76 [a0, a1] w R = F76 a0 a1 w R := by kernel_rfl
theorem F76_call {a0 a1 : Value} {w : World} {R : Value → World → Prop} (h : F76 a0 a1 w R) : CALL Tryz.prog 76 [a0, a1] w R :=
  call_of (g := cfg76) ent mixed Tryz.func76 (Nat.le_of_ble_eq_true (by kernel_rfl)) (by kernel_rfl) (F76_eq a0 a1 w R ▸ h)


theorem eqInsS_ok {w : World} {v0 : Value} {W0 : World} {l1 : (List DIns)} {v1 : Value} {W1 : World} {l2 : (List DIns)}  (h0 : Is W0 v0 l1) (e0 : Ext W0 w) (h1 : Is W1 v1 l2) (e1 : Ext W1 w)  :
    CALL Tryz.prog 76 [v0, v1] w fun r w' => Ext w w' ∧ (r = .bool (decide (l1 = l2))) := by
  refine F76_call ?_
  unfold F76
  have hl1 := is_len h0
  have hln7 := is_len h0
  refine rd_len u35 h0 ?_
  have hln9 := is_len h1
  refine rd_len u35 h1 ?_
  refine rd_neq ?_
  refine br (fun c1 => ?_) (fun c1 => ?_)
  · refine ⟨Ext.refl w, ?_⟩
    have : l1 ≠ l2 := fun e => c1 (by rw [e])
    simp [this]
  · refine loopC (l1.length) (fun k us w' => us = [.int .i64 (k : Int)] ∧ Ext w w' ∧ (l1.take k = l2.take k)) (0) (by omega) ⟨by simp, Ext.refl w, by simp⟩ ?_
    rintro k m4 uu4 w1_ hk4 ⟨hu, hx1_, hinv⟩
    simp only [List.map_cons, List.map_nil, List.cons.injEq, and_true] at hu
    try rw [hu]
    try clear hu
    have hln13 := is_len h0
    refine rd_len u35 h0 ?_
    refine rd_lss ?_
    refine br (fun c2 => ?_) (fun c2 => ?_)
    · have hx2_ := ext_drew w1_
      refine rd_indexN u35 ty135 h0 (by omega) fun b19 o19 h19 => ?_
      refine rd_load ty135 h19 (e0.trans (hx1_.trans hx2_)) fun v20 h20 => ?_
      refine rd_indexN u35 ty135 h1 (by omega) fun b23 o23 h23 => ?_
      refine rd_load ty135 h23 (e1.trans (hx1_.trans hx2_)) fun v24 h24 => ?_
      refine (eqIns_ok h20 (e0.trans (hx1_.trans hx2_)) h24 (e1.trans (hx1_.trans hx2_))).mono ?_
      rintro _ w3_ ⟨hx3_, rfl⟩
      refine rd_nodec ?_
      refine br (fun c3 => ?_) (fun c3 => ?_)
      · refine ⟨(hx1_.trans (hx2_.trans hx3_)), ?_⟩
        have : l1 ≠ l2 := fun e => c3 (by subst e; rfl)
        simp [this]
      · refine rd_inc (by omega) ?_
        refine ⟨m4 - 1, by omega, k + 1, by omega, by simp, (hx1_.trans (hx2_.trans hx3_)), ?_⟩
        rw [List.take_succ_eq_append_getElem (by omega), List.take_succ_eq_append_getElem (by omega), hinv, Decidable.not_not.1 c3]
    · refine ⟨hx1_, ?_⟩
      rw [List.take_of_length_le (by omega), List.take_of_length_le (by omega)] at hinv
      simp [hinv]

/-- laws.eqCode -/
def F21 (a0 a1 : Value) (w : World) (R : Value → World → Prop) : Prop :=
  OP Tryz.prog (Instr.box 37 a0) w fun x2 w =>
  OP Tryz.prog (Instr.box 37 a1) w fun x3 w =>
  RD Tryz.prog (Instr.fieldAt 37 x2 0) w fun x5 =>
  RD Tryz.prog (Instr.loadAt 22 x5) w fun x6 =>
  RD Tryz.prog (Instr.fieldAt 37 x3 0) w fun x7 =>
  RD Tryz.prog (Instr.loadAt 22 x7) w fun x8 =>
  CALL Tryz.prog 75 [x6, x8] w fun x9 w =>
  RD Tryz.prog (Op.unary .not x9) w fun x10 =>
  BR x10
   (R (Value.bool false) w)
   (RD Tryz.prog (Instr.fieldAt 37 x2 1) w fun x11 =>
   RD Tryz.prog (Instr.loadAt 22 x11) w fun x12 =>
   RD Tryz.prog (Instr.fieldAt 37 x3 1) w fun x13 =>
   RD Tryz.prog (Instr.loadAt 22 x13) w fun x14 =>
   CALL Tryz.prog 75 [x12, x14] w fun x15 w =>
   RD Tryz.prog (Op.unary .not x15) w fun x16 =>
   BR x16
    (R (Value.bool false) w)
    (RD Tryz.prog (Instr.fieldAt 37 x2 2) w fun x17 =>
    RD Tryz.prog (Instr.loadAt 22 x17) w fun x18 =>
    RD Tryz.prog (Instr.fieldAt 37 x3 2) w fun x19 =>
    RD Tryz.prog (Instr.loadAt 22 x19) w fun x20 =>
    CALL Tryz.prog 75 [x18, x20] w fun x21 w =>
    RD Tryz.prog (Op.unary .not x21) w fun x22 =>
    BR x22
     (R (Value.bool false) w)
     (RD Tryz.prog (Instr.fieldAt 37 x2 3) w fun x23 =>
     RD Tryz.prog (Instr.loadAt 23 x23) w fun x24 =>
     RD Tryz.prog (Instr.fieldAt 37 x3 3) w fun x25 =>
     RD Tryz.prog (Instr.loadAt 23 x25) w fun x26 =>
     CALL Tryz.prog 32 [x24, x26] w fun x27 w =>
     RD Tryz.prog (Op.unary .not x27) w fun x28 =>
     BR x28
      (R (Value.bool false) w)
      (RD Tryz.prog (Instr.fieldAt 37 x2 4) w fun x29 =>
      RD Tryz.prog (Instr.loadAt 35 x29) w fun x30 =>
      RD Tryz.prog (Instr.fieldAt 37 x3 4) w fun x31 =>
      RD Tryz.prog (Instr.loadAt 35 x31) w fun x32 =>
      CALL Tryz.prog 76 [x30, x32] w fun x33 w =>
      RD Tryz.prog (Op.unary .not x33) w fun x34 =>
      BR x34
       (R (Value.bool false) w)
       (R (Value.bool true) w)))))
def cfg21 : Cfg := { ext := extL, joins := [], loops := [], draws := [], pars := [] }
theorem F21_eq (a0 a1 : Value) (w : World) (R : Value → World → Prop) : vcF Tryz.prog cfg21 Tryz.f21 [a0, a1] w R = F21 a0 a1 w R := by kernel_rfl
theorem F21_call {a0 a1 : Value} {w : World} {R : Value → World → Prop} (h : F21 a0 a1 w R) : CALL Tryz.prog 21 [a0, a1] w R :=
  call_of (g := cfg21) ent mixed Tryz.func21 (Nat.le_of_ble_eq_true (by kernel_rfl)) (by kernel_rfl) (F21_eq a0 a1 w R ▸ h)


theorem eqCode_ok {w : World} {v0 : Value} {W0 : World} {t1 : DCode} {v1 : Value} {W1 : World} {t2 : DCode}  (h0 : Is W0 v0 t1) (e0 : Ext W0 w) (h1 : Is W1 v1 t2) (e1 : Ext W1 w)  :
    CALL Tryz.prog 21 [v0, v1] w fun r w' => Ext w w' ∧ (r = .bool (decide (t1 = t2))) := by
  refine F21_call ?_
  unfold F21
  refine op_boxS ty37 rfl h0 e0 fun w1_ hx1_ hA2 hV2 => ?_
  refine op_boxS ty37 rfl h1 (e1.trans hx1_) fun w2_ hx2_ hA3 hV3 => ?_
  refine rd_fld fd37_0 ?_
  refine rd_load ty22 (at_DCode_0 hA2) hx2_ fun v6 h6 => ?_
  refine rd_fld fd37_0 ?_
  refine rd_load ty22 (at_DCode_0 hA3) (Ext.refl w2_) fun v8 h8 => ?_
  refine (eqStringS_ok h6 hx2_ h8 (Ext.refl w2_)).mono ?_
  rintro _ w3_ ⟨hx3_, rfl⟩
  refine rd_nodec ?_
  refine br (fun c1 => ?_) (fun c1 => ?_)
  · refine ⟨(hx1_.trans (hx2_.trans hx3_)), ?_⟩
    have : t1 ≠ t2 := fun e => c1 (by rw [e])
    simp [this]
  · refine rd_fld fd37_1 ?_
    refine rd_load ty22 (at_DCode_1 hA2) (hx2_.trans hx3_) fun v12 h12 => ?_
    refine rd_fld fd37_1 ?_
    refine rd_load ty22 (at_DCode_1 hA3) hx3_ fun v14 h14 => ?_
    refine (eqStringS_ok h12 (hx2_.trans hx3_) h14 hx3_).mono ?_
    rintro _ w4_ ⟨hx4_, rfl⟩
    refine rd_nodec ?_
    refine br (fun c2 => ?_) (fun c2 => ?_)
    · refine ⟨(hx1_.trans (hx2_.trans (hx3_.trans hx4_))), ?_⟩
      have : t1 ≠ t2 := fun e => c2 (by rw [e])
      simp [this]
    · refine rd_fld fd37_2 ?_
      refine rd_load ty22 (at_DCode_2 hA2) (hx2_.trans (hx3_.trans hx4_)) fun v18 h18 => ?_
      refine rd_fld fd37_2 ?_
      refine rd_load ty22 (at_DCode_2 hA3) (hx3_.trans hx4_) fun v20 h20 => ?_
      refine (eqStringS_ok h18 (hx2_.trans (hx3_.trans hx4_)) h20 (hx3_.trans hx4_)).mono ?_
      rintro _ w5_ ⟨hx5_, rfl⟩
      refine rd_nodec ?_
      refine br (fun c3 => ?_) (fun c3 => ?_)
      · refine ⟨(hx1_.trans (hx2_.trans (hx3_.trans (hx4_.trans hx5_)))), ?_⟩
        have : t1 ≠ t2 := fun e => c3 (by rw [e])
        simp [this]
      · refine rd_fld fd37_3 ?_
        refine rd_load ty23 (at_DCode_3 hA2) (hx2_.trans (hx3_.trans (hx4_.trans hx5_))) fun v24 h24 => ?_
        refine rd_fld fd37_3 ?_
        refine rd_load ty23 (at_DCode_3 hA3) (hx3_.trans (hx4_.trans hx5_)) fun v26 h26 => ?_
        refine (eqIntS_ok2 h24 (hx2_.trans (hx3_.trans (hx4_.trans hx5_))) h26 (hx3_.trans (hx4_.trans hx5_))).mono ?_
        rintro _ w6_ ⟨hx6_, rfl⟩
        refine rd_nodec ?_
        refine br (fun c4 => ?_) (fun c4 => ?_)
        · refine ⟨(hx1_.trans (hx2_.trans (hx3_.trans (hx4_.trans (hx5_.trans hx6_))))), ?_⟩
          have : t1 ≠ t2 := fun e => c4 (by rw [e])
          simp [this]
        · refine rd_fld fd37_4 ?_
          refine rd_load ty35 (at_DCode_4 hA2) (hx2_.trans (hx3_.trans (hx4_.trans (hx5_.trans hx6_)))) fun v30 h30 => ?_
          refine rd_fld fd37_4 ?_
          refine rd_load ty35 (at_DCode_4 hA3) (hx3_.trans (hx4_.trans (hx5_.trans hx6_))) fun v32 h32 => ?_
          refine (eqInsS_ok h30 (hx2_.trans (hx3_.trans (hx4_.trans (hx5_.trans hx6_)))) h32 (hx3_.trans (hx4_.trans (hx5_.trans hx6_)))).mono ?_
          rintro _ w7_ ⟨hx7_, rfl⟩
          refine rd_nodec ?_
          refine br (fun c5 => ?_) (fun c5 => ?_)
          · refine ⟨(hx1_.trans (hx2_.trans (hx3_.trans (hx4_.trans (hx5_.trans (hx6_.trans hx7_)))))), ?_⟩
            have : t1 ≠ t2 := fun e => c5 (by rw [e])
            simp [this]
          · refine ⟨(hx1_.trans (hx2_.trans (hx3_.trans (hx4_.trans (hx5_.trans (hx6_.trans hx7_)))))), ?_⟩
            have : t1 = t2 := DCode.ext_iff.2 ⟨Decidable.not_not.1 c1, Decidable.not_not.1 c2, Decidable.not_not.1 c3, Decidable.not_not.1 c4, Decidable.not_not.1 c5⟩
            simp [this]


theorem toStringS_ok {w : World} {v : Value} {l : List ByteArray} (h : Is w v l) (hn : l.length ≤ 1048576) :
    CALL Tryz.prog 68 [v] w fun r w' => Ext w w' ∧ Own w.heap.size w' r l := by
  refine F68_call ?_
  unfold F68
  refine rd_len u22 h ?_
  refine op_make (α := ByteArray) u22 ty9 z9 (by omega) (by omega) fun w1 hx1 hf => ?_
  refine loopC l.length (fun k us w' => us = [.int .i64 (k : Int)] ∧ Ext w w' ∧ Fill w.heap.size 9 l.length [] w' (l.take k)) 0 (Nat.zero_le _) ⟨rfl, hx1, by simpa using hf⟩ ?_
  rintro k m u w2 hkm ⟨hu, hx2, hf2⟩
  simp only [List.map_cons, List.map_nil, List.cons.injEq, and_true] at hu
  rw [hu]
  refine rd_len u22 h ?_
  refine rd_lss ?_
  refine br (fun hlt => ?_) (fun hge => ?_)
  · have hk : k < l.length := by omega
    refine rd_indexN u22 ty9 h hk fun b o hA => ?_
    refine rd_loadS ty9 hA hx2 fun hI => ?_
    refine rd_indexG u22 ty9 hk ?_
    refine opu_fill (α := ByteArray) ty9 hf2 (by simp [Rep.size]; omega) (by simp; omega) (⟨⟨_, ⟨rfl, rfl, hI⟩, rfl⟩, List.nodup_nil, Wr.nil _⟩ : Mine [] w2 _ l[k]) (by simp) fun w3 hc3 hf3 => ?_
    refine rd_inc (by have := is_len h; omega) ?_
    refine ⟨m - 1, by omega, k + 1, by omega, rfl, hx2.chg_trans hc3 (by simp), ?_⟩
    rw [List.take_succ_eq_append_getElem hk]
    simpa using hf3
  · have hk : k = l.length := by omega
    subst hk
    rw [List.take_length] at hf2
    exact ⟨hx2, _, hf2.own rfl (by rw [maxLen_eq]; omega), by simp⟩

def ToTerm (t : DTerm) : Prop := ∀ {w : World} {v : Value}, Is w v t → wT t ≤ 1048576 →
  CALL Tryz.prog 194 [v] w fun r w' => Ext w w' ∧ Own w.heap.size w' r t
def ToTermS (l : List DTerm) : Prop := ∀ {w : World} {v : Value}, Is w v l → wTs l ≤ 1048576 →
  CALL Tryz.prog 250 [v] w fun r w' => Ext w w' ∧ Own w.heap.size w' r l
/-- a new element for a slice that is being filled -/
theorem fill_nodup {α : Type} [Rep α] {g e n lo : Nat} {Fi F1 : List Nat} {w w' : World} {l : List α} {v : Value} {x : α} (hf : Fill g e n Fi w l) (hm : Mine F1 w' v x) (hl : ∀ b ∈ F1, w.heap.size ≤ b) : (F1 ++ (g :: Fi)).Nodup := by
  rw [List.nodup_append]
  refine ⟨hm.nodup, by obtain ⟨_, _, _, _, _, hn, _⟩ := hf; exact hn, fun a ha c hc e => ?_⟩
  subst e
  have := hl a ha
  have := hf.lt a hc
  omega
theorem toTermS_step {w : World} {v : Value} {l : List DTerm} (ih : ∀ t ∈ l, ToTerm t) (h : Is w v l) (hn : wTs l ≤ 1048576) :
    CALL Tryz.prog 250 [v] w fun r w' => Ext w w' ∧ Own w.heap.size w' r l := by
  rw [wTs_eq] at hn
  refine F250_call ?_
  unfold F250
  refine rd_len u126 h ?_
  refine op_make (α := DTerm) u131 ty133 z133 (by omega) (by omega) fun w1 hx1 hf => ?_
  refine loopC l.length (fun k us w' => us = [.int .i64 (k : Int)] ∧ Ext w w' ∧ ∃ Fi, Fill w.heap.size 133 l.length Fi w' (l.take k) ∧ ∀ b ∈ Fi, w.heap.size ≤ b) 0 (Nat.zero_le _) ⟨rfl, hx1, [], by simpa using hf, by simp⟩ ?_
  rintro k m u w2 hkm ⟨hu, hx2, Fi, hf2, hFl⟩
  simp only [List.map_cons, List.map_nil, List.cons.injEq, and_true] at hu
  rw [hu]
  refine rd_len u126 h ?_
  refine rd_lss ?_
  refine br (fun hlt => ?_) (fun hge => ?_)
  · have hk : k < l.length := by omega
    refine rd_indexN u126 ty128 h hk fun b o hA => ?_
    refine rd_load ty128 hA hx2 fun v19 h19 => ?_
    refine (ih _ (List.getElem_mem hk) (h19.ext hx2) (by have := sm_mem wT (List.getElem_mem hk); omega)).mono ?_
    rintro r20 w3 ⟨hx3, F20, hm20, hl20⟩
    refine rd_indexG u131 ty133 hk ?_
    refine opu_fill (α := DTerm) ty133 (hf2.ext hx3) (by simp [Rep.size]; omega) (by simp; omega) hm20 (fill_nodup (lo := 0) hf2 hm20 hl20) fun w4 hc4 hf4 => ?_
    refine rd_inc (by have := is_len h; omega) ?_
    refine ⟨m - 1, by omega, k + 1, by omega, rfl, (hx2.trans hx3).chg_trans hc4 (by simp), Fi ++ F20, ?_, ?_⟩
    · rw [List.take_succ_eq_append_getElem hk]
      exact hf4
    · intro b hb
      rcases List.mem_append.1 hb with hb | hb
      · exact hFl b hb
      · exact Nat.le_trans hx2.size (hl20 b hb)
  · have hk : k = l.length := by omega
    subst hk
    rw [List.take_length] at hf2
    exact ⟨hx2, _, hf2.own rfl (by rw [maxLen_eq]; omega), by simpa using hFl⟩
/-- laws.toTerm -/
def F194 (a0 : Value) (w : World) (R : Value → World → Prop) : Prop :=
  OP Tryz.prog (Instr.box 128 a0) w fun x1 w =>
  OP Tryz.prog (Instr.alloc 133 true (.tuple #[])) w fun x2 w =>
  OP Tryz.prog (Instr.alloc 133 true (.tuple #[])) w fun x3 w =>
  RD Tryz.prog (Instr.fieldAt 128 x1 0) w fun x4 =>
  RD Tryz.prog (Instr.loadAt 3 x4) w fun x5 =>
  RD Tryz.prog (Instr.fieldAt 133 x3 0) w fun x6 =>
  OPU Tryz.prog (Instr.storeAt 3 x6 x5) w fun w =>
  RD Tryz.prog (Instr.fieldAt 128 x1 1) w fun x7 =>
  RD Tryz.prog (Instr.loadAt 3 x7) w fun x8 =>
  RD Tryz.prog (Instr.fieldAt 133 x3 1) w fun x9 =>
  OPU Tryz.prog (Instr.storeAt 3 x9 x8) w fun w =>
  RD Tryz.prog (Instr.fieldAt 128 x1 2) w fun x10 =>
  RD Tryz.prog (Instr.loadAt 9 x10) w fun x11 =>
  RD Tryz.prog (Instr.fieldAt 133 x3 2) w fun x12 =>
  OPU Tryz.prog (Instr.storeAt 9 x12 x11) w fun w =>
  RD Tryz.prog (Instr.fieldAt 128 x1 3) w fun x13 =>
  RD Tryz.prog (Instr.loadAt 126 x13) w fun x14 =>
  CALL Tryz.prog 250 [x14] w fun x15 w =>
  RD Tryz.prog (Instr.fieldAt 133 x3 3) w fun x16 =>
  OPU Tryz.prog (Instr.storeAt 131 x16 x15) w fun w =>
  RD Tryz.prog (Instr.loadAt 133 x3) w fun x17 =>
  OPU Tryz.prog (Instr.storeAt 133 x2 x17) w fun w =>
  RD Tryz.prog (loadRes 133 x2) w fun r2 => R r2 w
def cfg194 : Cfg := { ext := extL, joins := [], loops := [], draws := [], pars := [] }
theorem F194_eq (a0 : Value) (w : World) (R : Value → World → Prop) : vcF Tryz.prog cfg194 Tryz.f194 [a0] w R = F194 a0 w R := by kernel_rfl
theorem F194_call {a0 : Value} {w : World} {R : Value → World → Prop} (h : F194 a0 w R) : CALL Tryz.prog 194 [a0] w R :=
  call_of (g := cfg194) ent mixed Tryz.func194 (Nat.le_of_ble_eq_true (by kernel_rfl)) (by kernel_rfl) (F194_eq a0 w R ▸ h)


theorem toTerm_step {w : World} {v0 : Value} {W0 : World} {t : DTerm}  (h0 : Is W0 v0 t) (e0 : Ext W0 w) (ih : ToTermS t.kids) (hn : wT t ≤ 1048576) :
    CALL Tryz.prog 194 [v0] w fun r w' => Ext w w' ∧ (Own w.heap.size w' r t) := by
  refine F194_call ?_
  unfold F194
  have hn' : wTs t.kids ≤ 1048576 := by rw [wT_eq] at hn; omega
  have hs_e0 := e0.size
  refine op_boxS ty128 rfl h0 e0 fun w1_ hx1_ hA1 hV1 => ?_
  have hs_hx1_ := hx1_.size
  refine op_varZ (α := DTerm) zl133 fun w2_ hx2_ hv2 => ?_
  have hg2 := hv2.lt
  have hs_hx2_ := hx2_.size
  refine op_varZ (α := DTerm) zl133 fun w3_ hx3_ hv3 => ?_
  have hg3 := hv3.lt
  have hs_hx3_ := hx3_.size
  refine rd_fld fd128_0 ?_
  refine rd_loadI ty3 (at_DTerm_0 hA1) (hx2_.trans hx3_) fun hI5 => ?_
  refine rd_fld fd133_0 ?_
  obtain ⟨Fv4, hO4, hF4⟩ := (hv3.ext (Ext.refl w3_))
  obtain ⟨Gv4, hL4⟩ := lens_DTerm_0 (Lens.var hO4)
  refine opu_varF ty3 hL4 hF4 (ownI_int (lo := w3_.heap.size) (hi := w3_.heap.size) (by first | assumption | (unfold I64 at *; omega))) (by omega) (by omega) fun w4_ hc4_ hv4_ => ?_
  have hv3_s4 := hv4_ (w3_.heap.size) (by omega) (by omega) (w3_.heap.size) (by omega) (by omega)
  clear hv4_ hL4 hO4 hF4
  have hs_hc4_ := hc4_.size
  have hv2_c4 := (hv2.ext hx3_).chg hc4_ (by omega) (by omega)
  refine rd_fld fd128_1 ?_
  refine rd_loadI ty3 (at_DTerm_1 hA1) (Ext.chgI (hx2_.trans hx3_) hc4_ (by omega)) fun hI8 => ?_
  refine rd_fld fd133_1 ?_
  obtain ⟨Fv5, hO5, hF5⟩ := (hv3_s4.ext (Ext.refl w4_))
  obtain ⟨Gv5, hL5⟩ := lens_DTerm_1 (Lens.var hO5)
  refine opu_varF ty3 hL5 hF5 (ownI_int (lo := w4_.heap.size) (hi := w4_.heap.size) (by first | assumption | (unfold I64 at *; omega))) (by omega) (by omega) fun w5_ hc5_ hv5_ => ?_
  have hv3_s5 := hv5_ (w3_.heap.size) (by omega) (by omega) (w4_.heap.size) (by omega) (by omega)
  clear hv5_ hL5 hO5 hF5
  have hs_hc5_ := hc5_.size
  have hv2_c5 := (hv2_c4.ext (Ext.refl w4_)).chg hc5_ (by omega) (by omega)
  refine rd_fld fd128_2 ?_
  refine rd_loadS ty9 (at_DTerm_2 hA1) (Ext.chgI (Ext.chgI (hx2_.trans hx3_) hc4_ (by omega)) hc5_ (by omega)) fun hS11 => ?_
  refine rd_fld fd133_2 ?_
  obtain ⟨Fv6, hO6, hF6⟩ := (hv3_s5.ext (Ext.refl w5_))
  obtain ⟨Gv6, hL6⟩ := lens_DTerm_2 (Lens.var hO6)
  refine opu_varF ty9 hL6 hF6 (ownI_str (lo := w5_.heap.size) (hi := w5_.heap.size) (by first | assumption | (rw [maxLen_eq]; omega) | (simp [maxLen_eq]; omega))) (by omega) (by omega) fun w6_ hc6_ hv6_ => ?_
  have hv3_s6 := hv6_ (w3_.heap.size) (by omega) (by omega) (w5_.heap.size) (by omega) (by omega)
  clear hv6_ hL6 hO6 hF6
  have hs_hc6_ := hc6_.size
  have hv2_c6 := (hv2_c5.ext (Ext.refl w5_)).chg hc6_ (by omega) (by omega)
  refine rd_fld fd128_3 ?_
  refine rd_load ty126 (at_DTerm_3 hA1) (Ext.chgI (Ext.chgI (Ext.chgI (hx2_.trans hx3_) hc4_ (by omega)) hc5_ (by omega)) hc6_ (by omega)) fun v14 h14 => ?_
  refine (ih (h14.ext (Ext.chgI (Ext.chgI (Ext.chgI (hx2_.trans hx3_) hc4_ (by omega)) hc5_ (by omega)) hc6_ (by omega))) (by omega)).mono ?_
  rintro r15 w7_ ⟨hx7_, o15⟩
  have o15 := o15.toI
  have hs_hx7_ := hx7_.size
  refine rd_fld fd133_3 ?_
  obtain ⟨Fv8, hO8, hF8⟩ := (hv3_s6.ext hx7_)
  obtain ⟨Gv8, hL8⟩ := lens_DTerm_3 (Lens.var hO8)
  refine opu_varF ty131 hL8 hF8 (o15.ext (Ext.refl w7_)) (by omega) (by omega) fun w8_ hc8_ hv8_ => ?_
  have hv3_s8 := hv8_ (w3_.heap.size) (by omega) (by omega) (w7_.heap.size) (by omega) (by omega)
  clear hv8_ hL8 hO8 hF8
  have hs_hc8_ := hc8_.size
  have hv2_c8 := (hv2_c6.ext hx7_).chg hc8_ (by omega) (by omega)
  have o15_c8 := (o15.ext (Ext.refl w7_)).chg hc8_ (by omega)
  refine rd_varI ty133 hv3_s8 (Ext.refl w8_) fun v17 o17 => ?_
  refine opu_varA ty133 (hv2_c8.ext (Ext.refl w8_)) (o17.ext (Ext.refl w8_)) (by omega) fun w9_ hc9_ hv2_s9 => ?_
  have hs_hc9_ := hc9_.size
  have hv3_s8_c9 := (hv3_s8.ext (Ext.refl w8_)).chg hc9_ (by omega) (by omega)
  have o15_c9 := (o15_c8.ext (Ext.refl w8_)).chg hc9_ (by omega)
  have o17_c9 := (o17.ext (Ext.refl w8_)).chg hc9_ (by omega)
  refine rd_varRI ty133 hv2_s9 (Ext.refl w9_) fun r2 hr2 => ?_
  replace hr2 := hr2.ext (Ext.refl w9_)
  refine ⟨(Ext.chgI (Ext.chgI ((Ext.chgI (Ext.chgI (Ext.chgI ((hx1_.trans hx2_).trans hx3_) hc4_ (by omega)) hc5_ (by omega)) hc6_ (by omega)).trans hx7_) hc8_ (by omega)) hc9_ (by omega)), ?_⟩
  have := (hr2.mono (lo' := w.heap.size) (by omega) (Nat.le_refl _)).own
  cases t
  exact this

theorem toTerm_ok (t : DTerm) : ToTerm t := DTerm.ind (fun t ih {w v} h hn => toTerm_step h (Ext.refl w) (fun {_ _} h hn => toTermS_step ih h hn) hn) t
/-- laws.toIns -/
def F123 (a0 : Value) (w : World) (R : Value → World → Prop) : Prop :=
  OP Tryz.prog (Instr.box 130 a0) w fun x1 w =>
  OP Tryz.prog (Instr.alloc 135 true (.tuple #[])) w fun x2 w =>
  OP Tryz.prog (Instr.alloc 135 true (.tuple #[])) w fun x3 w =>
  RD Tryz.prog (Instr.fieldAt 130 x1 0) w fun x4 =>
  RD Tryz.prog (Instr.loadAt 3 x4) w fun x5 =>
  RD Tryz.prog (Instr.fieldAt 135 x3 0) w fun x6 =>
  OPU Tryz.prog (Instr.storeAt 3 x6 x5) w fun w =>
  RD Tryz.prog (Instr.fieldAt 130 x1 1) w fun x7 =>
  RD Tryz.prog (Instr.loadAt 3 x7) w fun x8 =>
  RD Tryz.prog (Instr.fieldAt 135 x3 1) w fun x9 =>
  OPU Tryz.prog (Instr.storeAt 3 x9 x8) w fun w =>
  RD Tryz.prog (Instr.fieldAt 130 x1 2) w fun x10 =>
  RD Tryz.prog (Instr.loadAt 128 x10) w fun x11 =>
  CALL Tryz.prog 194 [x11] w fun x12 w =>
  RD Tryz.prog (Instr.fieldAt 135 x3 2) w fun x13 =>
  OPU Tryz.prog (Instr.storeAt 133 x13 x12) w fun w =>
  RD Tryz.prog (Instr.fieldAt 130 x1 3) w fun x14 =>
  RD Tryz.prog (Instr.loadAt 3 x14) w fun x15 =>
  RD Tryz.prog (Instr.fieldAt 135 x3 3) w fun x16 =>
  OPU Tryz.prog (Instr.storeAt 3 x16 x15) w fun w =>
  RD Tryz.prog (Instr.loadAt 135 x3) w fun x17 =>
  OPU Tryz.prog (Instr.storeAt 135 x2 x17) w fun w =>
  RD Tryz.prog (loadRes 135 x2) w fun r2 => R r2 w
def cfg123 : Cfg := { ext := extL, joins := [], loops := [], draws := [], pars := [] }
theorem F123_eq (a0 : Value) (w : World) (R : Value → World → Prop) : vcF Tryz.prog cfg123 Tryz.f123 [a0] w R = F123 a0 w R := by kernel_rfl
theorem F123_call {a0 : Value} {w : World} {R : Value → World → Prop} (h : F123 a0 w R) : CALL Tryz.prog 123 [a0] w R :=
  call_of (g := cfg123) ent mixed Tryz.func123 (Nat.le_of_ble_eq_true (by kernel_rfl)) (by kernel_rfl) (F123_eq a0 w R ▸ h)


theorem toIns_ok {w : World} {v0 : Value} {W0 : World} {t : DIns}  (h0 : Is W0 v0 t) (e0 : Ext W0 w) (hn : wT t.term ≤ 1048576) :
    CALL Tryz.prog 123 [v0] w fun r w' => Ext w w' ∧ (Own w.heap.size w' r t) := by
  refine F123_call ?_
  unfold F123
  have hs_e0 := e0.size
  refine op_boxS ty130 rfl h0 e0 fun w1_ hx1_ hA1 hV1 => ?_
  have hs_hx1_ := hx1_.size
  refine op_varZ (α := DIns) zl135 fun w2_ hx2_ hv2 => ?_
  have hg2 := hv2.lt
  have hs_hx2_ := hx2_.size
  refine op_varZ (α := DIns) zl135 fun w3_ hx3_ hv3 => ?_
  have hg3 := hv3.lt
  have hs_hx3_ := hx3_.size
  refine rd_fld fd130_0 ?_
  refine rd_loadI ty3 (at_DIns_0 hA1) (hx2_.trans hx3_) fun hI5 => ?_
  refine rd_fld fd135_0 ?_
  obtain ⟨Fv4, hO4, hF4⟩ := (hv3.ext (Ext.refl w3_))
  obtain ⟨Gv4, hL4⟩ := lens_DIns_0 (Lens.var hO4)
  refine opu_varF ty3 hL4 hF4 (ownI_int (lo := w3_.heap.size) (hi := w3_.heap.size) (by first | assumption | (unfold I64 at *; omega))) (by omega) (by omega) fun w4_ hc4_ hv4_ => ?_
  have hv3_s4 := hv4_ (w3_.heap.size) (by omega) (by omega) (w3_.heap.size) (by omega) (by omega)
  clear hv4_ hL4 hO4 hF4
  have hs_hc4_ := hc4_.size
  have hv2_c4 := (hv2.ext hx3_).chg hc4_ (by omega) (by omega)
  refine rd_fld fd130_1 ?_
  refine rd_loadI ty3 (at_DIns_1 hA1) (Ext.chgI (hx2_.trans hx3_) hc4_ (by omega)) fun hI8 => ?_
  refine rd_fld fd135_1 ?_
  obtain ⟨Fv5, hO5, hF5⟩ := (hv3_s4.ext (Ext.refl w4_))
  obtain ⟨Gv5, hL5⟩ := lens_DIns_1 (Lens.var hO5)
  refine opu_varF ty3 hL5 hF5 (ownI_int (lo := w4_.heap.size) (hi := w4_.heap.size) (by first | assumption | (unfold I64 at *; omega))) (by omega) (by omega) fun w5_ hc5_ hv5_ => ?_
  have hv3_s5 := hv5_ (w3_.heap.size) (by omega) (by omega) (w4_.heap.size) (by omega) (by omega)
  clear hv5_ hL5 hO5 hF5
  have hs_hc5_ := hc5_.size
  have hv2_c5 := (hv2_c4.ext (Ext.refl w4_)).chg hc5_ (by omega) (by omega)
  refine rd_fld fd130_2 ?_
  refine rd_load ty128 (at_DIns_2 hA1) (Ext.chgI (Ext.chgI (hx2_.trans hx3_) hc4_ (by omega)) hc5_ (by omega)) fun v11 h11 => ?_
  refine ((toTerm_ok _) (h11.ext (Ext.chgI (Ext.chgI (hx2_.trans hx3_) hc4_ (by omega)) hc5_ (by omega))) (by assumption)).mono ?_
  rintro r12 w6_ ⟨hx6_, o12⟩
  have o12 := o12.toI
  have hs_hx6_ := hx6_.size
  refine rd_fld fd135_2 ?_
  obtain ⟨Fv7, hO7, hF7⟩ := (hv3_s5.ext hx6_)
  obtain ⟨Gv7, hL7⟩ := lens_DIns_2 (Lens.var hO7)
  refine opu_varF ty133 hL7 hF7 (o12.ext (Ext.refl w6_)) (by omega) (by omega) fun w7_ hc7_ hv7_ => ?_
  have hv3_s7 := hv7_ (w3_.heap.size) (by omega) (by omega) (w6_.heap.size) (by omega) (by omega)
  clear hv7_ hL7 hO7 hF7
  have hs_hc7_ := hc7_.size
  have hv2_c7 := (hv2_c5.ext hx6_).chg hc7_ (by omega) (by omega)
  have o12_c7 := (o12.ext (Ext.refl w6_)).chg hc7_ (by omega)
  refine rd_fld fd130_3 ?_
  refine rd_loadI ty3 (at_DIns_3 hA1) (Ext.chgI ((Ext.chgI (Ext.chgI (hx2_.trans hx3_) hc4_ (by omega)) hc5_ (by omega)).trans hx6_) hc7_ (by omega)) fun hI15 => ?_
  refine rd_fld fd135_3 ?_
  obtain ⟨Fv8, hO8, hF8⟩ := (hv3_s7.ext (Ext.refl w7_))
  obtain ⟨Gv8, hL8⟩ := lens_DIns_3 (Lens.var hO8)
  refine opu_varF ty3 hL8 hF8 (ownI_int (lo := w7_.heap.size) (hi := w7_.heap.size) (by first | assumption | (unfold I64 at *; omega))) (by omega) (by omega) fun w8_ hc8_ hv8_ => ?_
  have hv3_s8 := hv8_ (w3_.heap.size) (by omega) (by omega) (w7_.heap.size) (by omega) (by omega)
  clear hv8_ hL8 hO8 hF8
  have hs_hc8_ := hc8_.size
  have hv2_c8 := (hv2_c7.ext (Ext.refl w7_)).chg hc8_ (by omega) (by omega)
  have o12_c8 := (o12_c7.ext (Ext.refl w7_)).chg hc8_ (by omega)
  refine rd_varI ty135 hv3_s8 (Ext.refl w8_) fun v17 o17 => ?_
  refine opu_varA ty135 (hv2_c8.ext (Ext.refl w8_)) (o17.ext (Ext.refl w8_)) (by omega) fun w9_ hc9_ hv2_s9 => ?_
  have hs_hc9_ := hc9_.size
  have hv3_s8_c9 := (hv3_s8.ext (Ext.refl w8_)).chg hc9_ (by omega) (by omega)
  have o12_c9 := (o12_c8.ext (Ext.refl w8_)).chg hc9_ (by omega)
  have o17_c9 := (o17.ext (Ext.refl w8_)).chg hc9_ (by omega)
  refine rd_varRI ty135 hv2_s9 (Ext.refl w9_) fun r2 hr2 => ?_
  replace hr2 := hr2.ext (Ext.refl w9_)
  refine ⟨(Ext.chgI (Ext.chgI (Ext.chgI ((Ext.chgI (Ext.chgI ((hx1_.trans hx2_).trans hx3_) hc4_ (by omega)) hc5_ (by omega)).trans hx6_) hc7_ (by omega)) hc8_ (by omega)) hc9_ (by omega)), ?_⟩
  exact (hr2.mono (lo' := w.heap.size) (by omega) (Nat.le_refl _)).own

theorem toInsS_ok {w : World} {v : Value} {l : List DIns} (h : Is w v l) (hn : wIns l ≤ 1048576) :
    CALL Tryz.prog 69 [v] w fun r w' => Ext w w' ∧ Own w.heap.size w' r l := by
  unfold wIns at hn
  refine F69_call ?_
  unfold F69
  refine rd_len u24 h ?_
  refine op_make (α := DIns) u35 ty135 z135 (by omega) (by omega) fun w1 hx1 hf => ?_
  refine loopC l.length (fun k us w' => us = [.int .i64 (k : Int)] ∧ Ext w w' ∧ ∃ Fi, Fill w.heap.size 135 l.length Fi w' (l.take k) ∧ ∀ b ∈ Fi, w.heap.size ≤ b) 0 (Nat.zero_le _) ⟨rfl, hx1, [], by simpa using hf, by simp⟩ ?_
  rintro k m u w2 hkm ⟨hu, hx2, Fi, hf2, hFl⟩
  simp only [List.map_cons, List.map_nil, List.cons.injEq, and_true] at hu
  rw [hu]
  refine rd_len u24 h ?_
  refine rd_lss ?_
  refine br (fun hlt => ?_) (fun hge => ?_)
  · have hk : k < l.length := by omega
    refine rd_indexN u24 ty130 h hk fun b o hA => ?_
    refine rd_load ty130 hA hx2 fun v19 h19 => ?_
    refine (toIns_ok h19 hx2 (by have := sm_mem (fun i : DIns => wT i.term) (List.getElem_mem hk); omega)).mono ?_
    rintro r20 w3 ⟨hx3, F20, hm20, hl20⟩
    refine rd_indexG u35 ty135 hk ?_
    refine opu_fill (α := DIns) ty135 (hf2.ext hx3) (by simp [Rep.size]; omega) (by simp; omega) hm20 (fill_nodup (lo := 0) hf2 hm20 hl20) fun w4 hc4 hf4 => ?_
    refine rd_inc (by have := is_len h; omega) ?_
    refine ⟨m - 1, by omega, k + 1, by omega, rfl, (hx2.trans hx3).chg_trans hc4 (by simp), Fi ++ F20, ?_, ?_⟩
    · rw [List.take_succ_eq_append_getElem hk]
      exact hf4
    · intro b hb
      rcases List.mem_append.1 hb with hb | hb
      · exact hFl b hb
      · exact Nat.le_trans hx2.size (hl20 b hb)
  · have hk : k = l.length := by omega
    subst hk
    rw [List.take_length] at hf2
    exact ⟨hx2, _, hf2.own rfl (by rw [maxLen_eq]; omega), by simpa using hFl⟩
/-- laws.toCode -/
def F17 (a0 : Value) (w : World) (R : Value → World → Prop) : Prop :=
  OP Tryz.prog (Instr.box 26 a0) w fun x1 w =>
  OP Tryz.prog (Instr.alloc 37 true (.tuple #[])) w fun x2 w =>
  OP Tryz.prog (Instr.alloc 37 true (.tuple #[])) w fun x3 w =>
  RD Tryz.prog (Instr.fieldAt 26 x1 0) w fun x4 =>
  RD Tryz.prog (Instr.loadAt 22 x4) w fun x5 =>
  CALL Tryz.prog 68 [x5] w fun x6 w =>
  RD Tryz.prog (Instr.fieldAt 37 x3 0) w fun x7 =>
  OPU Tryz.prog (Instr.storeAt 22 x7 x6) w fun w =>
  RD Tryz.prog (Instr.fieldAt 26 x1 1) w fun x8 =>
  RD Tryz.prog (Instr.loadAt 22 x8) w fun x9 =>
  CALL Tryz.prog 68 [x9] w fun x10 w =>
  RD Tryz.prog (Instr.fieldAt 37 x3 1) w fun x11 =>
  OPU Tryz.prog (Instr.storeAt 22 x11 x10) w fun w =>
  RD Tryz.prog (Instr.fieldAt 26 x1 2) w fun x12 =>
  RD Tryz.prog (Instr.loadAt 22 x12) w fun x13 =>
  CALL Tryz.prog 68 [x13] w fun x14 w =>
  RD Tryz.prog (Instr.fieldAt 37 x3 2) w fun x15 =>
  OPU Tryz.prog (Instr.storeAt 22 x15 x14) w fun w =>
  RD Tryz.prog (Instr.fieldAt 26 x1 3) w fun x16 =>
  RD Tryz.prog (Instr.loadAt 23 x16) w fun x17 =>
  CALL Tryz.prog 42 [x17] w fun x18 w =>
  RD Tryz.prog (Instr.fieldAt 37 x3 3) w fun x19 =>
  OPU Tryz.prog (Instr.storeAt 23 x19 x18) w fun w =>
  RD Tryz.prog (Instr.fieldAt 26 x1 4) w fun x20 =>
  RD Tryz.prog (Instr.loadAt 24 x20) w fun x21 =>
  CALL Tryz.prog 69 [x21] w fun x22 w =>
  RD Tryz.prog (Instr.fieldAt 37 x3 4) w fun x23 =>
  OPU Tryz.prog (Instr.storeAt 35 x23 x22) w fun w =>
  RD Tryz.prog (Instr.loadAt 37 x3) w fun x24 =>
  OPU Tryz.prog (Instr.storeAt 37 x2 x24) w fun w =>
  RD Tryz.prog (loadRes 37 x2) w fun r2 => R r2 w
def cfg17 : Cfg := { ext := extL, joins := [], loops := [], draws := [], pars := [] }
theorem F17_eq (a0 : Value) (w : World) (R : Value → World → Prop) : vcF Tryz.prog cfg17 Tryz.f17 [a0] w R = F17 a0 w R := by kernel_rfl
theorem F17_call {a0 : Value} {w : World} {R : Value → World → Prop} (h : F17 a0 w R) : CALL Tryz.prog 17 [a0] w R :=
  call_of (g := cfg17) ent mixed Tryz.func17 (Nat.le_of_ble_eq_true (by kernel_rfl)) (by kernel_rfl) (F17_eq a0 w R ▸ h)


theorem toCode_step {w : World} {v0 : Value} {W0 : World} {t : DCode}  (h0 : Is W0 v0 t) (e0 : Ext W0 w) (hn : wCode t ≤ 1048576) :
    CALL Tryz.prog 17 [v0] w fun r w' => Ext w w' ∧ (Own w.heap.size w' r t) := by
  refine F17_call ?_
  unfold F17
  unfold wCode wStr at hn
  have hs_e0 := e0.size
  refine op_boxS ty26 rfl h0 e0 fun w1_ hx1_ hA1 hV1 => ?_
  have hs_hx1_ := hx1_.size
  refine op_varZ (α := DCode) zl37 fun w2_ hx2_ hv2 => ?_
  have hg2 := hv2.lt
  have hs_hx2_ := hx2_.size
  refine op_varZ (α := DCode) zl37 fun w3_ hx3_ hv3 => ?_
  have hg3 := hv3.lt
  have hs_hx3_ := hx3_.size
  refine rd_fld fd26_0 ?_
  refine rd_load ty22 (at_DCode_0 hA1) (hx2_.trans hx3_) fun v5 h5 => ?_
  refine (toStringS_ok (h5.ext (hx2_.trans hx3_)) (by omega)).mono ?_
  rintro r6 w4_ ⟨hx4_, o6⟩
  have o6 := o6.toI
  have hs_hx4_ := hx4_.size
  refine rd_fld fd37_0 ?_
  obtain ⟨Fv5, hO5, hF5⟩ := (hv3.ext hx4_)
  obtain ⟨Gv5, hL5⟩ := lens_DCode_0 (Lens.var hO5)
  refine opu_varF ty22 hL5 hF5 (o6.ext (Ext.refl w4_)) (by omega) (by omega) fun w5_ hc5_ hv5_ => ?_
  have hv3_s5 := hv5_ (w3_.heap.size) (by omega) (by omega) (w4_.heap.size) (by omega) (by omega)
  clear hv5_ hL5 hO5 hF5
  have hs_hc5_ := hc5_.size
  have hv2_c5 := (hv2.ext (hx3_.trans hx4_)).chg hc5_ (by omega) (by omega)
  have o6_c5 := (o6.ext (Ext.refl w4_)).chg hc5_ (by omega)
  refine rd_fld fd26_1 ?_
  refine rd_load ty22 (at_DCode_1 hA1) (Ext.chgI ((hx2_.trans hx3_).trans hx4_) hc5_ (by omega)) fun v9 h9 => ?_
  refine (toStringS_ok (h9.ext (Ext.chgI ((hx2_.trans hx3_).trans hx4_) hc5_ (by omega))) (by omega)).mono ?_
  rintro r10 w6_ ⟨hx6_, o10⟩
  have o10 := o10.toI
  have hs_hx6_ := hx6_.size
  refine rd_fld fd37_1 ?_
  obtain ⟨Fv7, hO7, hF7⟩ := (hv3_s5.ext hx6_)
  obtain ⟨Gv7, hL7⟩ := lens_DCode_1 (Lens.var hO7)
  refine opu_varF ty22 hL7 hF7 (o10.ext (Ext.refl w6_)) (by omega) (by omega) fun w7_ hc7_ hv7_ => ?_
  have hv3_s7 := hv7_ (w3_.heap.size) (by omega) (by omega) (w6_.heap.size) (by omega) (by omega)
  clear hv7_ hL7 hO7 hF7
  have hs_hc7_ := hc7_.size
  have hv2_c7 := (hv2_c5.ext hx6_).chg hc7_ (by omega) (by omega)
  have o6_c7 := (o6_c5.ext hx6_).chg hc7_ (by omega)
  have o10_c7 := (o10.ext (Ext.refl w6_)).chg hc7_ (by omega)
  refine rd_fld fd26_2 ?_
  refine rd_load ty22 (at_DCode_2 hA1) (Ext.chgI ((Ext.chgI ((hx2_.trans hx3_).trans hx4_) hc5_ (by omega)).trans hx6_) hc7_ (by omega)) fun v13 h13 => ?_
  refine (toStringS_ok (h13.ext (Ext.chgI ((Ext.chgI ((hx2_.trans hx3_).trans hx4_) hc5_ (by omega)).trans hx6_) hc7_ (by omega))) (by omega)).mono ?_
  rintro r14 w8_ ⟨hx8_, o14⟩
  have o14 := o14.toI
  have hs_hx8_ := hx8_.size
  refine rd_fld fd37_2 ?_
  obtain ⟨Fv9, hO9, hF9⟩ := (hv3_s7.ext hx8_)
  obtain ⟨Gv9, hL9⟩ := lens_DCode_2 (Lens.var hO9)
  refine opu_varF ty22 hL9 hF9 (o14.ext (Ext.refl w8_)) (by omega) (by omega) fun w9_ hc9_ hv9_ => ?_
  have hv3_s9 := hv9_ (w3_.heap.size) (by omega) (by omega) (w8_.heap.size) (by omega) (by omega)
  clear hv9_ hL9 hO9 hF9
  have hs_hc9_ := hc9_.size
  have hv2_c9 := (hv2_c7.ext hx8_).chg hc9_ (by omega) (by omega)
  have o6_c9 := (o6_c7.ext hx8_).chg hc9_ (by omega)
  have o10_c9 := (o10_c7.ext hx8_).chg hc9_ (by omega)
  have o14_c9 := (o14.ext (Ext.refl w8_)).chg hc9_ (by omega)
  refine rd_fld fd26_3 ?_
  refine rd_load ty23 (at_DCode_3 hA1) (Ext.chgI ((Ext.chgI ((Ext.chgI ((hx2_.trans hx3_).trans hx4_) hc5_ (by omega)).trans hx6_) hc7_ (by omega)).trans hx8_) hc9_ (by omega)) fun v17 h17 => ?_
  refine (toIntS_ok (h17.ext (Ext.chgI ((Ext.chgI ((Ext.chgI ((hx2_.trans hx3_).trans hx4_) hc5_ (by omega)).trans hx6_) hc7_ (by omega)).trans hx8_) hc9_ (by omega))) (by omega)).mono ?_
  rintro r18 w10_ ⟨hx10_, o18⟩
  have o18 := o18.toI
  have hs_hx10_ := hx10_.size
  refine rd_fld fd37_3 ?_
  obtain ⟨Fv11, hO11, hF11⟩ := (hv3_s9.ext hx10_)
  obtain ⟨Gv11, hL11⟩ := lens_DCode_3 (Lens.var hO11)
  refine opu_varF ty23 hL11 hF11 (o18.ext (Ext.refl w10_)) (by omega) (by omega) fun w11_ hc11_ hv11_ => ?_
  have hv3_s11 := hv11_ (w3_.heap.size) (by omega) (by omega) (w10_.heap.size) (by omega) (by omega)
  clear hv11_ hL11 hO11 hF11
  have hs_hc11_ := hc11_.size
  have hv2_c11 := (hv2_c9.ext hx10_).chg hc11_ (by omega) (by omega)
  have o6_c11 := (o6_c9.ext hx10_).chg hc11_ (by omega)
  have o10_c11 := (o10_c9.ext hx10_).chg hc11_ (by omega)
  have o14_c11 := (o14_c9.ext hx10_).chg hc11_ (by omega)
  have o18_c11 := (o18.ext (Ext.refl w10_)).chg hc11_ (by omega)
  refine rd_fld fd26_4 ?_
  refine rd_load ty24 (at_DCode_4 hA1) (Ext.chgI ((Ext.chgI ((Ext.chgI ((Ext.chgI ((hx2_.trans hx3_).trans hx4_) hc5_ (by omega)).trans hx6_) hc7_ (by omega)).trans hx8_) hc9_ (by omega)).trans hx10_) hc11_ (by omega)) fun v21 h21 => ?_
  refine (toInsS_ok (h21.ext (Ext.chgI ((Ext.chgI ((Ext.chgI ((Ext.chgI ((hx2_.trans hx3_).trans hx4_) hc5_ (by omega)).trans hx6_) hc7_ (by omega)).trans hx8_) hc9_ (by omega)).trans hx10_) hc11_ (by omega))) (by omega)).mono ?_
  rintro r22 w12_ ⟨hx12_, o22⟩
  have o22 := o22.toI
  have hs_hx12_ := hx12_.size
  refine rd_fld fd37_4 ?_
  obtain ⟨Fv13, hO13, hF13⟩ := (hv3_s11.ext hx12_)
  obtain ⟨Gv13, hL13⟩ := lens_DCode_4 (Lens.var hO13)
  refine opu_varF ty35 hL13 hF13 (o22.ext (Ext.refl w12_)) (by omega) (by omega) fun w13_ hc13_ hv13_ => ?_
  have hv3_s13 := hv13_ (w3_.heap.size) (by omega) (by omega) (w12_.heap.size) (by omega) (by omega)
  clear hv13_ hL13 hO13 hF13
  have hs_hc13_ := hc13_.size
  have hv2_c13 := (hv2_c11.ext hx12_).chg hc13_ (by omega) (by omega)
  have o6_c13 := (o6_c11.ext hx12_).chg hc13_ (by omega)
  have o10_c13 := (o10_c11.ext hx12_).chg hc13_ (by omega)
  have o14_c13 := (o14_c11.ext hx12_).chg hc13_ (by omega)
  have o18_c13 := (o18_c11.ext hx12_).chg hc13_ (by omega)
  have o22_c13 := (o22.ext (Ext.refl w12_)).chg hc13_ (by omega)
  refine rd_varI ty37 hv3_s13 (Ext.refl w13_) fun v24 o24 => ?_
  refine opu_varA ty37 (hv2_c13.ext (Ext.refl w13_)) (o24.ext (Ext.refl w13_)) (by omega) fun w14_ hc14_ hv2_s14 => ?_
  have hs_hc14_ := hc14_.size
  have hv3_s13_c14 := (hv3_s13.ext (Ext.refl w13_)).chg hc14_ (by omega) (by omega)
  have o6_c14 := (o6_c13.ext (Ext.refl w13_)).chg hc14_ (by omega)
  have o10_c14 := (o10_c13.ext (Ext.refl w13_)).chg hc14_ (by omega)
  have o14_c14 := (o14_c13.ext (Ext.refl w13_)).chg hc14_ (by omega)
  have o18_c14 := (o18_c13.ext (Ext.refl w13_)).chg hc14_ (by omega)
  have o22_c14 := (o22_c13.ext (Ext.refl w13_)).chg hc14_ (by omega)
  have o24_c14 := (o24.ext (Ext.refl w13_)).chg hc14_ (by omega)
  refine rd_varRI ty37 hv2_s14 (Ext.refl w14_) fun r2 hr2 => ?_
  replace hr2 := hr2.ext (Ext.refl w14_)
  refine ⟨(Ext.chgI (Ext.chgI ((Ext.chgI ((Ext.chgI ((Ext.chgI ((Ext.chgI (((hx1_.trans hx2_).trans hx3_).trans hx4_) hc5_ (by omega)).trans hx6_) hc7_ (by omega)).trans hx8_) hc9_ (by omega)).trans hx10_) hc11_ (by omega)).trans hx12_) hc13_ (by omega)) hc14_ (by omega)), ?_⟩
  exact (hr2.mono (lo' := w.heap.size) (by omega) (Nat.le_refl _)).own

theorem toCode_ok {w : World} {v : Value} {t : DCode} (h : Is w v t) (hn : wCode t ≤ 1048576) : CALL Tryz.prog 17 [v] w fun r w' => Ext w w' ∧ Own w.heap.size w' r t := toCode_step h (Ext.refl w) hn
end Go.Proofs.YteephmhilnlkpaaGreat
