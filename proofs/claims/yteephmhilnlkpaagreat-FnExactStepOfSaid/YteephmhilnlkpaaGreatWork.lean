/-
  What a term comes to.
-/
import Derived.Test.YteephmhilnlkpaaGreatTerms
import Derived.Test.YteephmhilnlkpaaGreatMk
namespace Go.Proofs.YteephmhilnlkpaaGreat
open Go Go.Sh Go.Proofs
set_option linter.unusedVariables false
set_option linter.unusedSimpArgs false

theorem tmod_pos {n : Int} (h : 0 ≤ n) : n.tmod 1000 = n % 1000 := Int.tmod_eq_emod_of_nonneg h
theorem tmod_neg {n : Int} (h : n < 0) : n.tmod 1000 = -((-n) % 1000) := by
  have h1 : (-n).tmod 1000 = (-n) % 1000 := Int.tmod_eq_emod_of_nonneg (by omega)
  rw [Int.neg_tmod] at h1
  omega
theorem tmod_lt (n : Int) : -1000 < n.tmod 1000 ∧ n.tmod 1000 < 1000 := by
  rcases Int.lt_or_le n 0 with h | h
  · rw [tmod_neg h]; omega
  · rw [tmod_pos h]; omega
/-- impl.rest -/
def F195 (a0 : Value) (w : World) (R : Value → World → Prop) : Prop :=
  RD Tryz.prog (bin .rem 3 (.tmp 0) (.const undef) a0 (Value.int .i64 1000)) w fun x4 =>
  RD Tryz.prog (bin .add 3 (.tmp 0) (.const undef) x4 (Value.int .i64 1000)) w fun x5 =>
  RD Tryz.prog (bin .rem 3 (.tmp 0) (.const undef) x5 (Value.int .i64 1000)) w fun x6 =>
  R x6 w
def cfg195 : Cfg := { ext := extL, joins := [], loops := [], draws := [], pars := [] }
theorem F195_eq (a0 : Value) (w : World) (R : Value → World → Prop) : vcF Tryz.prog cfg195 Tryz.f195 [a0] w R = F195 a0 w R := by kernel_rfl
theorem F195_call {a0 : Value} {w : World} {R : Value → World → Prop} (h : F195 a0 w R) : CALL Tryz.prog 195 [a0] w R :=
  call_of (g := cfg195) ent mixed Tryz.func195 (Nat.le_of_ble_eq_true (by kernel_rfl)) (by kernel_rfl) (F195_eq a0 w R ▸ h)


theorem rest_ok {w : World} {n : Int}   (hn : I64 n) :
    CALL Tryz.prog 195 [.int .i64 n] w fun r w' => Ext w w' ∧ (r = .int .i64 (n % 1000)) := by
  refine F195_call ?_
  unfold F195
  have ht := tmod_lt n
  refine rd_rem (by omega) ?_
  refine rd_add (by unfold I64; omega) ?_
  refine rd_rem (by omega) ?_
  refine ⟨Ext.refl w, ?_⟩
  congr 1
  rw [tmod_pos (n := n.tmod 1000 + 1000) (by omega)]
  rcases Int.lt_or_le n 0 with h | h
  · rw [tmod_neg h]; omega
  · rw [tmod_pos h]; omega

/-- impl.truth -/
def F197 (a0 : Value) (w : World) (R : Value → World → Prop) : Prop :=
  BR a0
   (R (Value.int .i64 1) w)
   (R (Value.int .i64 0) w)
def cfg197 : Cfg := { ext := extL, joins := [], loops := [], draws := [], pars := [] }
theorem F197_eq (a0 : Value) (w : World) (R : Value → World → Prop) : vcF Tryz.prog cfg197 Tryz.f197 [a0] w R = F197 a0 w R := by kernel_rfl
theorem F197_call {a0 : Value} {w : World} {R : Value → World → Prop} (h : F197 a0 w R) : CALL Tryz.prog 197 [a0] w R :=
  call_of (g := cfg197) ent mixed Tryz.func197 (Nat.le_of_ble_eq_true (by kernel_rfl)) (by kernel_rfl) (F197_eq a0 w R ▸ h)


theorem truth_ok {w : World} {b : Bool}    :
    CALL Tryz.prog 197 [.bool b] w fun r w' => Ext w w' ∧ (r = .int .i64 (if b = true then 1 else 0)) := by
  refine F197_call ?_
  unfold F197
  refine br_b (fun c1 => ?_) (fun c1 => ?_)
  · refine ⟨Ext.refl w, ?_⟩
    rw [if_pos c1]
  · refine ⟨Ext.refl w, ?_⟩
    rw [if_neg (by simp [c1])]

/-- spec.l03Yes -/
def F249 (a0 : Value) (w : World) (R : Value → World → Prop) : Prop :=
  BR a0
   (R (Value.int .i64 1) w)
   (R (Value.int .i64 0) w)
def cfg249 : Cfg := { ext := extL, joins := [], loops := [], draws := [], pars := [] }
theorem F249_eq (a0 : Value) (w : World) (R : Value → World → Prop) : vcF Tryz.prog cfg249 Tryz.f249 [a0] w R = F249 a0 w R := by kernel_rfl
theorem F249_call {a0 : Value} {w : World} {R : Value → World → Prop} (h : F249 a0 w R) : CALL Tryz.prog 249 [a0] w R :=
  call_of (g := cfg249) ent mixed Tryz.func249 (Nat.le_of_ble_eq_true (by kernel_rfl)) (by kernel_rfl) (F249_eq a0 w R ▸ h)


theorem l03Yes_ok {w : World} {b : Bool}    :
    CALL Tryz.prog 249 [.bool b] w fun r w' => Ext w w' ∧ (r = .int .i64 (if b = true then 1 else 0)) := by
  refine F249_call ?_
  unfold F249
  refine br_b (fun c1 => ?_) (fun c1 => ?_)
  · refine ⟨Ext.refl w, ?_⟩
    rw [if_pos c1]
  · refine ⟨Ext.refl w, ?_⟩
    rw [if_neg (by simp [c1])]

/-- spec.l03Mod -/
def F248 (a0 : Value) (w : World) (R : Value → World → Prop) : Prop :=
  RD Tryz.prog (bin .rem 3 (.tmp 0) (.const undef) a0 (Value.int .i64 1000)) w fun x4 =>
  RD Tryz.prog (bin .lss 3 (.tmp 0) (.const undef) x4 (Value.int .i64 0)) w fun x6 =>
  BR x6
   (RD Tryz.prog (bin .add 3 (.tmp 0) (.const undef) x4 (Value.int .i64 1000)) w fun x8 =>
   R x8 w)
   (R x4 w)
def cfg248 : Cfg := { ext := extL, joins := [], loops := [], draws := [], pars := [] }
theorem F248_eq (a0 : Value) (w : World) (R : Value → World → Prop) : vcF Tryz.prog cfg248 Tryz.f248 [a0] w R = F248 a0 w R := by kernel_rfl
theorem F248_call {a0 : Value} {w : World} {R : Value → World → Prop} (h : F248 a0 w R) : CALL Tryz.prog 248 [a0] w R :=
  call_of (g := cfg248) ent mixed Tryz.func248 (Nat.le_of_ble_eq_true (by kernel_rfl)) (by kernel_rfl) (F248_eq a0 w R ▸ h)


theorem l03Mod_ok {w : World} {n : Int}   (hn : I64 n) :
    CALL Tryz.prog 248 [.int .i64 n] w fun r w' => Ext w w' ∧ (r = .int .i64 (n % 1000)) := by
  refine F248_call ?_
  unfold F248
  have ht := tmod_lt n
  refine rd_rem (by omega) ?_
  refine rd_lss ?_
  refine br (fun c1 => ?_) (fun c1 => ?_)
  · refine rd_add (by unfold I64; omega) ?_
    refine ⟨Ext.refl w, ?_⟩
    congr 1
    rcases Int.lt_or_le n 0 with h | h
    · rw [tmod_neg h] at c1 ⊢; try omega
    · rw [tmod_pos h] at c1 ⊢; try omega
  · refine ⟨Ext.refl w, ?_⟩
    congr 1
    rcases Int.lt_or_le n 0 with h | h
    · rw [tmod_neg h] at c1 ⊢; try omega
    · rw [tmod_pos h] at c1 ⊢; try omega

def term00 : DTerm := .mk 0 0 (ByteArray.mk #[]) []
/-- what a right term comes to -/
def workT (names : List ByteArray) (vals : List Int) : Nat → DTerm → Int
  | n, t => if t.kind = 1 then t.num % 1000 else if t.kind = 2 then (if 0 ≤ plc t.name names ∧ plc t.name names < vals.length then vals.getD (plc t.name names).toNat 0 % 1000 else 0) else
    match n with
    | 0 => 0
    | m + 1 =>
      if t.kind = 8 then (if workT names vals m (t.kids.getD 0 term00) = 0 then 1 else 0)
      else if t.kind = 3 then (workT names vals m (t.kids.getD 0 term00) + workT names vals m (t.kids.getD 1 term00)) % 1000
      else if t.kind = 4 then (workT names vals m (t.kids.getD 0 term00) - workT names vals m (t.kids.getD 1 term00)) % 1000
      else if t.kind = 5 then (workT names vals m (t.kids.getD 0 term00) * workT names vals m (t.kids.getD 1 term00)) % 1000
      else if t.kind = 6 then (if workT names vals m (t.kids.getD 0 term00) < workT names vals m (t.kids.getD 1 term00) then 1 else 0)
      else if t.kind = 7 then (if workT names vals m (t.kids.getD 0 term00) = workT names vals m (t.kids.getD 1 term00) then 1 else 0)
      else (if workT names vals m (t.kids.getD 0 term00) ≠ 0 ∧ workT names vals m (t.kids.getD 1 term00) ≠ 0 then 1 else 0)
theorem workT_def (names : List ByteArray) (vals : List Int) (n : Nat) (t : DTerm) : workT names vals n t = (if t.kind = 1 then t.num % 1000 else if t.kind = 2 then (if 0 ≤ plc t.name names ∧ plc t.name names < vals.length then vals.getD (plc t.name names).toNat 0 % 1000 else 0) else
    match n with
    | 0 => 0
    | m + 1 =>
      if t.kind = 8 then (if workT names vals m (t.kids.getD 0 term00) = 0 then 1 else 0)
      else if t.kind = 3 then (workT names vals m (t.kids.getD 0 term00) + workT names vals m (t.kids.getD 1 term00)) % 1000
      else if t.kind = 4 then (workT names vals m (t.kids.getD 0 term00) - workT names vals m (t.kids.getD 1 term00)) % 1000
      else if t.kind = 5 then (workT names vals m (t.kids.getD 0 term00) * workT names vals m (t.kids.getD 1 term00)) % 1000
      else if t.kind = 6 then (if workT names vals m (t.kids.getD 0 term00) < workT names vals m (t.kids.getD 1 term00) then 1 else 0)
      else if t.kind = 7 then (if workT names vals m (t.kids.getD 0 term00) = workT names vals m (t.kids.getD 1 term00) then 1 else 0)
      else (if workT names vals m (t.kids.getD 0 term00) ≠ 0 ∧ workT names vals m (t.kids.getD 1 term00) ≠ 0 then 1 else 0)) := workT.eq_def names vals n t
theorem workT_range (names : List ByteArray) (vals : List Int) (n : Nat) (t : DTerm) : 0 ≤ workT names vals n t ∧ workT names vals n t ≤ 999 := by
  rw [workT_def]
  cases n <;> simp only <;> (repeat' split) <;> omega
theorem ok_kids {n : Nat} {t : DTerm} (h : termOk n t = true) (h1 : ¬ t.kind = 1) (h2 : ¬ t.kind = 2) : ∃ m, n = m + 1 ∧ 0 < t.kids.length ∧ termOk m (t.kids.getD 0 term00) = true ∧ (¬ t.kind = 8 → 1 < t.kids.length ∧ termOk m (t.kids.getD 1 term00) = true) := by
  rw [termOk_3 h1 h2] at h
  simp only [Bool.and_eq_true, decide_eq_true_eq] at h
  obtain ⟨⟨_, h3⟩, h4⟩ := h
  cases n with
  | zero => simp at h4
  | succ m =>
    have hall : ∀ k ∈ t.kids, termOk m k = true := fun k hk => List.all_eq_true.1 h4 k hk
    have hg : ∀ i, i < t.kids.length → termOk m (t.kids.getD i term00) = true := fun i hi => by
      rw [List.getD_eq_getElem?_getD, List.getElem?_eq_getElem hi]; exact hall _ (List.getElem_mem hi)
    have hpos : 0 < t.kids.length := by split at h3 <;> omega
    exact ⟨m, rfl, hpos, hg 0 hpos, fun h8 => by rw [if_neg h8] at h3; exact ⟨by omega, hg 1 (by omega)⟩⟩
def WorkP (f : Nat) (n : Nat) : Prop := ∀ {w W W1 W2 : World} {v v1 v2 : Value} {t : DTerm} {names : List ByteArray} {vals : List Int}, Is W v t → Ext W w → Is W1 v1 names → Ext W1 w → Is W2 v2 vals → Ext W2 w → termOk n t = true →
  CALL Tryz.prog f [v, v1, v2] w fun r w' => Ext w w' ∧ r = .int .i64 (workT names vals n t)
/-- impl.workOut -/
def F127 (a0 a1 a2 : Value) (w : World) (R : Value → World → Prop) : Prop :=
  OP Tryz.prog (Instr.box 133 a0) w fun x3 w =>
  RD Tryz.prog (Instr.fieldAt 133 x3 0) w fun x10 =>
  RD Tryz.prog (Instr.loadAt 3 x10) w fun x11 =>
  RD Tryz.prog (bin .eql 3 (.tmp 0) (.const undef) x11 (Value.int .i64 1)) w fun x13 =>
  BR x13
   (RD Tryz.prog (Instr.fieldAt 133 x3 1) w fun x14 =>
   RD Tryz.prog (Instr.loadAt 3 x14) w fun x15 =>
   CALL Tryz.prog 195 [x15] w fun x16 w =>
   R x16 w)
   (RD Tryz.prog (bin .eql 3 (.tmp 0) (.const undef) x11 (Value.int .i64 2)) w fun x18 =>
   BR x18
    (RD Tryz.prog (Instr.fieldAt 133 x3 2) w fun x20 =>
    RD Tryz.prog (Instr.loadAt 9 x20) w fun x21 =>
    CALL Tryz.prog 196 [a1, x21] w fun x22 w =>
    RD Tryz.prog (bin .lss 3 (.tmp 0) (.const undef) x22 (Value.int .i64 0)) w fun x24 =>
    BR x24
    (R (Value.int .i64 0) w)
    (RD Tryz.prog (Builtin.len_ #[23] 3 [a2].toArray) w fun x28 =>
    RD Tryz.prog (bin .geq 3 (.tmp 0) (.tmp 0) x22 x28) w fun x29 =>
    BR x29
     (R (Value.int .i64 0) w)
     (RD Tryz.prog (Instr.indexAt 23 a2 x22) w fun x33 =>
     RD Tryz.prog (Instr.loadAt 3 x33) w fun x34 =>
     CALL Tryz.prog 195 [x34] w fun x35 w =>
     R x35 w)))
    (RD Tryz.prog (Instr.fieldAt 133 x3 3) w fun x36 =>
    RD Tryz.prog (Instr.loadAt 131 x36) w fun x37 =>
    RD Tryz.prog (Instr.indexAt 131 x37 (Value.int .i64 0)) w fun x38 =>
    RD Tryz.prog (Instr.loadAt 133 x38) w fun x39 =>
    CALL Tryz.prog 127 [x39, a1, a2] w fun x42 w =>
    RD Tryz.prog (Instr.fieldAt 133 x3 0) w fun x43 =>
    RD Tryz.prog (Instr.loadAt 3 x43) w fun x44 =>
    RD Tryz.prog (bin .eql 3 (.tmp 0) (.const undef) x44 (Value.int .i64 8)) w fun x45 =>
    BR x45
     (RD Tryz.prog (bin .eql 3 (.tmp 0) (.const undef) x42 (Value.int .i64 0)) w fun x47 =>
     CALL Tryz.prog 197 [x47] w fun x48 w =>
     R x48 w)
     (RD Tryz.prog (Instr.fieldAt 133 x3 3) w fun x49 =>
     RD Tryz.prog (Instr.loadAt 131 x49) w fun x50 =>
     RD Tryz.prog (Instr.indexAt 131 x50 (Value.int .i64 1)) w fun x51 =>
     RD Tryz.prog (Instr.loadAt 133 x51) w fun x52 =>
     CALL Tryz.prog 127 [x52, a1, a2] w fun x55 w =>
     RD Tryz.prog (Instr.fieldAt 133 x3 0) w fun x56 =>
     RD Tryz.prog (Instr.loadAt 3 x56) w fun x57 =>
     RD Tryz.prog (bin .eql 3 (.tmp 0) (.const undef) x57 (Value.int .i64 3)) w fun x59 =>
     BR x59
      (RD Tryz.prog (bin .add 3 (.tmp 0) (.tmp 0) x42 x55) w fun x62 =>
      CALL Tryz.prog 195 [x62] w fun x63 w =>
      R x63 w)
      (RD Tryz.prog (bin .eql 3 (.tmp 0) (.const undef) x57 (Value.int .i64 4)) w fun x65 =>
      BR x65
       (RD Tryz.prog (bin .sub 3 (.tmp 0) (.tmp 0) x42 x55) w fun x68 =>
       CALL Tryz.prog 195 [x68] w fun x69 w =>
       R x69 w)
       (RD Tryz.prog (bin .eql 3 (.tmp 0) (.const undef) x57 (Value.int .i64 5)) w fun x71 =>
       BR x71
        (RD Tryz.prog (bin .mul 3 (.tmp 0) (.tmp 0) x42 x55) w fun x74 =>
        CALL Tryz.prog 195 [x74] w fun x75 w =>
        R x75 w)
        (RD Tryz.prog (bin .eql 3 (.tmp 0) (.const undef) x57 (Value.int .i64 6)) w fun x77 =>
        BR x77
         (RD Tryz.prog (bin .lss 3 (.tmp 0) (.tmp 0) x42 x55) w fun x80 =>
         CALL Tryz.prog 197 [x80] w fun x81 w =>
         R x81 w)
         (RD Tryz.prog (bin .eql 3 (.tmp 0) (.const undef) x57 (Value.int .i64 7)) w fun x83 =>
         BR x83
          (RD Tryz.prog (bin .eql 3 (.tmp 0) (.tmp 0) x42 x55) w fun x86 =>
          CALL Tryz.prog 197 [x86] w fun x87 w =>
          R x87 w)
          (RD Tryz.prog (bin .neq 3 (.tmp 0) (.const undef) x42 (Value.int .i64 0)) w fun x89 =>
          BR x89
          (RD Tryz.prog (bin .neq 3 (.tmp 0) (.const undef) x55 (Value.int .i64 0)) w fun x92 =>
          CALL Tryz.prog 197 [x92] w fun x94 w =>
          R x94 w)
          (CALL Tryz.prog 197 [(Value.bool false)] w fun x94 w =>
          R x94 w)))))))))
def cfg127 : Cfg := { ext := extL, joins := [], loops := [], draws := [], pars := [] }
theorem F127_eq (a0 a1 a2 : Value) (w : World) (R : Value → World → Prop) : vcF Tryz.prog cfg127 Tryz.f127 [a0, a1, a2] w R = F127 a0 a1 a2 w R := by kernel_rfl
theorem F127_call {a0 a1 a2 : Value} {w : World} {R : Value → World → Prop} (h : F127 a0 a1 a2 w R) : CALL Tryz.prog 127 [a0, a1, a2] w R :=
  call_of (g := cfg127) ent mixed Tryz.func127 (Nat.le_of_ble_eq_true (by kernel_rfl)) (by kernel_rfl) (F127_eq a0 a1 a2 w R ▸ h)


theorem workOut_step {w : World} {v0 : Value} {W0 : World} {t : DTerm} {v1 : Value} {W1 : World} {names : (List ByteArray)} {v2 : Value} {W2 : World} {vals : (List Int)} {n : Nat} (h0 : Is W0 v0 t) (e0 : Ext W0 w) (h1 : Is W1 v1 names) (e1 : Ext W1 w) (h2 : Is W2 v2 vals) (e2 : Ext W2 w) (ih : ∀ m, n = m + 1 → WorkP 127 m) (hok : termOk n t = true) :
    CALL Tryz.prog 127 [v0, v1, v2] w fun r w' => Ext w w' ∧ (r = .int .i64 (workT names vals n t)) := by
  refine F127_call ?_
  unfold F127
  refine op_boxS ty133 rfl h0 e0 fun w1_ hx1_ hA3 hV3 => ?_
  refine rd_fld fd133_0 ?_
  refine rd_loadI ty3 (at_DTerm_0 hA3) (Ext.refl w1_) fun hI11 => ?_
  refine rd_eql ?_
  refine br (fun c1 => ?_) (fun c1 => ?_)
  · refine rd_fld fd133_1 ?_
    refine rd_loadI ty3 (at_DTerm_1 hA3) (Ext.refl w1_) fun hI15 => ?_
    refine (rest_ok (by first | assumption | (unfold I64 at *; omega))).mono ?_
    rintro _ w2_ ⟨hx2_, rfl⟩
    refine ⟨(hx1_.trans hx2_), ?_⟩
    rw [workT_def names vals n t, if_pos c1]
  · refine rd_eql ?_
    refine br (fun c2 => ?_) (fun c2 => ?_)
    · refine rd_fld fd133_2 ?_
      refine rd_loadS ty9 (at_DTerm_2 hA3) (Ext.refl w1_) fun hS21 => ?_
      refine (indexStr_ok h1 (e1.trans hx1_)).mono ?_
      rintro _ w3_ ⟨hx3_, rfl⟩
      refine rd_lss ?_
      refine br (fun c3 => ?_) (fun c3 => ?_)
      · refine ⟨(hx1_.trans hx3_), ?_⟩
        rw [workT_def, if_neg c1, if_pos c2, if_neg (by omega)]
      · have hln28 := is_len h2
        refine rd_len u23 h2 ?_
        refine rd_geq ?_
        refine br (fun c4 => ?_) (fun c4 => ?_)
        · refine ⟨(hx1_.trans hx3_), ?_⟩
          rw [workT_def, if_neg c1, if_pos c2, if_neg (by omega)]
        · refine rd_index u23 ty3 h2 (by omega) (by omega) fun b33 o33 h33 => ?_
          refine rd_loadI ty3 h33 (e2.trans (hx1_.trans hx3_)) fun hI34 => ?_
          refine (rest_ok (by first | assumption | (unfold I64 at *; omega))).mono ?_
          rintro _ w4_ ⟨hx4_, rfl⟩
          refine ⟨(hx1_.trans (hx3_.trans hx4_)), ?_⟩
          rw [workT_def, if_neg c1, if_pos c2, if_pos (by omega)]
          congr 1
          rw [List.getD_eq_getElem?_getD, List.getElem?_eq_getElem (by omega)]; rfl
    · refine rd_fld fd133_3 ?_
      refine rd_load ty131 (at_DTerm_3 hA3) (Ext.refl w1_) fun v37 h37 => ?_
      obtain ⟨m, hn1, hk0, hok0, hk1⟩ := ok_kids hok c1 c2
      have hw0 := workT_range names vals m (t.kids.getD 0 term00)
      have hw1 := workT_range names vals m (t.kids.getD 1 term00)
      refine rd_index u131 ty133 h37 (by omega) (by omega) fun b38 o38 h38 => ?_
      have hgd : t.kids[(0 : Int).toNat]'(by simpa using hk0) = t.kids.getD 0 term00 := by rw [List.getD_eq_getElem?_getD, List.getElem?_eq_getElem hk0]; rfl
      rw [hgd] at h38
      refine rd_load ty133 h38 (Ext.refl w1_) fun v39 h39 => ?_
      refine (ih m hn1 h39 (Ext.refl w1_) h1 (e1.trans hx1_) h2 (e2.trans hx1_) (by assumption)).mono ?_
      rintro _ w5_ ⟨hx5_, rfl⟩
      refine rd_fld fd133_0 ?_
      refine rd_loadI ty3 (at_DTerm_0 hA3) hx5_ fun hI44 => ?_
      refine rd_eql ?_
      refine br (fun c5 => ?_) (fun c5 => ?_)
      · refine rd_eql ?_
        refine (truth_ok ).mono ?_
        rintro _ w6_ ⟨hx6_, rfl⟩
        refine ⟨(hx1_.trans (hx5_.trans hx6_)), ?_⟩
        rw [workT_def names vals n t, if_neg c1, if_neg c2, hn1]
        simp only [c5, if_true, decide_eq_true_eq]
      · refine rd_fld fd133_3 ?_
        refine rd_load ty131 (at_DTerm_3 hA3) hx5_ fun v50 h50 => ?_
        obtain ⟨hk2, hok1⟩ := hk1 c5
        refine rd_index u131 ty133 h50 (by omega) (by omega) fun b51 o51 h51 => ?_
        have hgd1 : t.kids[(1 : Int).toNat]'(by simpa using hk2) = t.kids.getD 1 term00 := by rw [List.getD_eq_getElem?_getD, List.getElem?_eq_getElem hk2]; rfl
        rw [hgd1] at h51
        refine rd_load ty133 h51 hx5_ fun v52 h52 => ?_
        refine (ih m hn1 h52 hx5_ h1 (e1.trans (hx1_.trans hx5_)) h2 (e2.trans (hx1_.trans hx5_)) (by assumption)).mono ?_
        rintro _ w7_ ⟨hx7_, rfl⟩
        refine rd_fld fd133_0 ?_
        refine rd_loadI ty3 (at_DTerm_0 hA3) (hx5_.trans hx7_) fun hI57 => ?_
        refine rd_eql ?_
        refine br (fun c6 => ?_) (fun c6 => ?_)
        · refine rd_add (by unfold I64; omega) ?_
          refine (rest_ok (by first | assumption | (unfold I64 at *; omega))).mono ?_
          rintro _ w8_ ⟨hx8_, rfl⟩
          refine ⟨(hx1_.trans (hx5_.trans (hx7_.trans hx8_))), ?_⟩
          rw [workT_def names vals n t, if_neg c1, if_neg c2, hn1]
          dsimp only
          generalize workT names vals m (t.kids.getD 0 term00) = a at *
          generalize workT names vals m (t.kids.getD 1 term00) = b at *
          simp_all
        · refine rd_eql ?_
          refine br (fun c7 => ?_) (fun c7 => ?_)
          · refine rd_sub (by unfold I64; omega) ?_
            refine (rest_ok (by first | assumption | (unfold I64 at *; omega))).mono ?_
            rintro _ w9_ ⟨hx9_, rfl⟩
            refine ⟨(hx1_.trans (hx5_.trans (hx7_.trans hx9_))), ?_⟩
            rw [workT_def names vals n t, if_neg c1, if_neg c2, hn1]
            dsimp only
            generalize workT names vals m (t.kids.getD 0 term00) = a at *
            generalize workT names vals m (t.kids.getD 1 term00) = b at *
            simp_all
          · refine rd_eql ?_
            refine br (fun c8 => ?_) (fun c8 => ?_)
            · refine rd_mul (by unfold I64; have h1 := Int.mul_nonneg hw0.1 hw1.1; have h2 := Int.mul_le_mul hw0.2 hw1.2 hw1.1 (by omega : (0 : Int) ≤ 999); omega) ?_
              have hmul := Int.mul_nonneg hw0.1 hw1.1; have hmul2 := Int.mul_le_mul hw0.2 hw1.2 hw1.1 (by omega : (0 : Int) ≤ 999)
              refine (rest_ok (by first | assumption | (unfold I64 at *; omega))).mono ?_
              rintro _ w10_ ⟨hx10_, rfl⟩
              refine ⟨(hx1_.trans (hx5_.trans (hx7_.trans hx10_))), ?_⟩
              rw [workT_def names vals n t, if_neg c1, if_neg c2, hn1]
              dsimp only
              generalize workT names vals m (t.kids.getD 0 term00) = a at *
              generalize workT names vals m (t.kids.getD 1 term00) = b at *
              simp_all
            · refine rd_eql ?_
              refine br (fun c9 => ?_) (fun c9 => ?_)
              · refine rd_lss ?_
                refine (truth_ok ).mono ?_
                rintro _ w11_ ⟨hx11_, rfl⟩
                refine ⟨(hx1_.trans (hx5_.trans (hx7_.trans hx11_))), ?_⟩
                rw [workT_def names vals n t, if_neg c1, if_neg c2, hn1]
                dsimp only
                generalize workT names vals m (t.kids.getD 0 term00) = a at *
                generalize workT names vals m (t.kids.getD 1 term00) = b at *
                simp_all
              · refine rd_eql ?_
                refine br (fun c10 => ?_) (fun c10 => ?_)
                · refine rd_eql ?_
                  refine (truth_ok ).mono ?_
                  rintro _ w12_ ⟨hx12_, rfl⟩
                  refine ⟨(hx1_.trans (hx5_.trans (hx7_.trans hx12_))), ?_⟩
                  rw [workT_def names vals n t, if_neg c1, if_neg c2, hn1]
                  dsimp only
                  generalize workT names vals m (t.kids.getD 0 term00) = a at *
                  generalize workT names vals m (t.kids.getD 1 term00) = b at *
                  simp_all
                · refine rd_neq ?_
                  refine br (fun c11 => ?_) (fun c11 => ?_)
                  · refine rd_neq ?_
                    refine (truth_ok ).mono ?_
                    rintro _ w13_ ⟨hx13_, rfl⟩
                    refine ⟨(hx1_.trans (hx5_.trans (hx7_.trans hx13_))), ?_⟩
                    rw [workT_def names vals n t, if_neg c1, if_neg c2, hn1]
                    dsimp only
                    generalize workT names vals m (t.kids.getD 0 term00) = a at *
                    generalize workT names vals m (t.kids.getD 1 term00) = b at *
                    simp_all
                  · refine (truth_ok ).mono ?_
                    rintro _ w14_ ⟨hx14_, rfl⟩
                    refine ⟨(hx1_.trans (hx5_.trans (hx7_.trans hx14_))), ?_⟩
                    rw [workT_def names vals n t, if_neg c1, if_neg c2, hn1]
                    dsimp only
                    generalize workT names vals m (t.kids.getD 0 term00) = a at *
                    generalize workT names vals m (t.kids.getD 1 term00) = b at *
                    simp_all

theorem workOut_ok (n : Nat) : WorkP 127 n := by
  induction n with
  | zero => intro w W W1 W2 v v1 v2 t names vals h e h1 e1 h2 e2 hok; exact workOut_step h e h1 e1 h2 e2 (fun m hm => by omega) hok
  | succ n ih => intro w W W1 W2 v v1 v2 t names vals h e h1 e1 h2 e2 hok; exact workOut_step h e h1 e1 h2 e2 (fun m hm => Nat.succ.inj hm ▸ ih) hok
/-- spec.l03Work -/
def F193 (a0 a1 a2 : Value) (w : World) (R : Value → World → Prop) : Prop :=
  OP Tryz.prog (Instr.box 133 a0) w fun x3 w =>
  RD Tryz.prog (Instr.fieldAt 133 x3 0) w fun x10 =>
  RD Tryz.prog (Instr.loadAt 3 x10) w fun x11 =>
  RD Tryz.prog (bin .eql 3 (.tmp 0) (.const undef) x11 (Value.int .i64 1)) w fun x13 =>
  BR x13
   (RD Tryz.prog (Instr.fieldAt 133 x3 1) w fun x14 =>
   RD Tryz.prog (Instr.loadAt 3 x14) w fun x15 =>
   CALL Tryz.prog 248 [x15] w fun x16 w =>
   R x16 w)
   (RD Tryz.prog (bin .eql 3 (.tmp 0) (.const undef) x11 (Value.int .i64 2)) w fun x18 =>
   BR x18
    (LOOPI [7] [(Value.int .i64 0)] w fun u6 w next6 =>
     RD Tryz.prog (Builtin.len_ #[22] 3 [a1].toArray) w fun x21 =>
     RD Tryz.prog (bin .lss 3 (.tmp 0) (.tmp 0) (u6 7) x21) w fun x22 =>
     BR x22
      ((fun w => RD Tryz.prog (Instr.indexAt 22 a1 (u6 7)) w fun x27 =>
      RD Tryz.prog (Instr.loadAt 9 x27) w fun x28 =>
      RD Tryz.prog (Instr.fieldAt 133 x3 2) w fun x29 =>
      RD Tryz.prog (Instr.loadAt 9 x29) w fun x30 =>
      RD Tryz.prog (bin .eql 9 (.tmp 0) (.tmp 0) x28 x30) w fun x31 =>
      BR x31
       (RD Tryz.prog (Builtin.len_ #[23] 3 [a2].toArray) w fun x34 =>
       RD Tryz.prog (bin .lss 3 (.tmp 0) (.tmp 0) (u6 7) x34) w fun x35 =>
       BR x35
        (RD Tryz.prog (Instr.indexAt 23 a2 (u6 7)) w fun x38 =>
        RD Tryz.prog (Instr.loadAt 3 x38) w fun x39 =>
        CALL Tryz.prog 248 [x39] w fun x40 w =>
        R x40 w)
        (R (Value.int .i64 0) w))
       (RD Tryz.prog (bin .add 3 (.tmp 0) (.const undef) (u6 7) (Value.int .i64 1)) w fun x24 =>
       next6 [x24] w)) (World.drew1 w))
      (R (Value.int .i64 0) w))
    (RD Tryz.prog (Instr.fieldAt 133 x3 3) w fun x41 =>
    RD Tryz.prog (Instr.loadAt 131 x41) w fun x42 =>
    RD Tryz.prog (Instr.indexAt 131 x42 (Value.int .i64 0)) w fun x43 =>
    RD Tryz.prog (Instr.loadAt 133 x43) w fun x44 =>
    CALL Tryz.prog 193 [x44, a1, a2] w fun x47 w =>
    RD Tryz.prog (Instr.fieldAt 133 x3 0) w fun x48 =>
    RD Tryz.prog (Instr.loadAt 3 x48) w fun x49 =>
    RD Tryz.prog (bin .eql 3 (.tmp 0) (.const undef) x49 (Value.int .i64 8)) w fun x50 =>
    BR x50
     (RD Tryz.prog (bin .eql 3 (.tmp 0) (.const undef) x47 (Value.int .i64 0)) w fun x52 =>
     CALL Tryz.prog 249 [x52] w fun x53 w =>
     R x53 w)
     (RD Tryz.prog (Instr.fieldAt 133 x3 3) w fun x54 =>
     RD Tryz.prog (Instr.loadAt 131 x54) w fun x55 =>
     RD Tryz.prog (Instr.indexAt 131 x55 (Value.int .i64 1)) w fun x56 =>
     RD Tryz.prog (Instr.loadAt 133 x56) w fun x57 =>
     CALL Tryz.prog 193 [x57, a1, a2] w fun x60 w =>
     RD Tryz.prog (Instr.fieldAt 133 x3 0) w fun x61 =>
     RD Tryz.prog (Instr.loadAt 3 x61) w fun x62 =>
     RD Tryz.prog (bin .eql 3 (.tmp 0) (.const undef) x62 (Value.int .i64 3)) w fun x64 =>
     BR x64
      (RD Tryz.prog (bin .add 3 (.tmp 0) (.tmp 0) x47 x60) w fun x67 =>
      CALL Tryz.prog 248 [x67] w fun x68 w =>
      R x68 w)
      (RD Tryz.prog (bin .eql 3 (.tmp 0) (.const undef) x62 (Value.int .i64 4)) w fun x70 =>
      BR x70
       (RD Tryz.prog (bin .sub 3 (.tmp 0) (.tmp 0) x47 x60) w fun x73 =>
       CALL Tryz.prog 248 [x73] w fun x74 w =>
       R x74 w)
       (RD Tryz.prog (bin .eql 3 (.tmp 0) (.const undef) x62 (Value.int .i64 5)) w fun x76 =>
       BR x76
        (RD Tryz.prog (bin .mul 3 (.tmp 0) (.tmp 0) x47 x60) w fun x79 =>
        CALL Tryz.prog 248 [x79] w fun x80 w =>
        R x80 w)
        (RD Tryz.prog (bin .eql 3 (.tmp 0) (.const undef) x62 (Value.int .i64 6)) w fun x82 =>
        BR x82
         (RD Tryz.prog (bin .lss 3 (.tmp 0) (.tmp 0) x47 x60) w fun x85 =>
         CALL Tryz.prog 249 [x85] w fun x86 w =>
         R x86 w)
         (RD Tryz.prog (bin .eql 3 (.tmp 0) (.const undef) x62 (Value.int .i64 7)) w fun x88 =>
         BR x88
          (RD Tryz.prog (bin .eql 3 (.tmp 0) (.tmp 0) x47 x60) w fun x91 =>
          CALL Tryz.prog 249 [x91] w fun x92 w =>
          R x92 w)
          (RD Tryz.prog (bin .neq 3 (.tmp 0) (.const undef) x47 (Value.int .i64 0)) w fun x94 =>
          BR x94
          (RD Tryz.prog (bin .neq 3 (.tmp 0) (.const undef) x60 (Value.int .i64 0)) w fun x97 =>
          CALL Tryz.prog 249 [x97] w fun x99 w =>
          R x99 w)
          (CALL Tryz.prog 249 [(Value.bool false)] w fun x99 w =>
          R x99 w)))))))))
def cfg193 : Cfg := { ext := extL, joins := [], loops := [(6, 2199022731456, [7])], draws := [(8, [0, 1, 2, 3, 4, 5, 6], 0)], pars := [] }
theorem F193_eq (a0 a1 a2 : Value) (w : World) (R : Value → World → Prop) : vcF Tryz.prog cfg193 Tryz.f193 [a0, a1, a2] w R = F193 a0 a1 a2 w R := by kernel_rfl
theorem F193_call {a0 a1 a2 : Value} {w : World} {R : Value → World → Prop} (h : F193 a0 a1 a2 w R) : CALL Tryz.prog 193 [a0, a1, a2] w R :=
  call_of (g := cfg193) ent mixed Tryz.func193 (Nat.le_of_ble_eq_true (by kernel_rfl)) (by kernel_rfl) (F193_eq a0 a1 a2 w R ▸ h)


theorem l03Work_step {w : World} {v0 : Value} {W0 : World} {t : DTerm} {v1 : Value} {W1 : World} {names : (List ByteArray)} {v2 : Value} {W2 : World} {vals : (List Int)} {n : Nat} (h0 : Is W0 v0 t) (e0 : Ext W0 w) (h1 : Is W1 v1 names) (e1 : Ext W1 w) (h2 : Is W2 v2 vals) (e2 : Ext W2 w) (ih : ∀ m, n = m + 1 → WorkP 193 m) (hok : termOk n t = true) :
    CALL Tryz.prog 193 [v0, v1, v2] w fun r w' => Ext w w' ∧ (r = .int .i64 (workT names vals n t)) := by
  refine F193_call ?_
  unfold F193
  refine op_boxS ty133 rfl h0 e0 fun w1_ hx1_ hA3 hV3 => ?_
  refine rd_fld fd133_0 ?_
  refine rd_loadI ty3 (at_DTerm_0 hA3) (Ext.refl w1_) fun hI11 => ?_
  refine rd_eql ?_
  refine br (fun c1 => ?_) (fun c1 => ?_)
  · refine rd_fld fd133_1 ?_
    refine rd_loadI ty3 (at_DTerm_1 hA3) (Ext.refl w1_) fun hI15 => ?_
    refine (l03Mod_ok (by first | assumption | (unfold I64 at *; omega))).mono ?_
    rintro _ w2_ ⟨hx2_, rfl⟩
    refine ⟨(hx1_.trans hx2_), ?_⟩
    rw [workT_def names vals n t, if_pos c1]
  · refine rd_eql ?_
    refine br (fun c2 => ?_) (fun c2 => ?_)
    · refine loopC (names.length) (fun k us w' => us = [.int .i64 (k : Int)] ∧ Ext w1_ w' ∧ (t.name ∉ names.take k)) (0) (by omega) ⟨by simp, Ext.refl w1_, by simp⟩ ?_
      rintro k m6 uu6 w3_ hk6 ⟨hu, hx3_, hinv⟩
      simp only [List.map_cons, List.map_nil, List.cons.injEq, and_true] at hu
      try rw [hu]
      try clear hu
      have hnl := is_len h1
      have hln21 := is_len h1
      refine rd_len u22 h1 ?_
      refine rd_lss ?_
      refine br (fun c3 => ?_) (fun c3 => ?_)
      · have hx4_ := ext_drew w3_
        refine rd_indexN u22 ty9 h1 (by omega) fun b27 o27 h27 => ?_
        refine rd_loadS ty9 h27 (e1.trans (hx1_.trans (hx3_.trans hx4_))) fun hS28 => ?_
        refine rd_fld fd133_2 ?_
        refine rd_loadS ty9 (at_DTerm_2 hA3) (hx3_.trans hx4_) fun hS30 => ?_
        refine rd_eqlS ?_
        refine br (fun c4 => ?_) (fun c4 => ?_)
        · have hln34 := is_len h2
          refine rd_len u23 h2 ?_
          refine rd_lss ?_
          refine br (fun c5 => ?_) (fun c5 => ?_)
          · refine rd_indexN u23 ty3 h2 (by omega) fun b38 o38 h38 => ?_
            refine rd_loadI ty3 h38 (e2.trans (hx1_.trans (hx3_.trans hx4_))) fun hI39 => ?_
            refine (l03Mod_ok (by first | assumption | (unfold I64 at *; omega))).mono ?_
            rintro _ w5_ ⟨hx5_, rfl⟩
            refine ⟨(hx1_.trans (hx3_.trans (hx4_.trans hx5_))), ?_⟩
            have hp := plc_at (s := t.name) (l := names) (k := k) (by omega) hinv c4
            rw [workT_def names vals n t, if_neg c1, if_pos c2, hp, if_pos (by omega)]
            congr 1
            rw [Int.toNat_natCast, List.getD_eq_getElem?_getD, List.getElem?_eq_getElem (by omega)]; rfl
          · refine ⟨(hx1_.trans (hx3_.trans hx4_)), ?_⟩
            have hp := plc_at (s := t.name) (l := names) (k := k) (by omega) hinv c4
            rw [workT_def names vals n t, if_neg c1, if_pos c2, hp, if_neg (by omega)]
        · refine rd_inc (by omega) ?_
          refine ⟨m6 - 1, by omega, k + 1, by omega, by simp, (hx3_.trans hx4_), ?_⟩
          exact mem_take_succS (by omega) hinv c4
      · refine ⟨(hx1_.trans hx3_), ?_⟩
        rw [List.take_of_length_le (by omega)] at hinv
        rw [workT_def names vals n t, if_neg c1, if_pos c2, plc_none hinv, if_neg (by omega)]
    · refine rd_fld fd133_3 ?_
      refine rd_load ty131 (at_DTerm_3 hA3) (Ext.refl w1_) fun v42 h42 => ?_
      obtain ⟨m, hn1, hk0, hok0, hk1⟩ := ok_kids hok c1 c2
      have hw0 := workT_range names vals m (t.kids.getD 0 term00)
      have hw1 := workT_range names vals m (t.kids.getD 1 term00)
      refine rd_index u131 ty133 h42 (by omega) (by omega) fun b43 o43 h43 => ?_
      have hgd : t.kids[(0 : Int).toNat]'(by simpa using hk0) = t.kids.getD 0 term00 := by rw [List.getD_eq_getElem?_getD, List.getElem?_eq_getElem hk0]; rfl
      rw [hgd] at h43
      refine rd_load ty133 h43 (Ext.refl w1_) fun v44 h44 => ?_
      refine (ih m hn1 h44 (Ext.refl w1_) h1 (e1.trans hx1_) h2 (e2.trans hx1_) (by assumption)).mono ?_
      rintro _ w6_ ⟨hx6_, rfl⟩
      refine rd_fld fd133_0 ?_
      refine rd_loadI ty3 (at_DTerm_0 hA3) hx6_ fun hI49 => ?_
      refine rd_eql ?_
      refine br (fun c6 => ?_) (fun c6 => ?_)
      · refine rd_eql ?_
        refine (l03Yes_ok ).mono ?_
        rintro _ w7_ ⟨hx7_, rfl⟩
        refine ⟨(hx1_.trans (hx6_.trans hx7_)), ?_⟩
        rw [workT_def names vals n t, if_neg c1, if_neg c2, hn1]
        simp only [c6, if_true, decide_eq_true_eq]
      · refine rd_fld fd133_3 ?_
        refine rd_load ty131 (at_DTerm_3 hA3) hx6_ fun v55 h55 => ?_
        obtain ⟨hk2, hok1⟩ := hk1 c6
        refine rd_index u131 ty133 h55 (by omega) (by omega) fun b56 o56 h56 => ?_
        have hgd1 : t.kids[(1 : Int).toNat]'(by simpa using hk2) = t.kids.getD 1 term00 := by rw [List.getD_eq_getElem?_getD, List.getElem?_eq_getElem hk2]; rfl
        rw [hgd1] at h56
        refine rd_load ty133 h56 hx6_ fun v57 h57 => ?_
        refine (ih m hn1 h57 hx6_ h1 (e1.trans (hx1_.trans hx6_)) h2 (e2.trans (hx1_.trans hx6_)) (by assumption)).mono ?_
        rintro _ w8_ ⟨hx8_, rfl⟩
        refine rd_fld fd133_0 ?_
        refine rd_loadI ty3 (at_DTerm_0 hA3) (hx6_.trans hx8_) fun hI62 => ?_
        refine rd_eql ?_
        refine br (fun c7 => ?_) (fun c7 => ?_)
        · refine rd_add (by unfold I64; omega) ?_
          refine (l03Mod_ok (by first | assumption | (unfold I64 at *; omega))).mono ?_
          rintro _ w9_ ⟨hx9_, rfl⟩
          refine ⟨(hx1_.trans (hx6_.trans (hx8_.trans hx9_))), ?_⟩
          rw [workT_def names vals n t, if_neg c1, if_neg c2, hn1]
          dsimp only
          generalize workT names vals m (t.kids.getD 0 term00) = a at *
          generalize workT names vals m (t.kids.getD 1 term00) = b at *
          simp_all
        · refine rd_eql ?_
          refine br (fun c8 => ?_) (fun c8 => ?_)
          · refine rd_sub (by unfold I64; omega) ?_
            refine (l03Mod_ok (by first | assumption | (unfold I64 at *; omega))).mono ?_
            rintro _ w10_ ⟨hx10_, rfl⟩
            refine ⟨(hx1_.trans (hx6_.trans (hx8_.trans hx10_))), ?_⟩
            rw [workT_def names vals n t, if_neg c1, if_neg c2, hn1]
            dsimp only
            generalize workT names vals m (t.kids.getD 0 term00) = a at *
            generalize workT names vals m (t.kids.getD 1 term00) = b at *
            simp_all
          · refine rd_eql ?_
            refine br (fun c9 => ?_) (fun c9 => ?_)
            · refine rd_mul (by unfold I64; have h1 := Int.mul_nonneg hw0.1 hw1.1; have h2 := Int.mul_le_mul hw0.2 hw1.2 hw1.1 (by omega : (0 : Int) ≤ 999); omega) ?_
              have hmul := Int.mul_nonneg hw0.1 hw1.1; have hmul2 := Int.mul_le_mul hw0.2 hw1.2 hw1.1 (by omega : (0 : Int) ≤ 999)
              refine (l03Mod_ok (by first | assumption | (unfold I64 at *; omega))).mono ?_
              rintro _ w11_ ⟨hx11_, rfl⟩
              refine ⟨(hx1_.trans (hx6_.trans (hx8_.trans hx11_))), ?_⟩
              rw [workT_def names vals n t, if_neg c1, if_neg c2, hn1]
              dsimp only
              generalize workT names vals m (t.kids.getD 0 term00) = a at *
              generalize workT names vals m (t.kids.getD 1 term00) = b at *
              simp_all
            · refine rd_eql ?_
              refine br (fun c10 => ?_) (fun c10 => ?_)
              · refine rd_lss ?_
                refine (l03Yes_ok ).mono ?_
                rintro _ w12_ ⟨hx12_, rfl⟩
                refine ⟨(hx1_.trans (hx6_.trans (hx8_.trans hx12_))), ?_⟩
                rw [workT_def names vals n t, if_neg c1, if_neg c2, hn1]
                dsimp only
                generalize workT names vals m (t.kids.getD 0 term00) = a at *
                generalize workT names vals m (t.kids.getD 1 term00) = b at *
                simp_all
              · refine rd_eql ?_
                refine br (fun c11 => ?_) (fun c11 => ?_)
                · refine rd_eql ?_
                  refine (l03Yes_ok ).mono ?_
                  rintro _ w13_ ⟨hx13_, rfl⟩
                  refine ⟨(hx1_.trans (hx6_.trans (hx8_.trans hx13_))), ?_⟩
                  rw [workT_def names vals n t, if_neg c1, if_neg c2, hn1]
                  dsimp only
                  generalize workT names vals m (t.kids.getD 0 term00) = a at *
                  generalize workT names vals m (t.kids.getD 1 term00) = b at *
                  simp_all
                · refine rd_neq ?_
                  refine br (fun c12 => ?_) (fun c12 => ?_)
                  · refine rd_neq ?_
                    refine (l03Yes_ok ).mono ?_
                    rintro _ w14_ ⟨hx14_, rfl⟩
                    refine ⟨(hx1_.trans (hx6_.trans (hx8_.trans hx14_))), ?_⟩
                    rw [workT_def names vals n t, if_neg c1, if_neg c2, hn1]
                    dsimp only
                    generalize workT names vals m (t.kids.getD 0 term00) = a at *
                    generalize workT names vals m (t.kids.getD 1 term00) = b at *
                    simp_all
                  · refine (l03Yes_ok ).mono ?_
                    rintro _ w15_ ⟨hx15_, rfl⟩
                    refine ⟨(hx1_.trans (hx6_.trans (hx8_.trans hx15_))), ?_⟩
                    rw [workT_def names vals n t, if_neg c1, if_neg c2, hn1]
                    dsimp only
                    generalize workT names vals m (t.kids.getD 0 term00) = a at *
                    generalize workT names vals m (t.kids.getD 1 term00) = b at *
                    simp_all

theorem l03Work_ok (n : Nat) : WorkP 193 n := by
  induction n with
  | zero => intro w W W1 W2 v v1 v2 t names vals h e h1 e1 h2 e2 hok; exact l03Work_step h e h1 e1 h2 e2 (fun m hm => by omega) hok
  | succ n ih => intro w W W1 W2 v v1 v2 t names vals h e h1 e1 h2 e2 hok; exact l03Work_step h e h1 e1 h2 e2 (fun m hm => Nat.succ.inj hm ▸ ih) hok
/-- spec.Worked -/
def F122 (a0 a1 a2 : Value) (w : World) (R : Value → World → Prop) : Prop :=
  OP Tryz.prog (Instr.box 133 a0) w fun x3 w =>
  RD Tryz.prog (Instr.loadAt 133 x3) w fun x7 =>
  CALL Tryz.prog 192 [x7] w fun x8 w =>
  RD Tryz.prog (Op.unary .not x8) w fun x9 =>
  BR x9
   (R (Value.int .i64 0) w)
   (RD Tryz.prog (Instr.loadAt 133 x3) w fun x10 =>
   CALL Tryz.prog 193 [x10, a1, a2] w fun x13 w =>
   R x13 w)
def cfg122 : Cfg := { ext := extL, joins := [], loops := [], draws := [], pars := [] }
theorem F122_eq (a0 a1 a2 : Value) (w : World) (R : Value → World → Prop) : vcF Tryz.prog cfg122 Tryz.f122 [a0, a1, a2] w R = F122 a0 a1 a2 w R := by kernel_rfl
theorem F122_call {a0 a1 a2 : Value} {w : World} {R : Value → World → Prop} (h : F122 a0 a1 a2 w R) : CALL Tryz.prog 122 [a0, a1, a2] w R :=
  call_of (g := cfg122) ent mixed Tryz.func122 (Nat.le_of_ble_eq_true (by kernel_rfl)) (by kernel_rfl) (F122_eq a0 a1 a2 w R ▸ h)


theorem specWorked_ok {w : World} {v0 : Value} {W0 : World} {t : DTerm} {v1 : Value} {W1 : World} {names : (List ByteArray)} {v2 : Value} {W2 : World} {vals : (List Int)}  (h0 : Is W0 v0 t) (e0 : Ext W0 w) (h1 : Is W1 v1 names) (e1 : Ext W1 w) (h2 : Is W2 v2 vals) (e2 : Ext W2 w) (hok : termOk 6 t = true) :
    CALL Tryz.prog 122 [v0, v1, v2] w fun r w' => Ext w w' ∧ (r = .int .i64 (workT names vals 6 t)) := by
  refine F122_call ?_
  unfold F122
  refine op_boxS ty133 rfl h0 e0 fun w1_ hx1_ hA3 hV3 => ?_
  refine rd_var hV3 (Ext.refl w1_) ?_
  refine (specTermOk_ok h0 (e0.trans hx1_)).mono ?_
  rintro _ w2_ ⟨hx2_, rfl⟩
  refine rd_not ?_
  refine br_b (fun c1 => ?_) (fun c1 => ?_)
  · refine ⟨(hx1_.trans hx2_), ?_⟩
    simp [hok] at c1
  · refine rd_var hV3 hx2_ ?_
    refine (l03Work_ok 6 h0 (e0.trans (hx1_.trans hx2_)) h1 (e1.trans (hx1_.trans hx2_)) h2 (e2.trans (hx1_.trans hx2_)) (by assumption)).mono ?_
    rintro _ w3_ ⟨hx3_, rfl⟩
    refine ⟨(hx1_.trans (hx2_.trans hx3_)), ?_⟩
    rfl

end Go.Proofs.YteephmhilnlkpaaGreat
