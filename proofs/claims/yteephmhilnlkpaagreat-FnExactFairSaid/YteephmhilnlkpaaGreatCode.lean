/-
  Code: the program's and the reference's tests.
-/
import Derived.Test.YteephmhilnlkpaaGreatReadsOf
import Derived.Test.YteephmhilnlkpaaGreatCodeL
namespace Go.Proofs.YteephmhilnlkpaaGreat
open Go Go.Sh Go.Proofs
set_option linter.unusedVariables false
set_option linter.unusedSimpArgs false

def ins0 : DIns := ⟨0, 0, term0, 0⟩
/-- the entry of a procedure -/
def en (c : DCode) (i : Nat) : Int := c.entry.getD i 0
/-- the instruction at a place -/
def insAt (c : DCode) (j : Nat) : DIns := c.ins.getD j ins0
theorem en_get {c : DCode} {i : Nat} (h : i < c.entry.length) : c.entry[i] = en c i := by unfold en; rw [List.getD_eq_getElem?_getD, List.getElem?_eq_getElem h]; rfl
theorem insAt_get {c : DCode} {i : Nat} (h : i < c.ins.length) : c.ins[i] = insAt c i := by unfold insAt; rw [List.getD_eq_getElem?_getD, List.getElem?_eq_getElem h]; rfl
/-- the procedure of a place: the last one whose entry is not behind it -/
def prc (c : DCode) (a : Int) : Nat → Int
  | 0 => -1
  | n + 1 => if en c n ≤ a then n else prc c a n
def procOf (c : DCode) (a : Int) : Int := prc c a c.entry.length
theorem prc_skip {c : DCode} {a : Int} {m : Nat} : ∀ {n : Nat}, m ≤ n → (∀ j, m ≤ j → j < n → a < en c j) → prc c a n = prc c a m
  | 0, h, _ => by rw [Nat.le_zero.1 h]
  | n + 1, h, hj => by
    by_cases e : m = n + 1
    · rw [e]
    · rw [prc, if_neg (by have := hj n (by omega) (by omega); omega)]
      exact prc_skip (by omega) fun j h1 h2 => hj j h1 (by omega)
theorem prc_lt {c : DCode} {a : Int} : ∀ (n : Nat), -1 ≤ prc c a n ∧ prc c a n < n
  | 0 => by simp [prc]
  | n + 1 => by
    have := prc_lt (c := c) (a := a) n
    rw [prc]
    split <;> omega
theorem procOf_lt {c : DCode} {a : Int} : -1 ≤ procOf c a ∧ procOf c a < c.entry.length := prc_lt _
/-- the end of a procedure -/
def endOf (c : DCode) (p : Int) : Int := if p + 1 < c.entry.length then en c (p + 1).toNat - 1 else (c.ins.length : Int) - 1
/-- the place behind the end of a procedure -/
def endB (c : DCode) (i : Nat) : Int := if i + 1 < c.entry.length then en c (i + 1) else c.ins.length
theorem endOf_eq (c : DCode) (i : Nat) : endOf c i = endB c i - 1 := by
  unfold endOf endB
  have e : ((i : Int) + 1).toNat = i + 1 := by omega
  by_cases h : i + 1 < c.entry.length
  · rw [if_pos (by omega), if_pos h, e]
  · rw [if_neg (by omega), if_neg h]
/-- spec.l08Proc -/
def F202 (a0 a1 : Value) (w : World) (R : Value → World → Prop) : Prop :=
  OP Tryz.prog (Instr.box 37 a0) w fun x2 w =>
  RD Tryz.prog (Instr.fieldAt 37 x2 3) w fun x6 =>
  RD Tryz.prog (Instr.loadAt 23 x6) w fun x7 =>
  RD Tryz.prog (Builtin.len_ #[23] 3 [x7].toArray) w fun x8 =>
  RD Tryz.prog (bin .sub 3 (.tmp 0) (.const undef) x8 (Value.int .i64 1)) w fun x9 =>
  LOOPI [5] [x9] w fun u2 w next2 =>
   RD Tryz.prog (bin .geq 3 (.tmp 0) (.const undef) (u2 5) (Value.int .i64 0)) w fun x11 =>
   BR x11
    (RD Tryz.prog (Instr.fieldAt 37 x2 3) w fun x14 =>
    RD Tryz.prog (Instr.loadAt 23 x14) w fun x15 =>
    RD Tryz.prog (Instr.indexAt 23 x15 (u2 5)) w fun x17 =>
    RD Tryz.prog (Instr.loadAt 3 x17) w fun x18 =>
    RD Tryz.prog (bin .leq 3 (.tmp 0) (.tmp 0) x18 a1) w fun x20 =>
    BR x20
     (R (u2 5) w)
     (RD Tryz.prog (bin .sub 3 (.tmp 0) (.const undef) (u2 5) (Value.int .i64 1)) w fun x13 =>
     next2 [x13] w))
    (R (Value.int .i64 (-1)) w)
def cfg202 : Cfg := { ext := extL, joins := [], loops := [(2, 4193328, [5])], draws := [], pars := [] }
theorem F202_eq (a0 a1 : Value) (w : World) (R : Value → World → Prop) : vcF Tryz.prog cfg202 Tryz.f202 [a0, a1] w R = F202 a0 a1 w R := by kernel_rfl
theorem F202_call {a0 a1 : Value} {w : World} {R : Value → World → Prop} (h : F202 a0 a1 w R) : CALL Tryz.prog 202 [a0, a1] w R :=
  call_of (g := cfg202) ent mixed Tryz.func202 (Nat.le_of_ble_eq_true (by kernel_rfl)) (by kernel_rfl) (F202_eq a0 a1 w R ▸ h)


theorem l08Proc_ok {w : World} {v0 : Value} {W0 : World} {c : DCode} {a : Int}  (h0 : Is W0 v0 c) (e0 : Ext W0 w)  :
    CALL Tryz.prog 202 [v0, .int .i64 a] w fun r w' => Ext w w' ∧ (r = .int .i64 (procOf c a)) := by
  refine F202_call ?_
  unfold F202
  refine op_boxS ty37 rfl h0 e0 fun w1_ hx1_ hA2 hV2 => ?_
  refine rd_fld fd37_3 ?_
  refine rd_load ty23 (at_DCode_3 hA2) (Ext.refl w1_) fun v7 h7 => ?_
  have hln8 := is_len h7
  refine rd_len u23 h7 ?_
  refine rd_sub (by unfold I64; omega) ?_
  refine loopC (c.entry.length) (fun k us w' => us = [.int .i64 ((c.entry.length : Int) - 1 - (k : Int))] ∧ Ext w1_ w' ∧ (∀ j, c.entry.length - k ≤ j → j < c.entry.length → a < en c j)) (0) (by omega) ⟨by simp, Ext.refl w1_, fun j h1 h2 => by omega⟩ ?_
  rintro k m2 uu2 w2_ hk2 ⟨hu, hx2_, hinv⟩
  simp only [List.map_cons, List.map_nil, List.cons.injEq, and_true] at hu
  try rw [hu]
  try clear hu
  have hln := is_len h7
  refine rd_geq ?_
  refine br (fun c1 => ?_) (fun c1 => ?_)
  · refine rd_fld fd37_3 ?_
    refine rd_load ty23 (at_DCode_3 hA2) hx2_ fun v15 h15 => ?_
    refine rd_index u23 ty3 h15 (by omega) (by omega) fun b17 o17 h17 => ?_
    have hn17 : ((c.entry.length : Int) - 1 - (k : Int)).toNat = c.entry.length - k - 1 := by omega
    simp only [hn17] at h17
    refine rd_loadI ty3 h17 hx2_ fun hI18 => ?_
    refine rd_leq ?_
    refine br (fun c2 => ?_) (fun c2 => ?_)
    · refine ⟨(hx1_.trans hx2_), ?_⟩
      rw [en_get] at c2
      unfold procOf
      rw [prc_skip (m := c.entry.length - k) (by omega) hinv, show c.entry.length - k = (c.entry.length - k - 1) + 1 by omega, prc, if_pos c2]
      congr 1
      omega
    · refine rd_sub (by unfold I64; omega) ?_
      refine ⟨m2 - 1, by omega, k + 1, by omega, by simp; omega, hx2_, ?_⟩
      intro j h1 h2
      by_cases hj : j = c.entry.length - k - 1
      · subst hj
        rw [en_get] at c2
        omega
      · exact hinv j (by omega) h2
  · refine ⟨(hx1_.trans hx2_), ?_⟩
    unfold procOf
    rw [prc_skip (m := c.entry.length - k) (by omega) hinv, show c.entry.length - k = 0 by omega]
    rfl

/-- spec.l08End -/
def F150 (a0 a1 : Value) (w : World) (R : Value → World → Prop) : Prop :=
  OP Tryz.prog (Instr.box 37 a0) w fun x2 w =>
  RD Tryz.prog (bin .add 3 (.tmp 0) (.const undef) a1 (Value.int .i64 1)) w fun x6 =>
  RD Tryz.prog (Instr.fieldAt 37 x2 3) w fun x7 =>
  RD Tryz.prog (Instr.loadAt 23 x7) w fun x8 =>
  RD Tryz.prog (Builtin.len_ #[23] 3 [x8].toArray) w fun x9 =>
  RD Tryz.prog (bin .lss 3 (.tmp 0) (.tmp 0) x6 x9) w fun x10 =>
  BR x10
   (RD Tryz.prog (Instr.fieldAt 37 x2 3) w fun x11 =>
   RD Tryz.prog (Instr.loadAt 23 x11) w fun x12 =>
   RD Tryz.prog (bin .add 3 (.tmp 0) (.const undef) a1 (Value.int .i64 1)) w fun x14 =>
   RD Tryz.prog (Instr.indexAt 23 x12 x14) w fun x15 =>
   RD Tryz.prog (Instr.loadAt 3 x15) w fun x16 =>
   RD Tryz.prog (bin .sub 3 (.tmp 0) (.const undef) x16 (Value.int .i64 1)) w fun x17 =>
   R x17 w)
   (RD Tryz.prog (Instr.fieldAt 37 x2 4) w fun x18 =>
   RD Tryz.prog (Instr.loadAt 35 x18) w fun x19 =>
   RD Tryz.prog (Builtin.len_ #[35] 3 [x19].toArray) w fun x20 =>
   RD Tryz.prog (bin .sub 3 (.tmp 0) (.const undef) x20 (Value.int .i64 1)) w fun x21 =>
   R x21 w)
def cfg150 : Cfg := { ext := extL, joins := [], loops := [], draws := [], pars := [] }
theorem F150_eq (a0 a1 : Value) (w : World) (R : Value → World → Prop) : vcF Tryz.prog cfg150 Tryz.f150 [a0, a1] w R = F150 a0 a1 w R := by kernel_rfl
theorem F150_call {a0 a1 : Value} {w : World} {R : Value → World → Prop} (h : F150 a0 a1 w R) : CALL Tryz.prog 150 [a0, a1] w R :=
  call_of (g := cfg150) ent mixed Tryz.func150 (Nat.le_of_ble_eq_true (by kernel_rfl)) (by kernel_rfl) (F150_eq a0 a1 w R ▸ h)


theorem l08End_ok {w : World} {v0 : Value} {W0 : World} {c : DCode} {p : Int}  (h0 : Is W0 v0 c) (e0 : Ext W0 w) (hp0 : -1 ≤ p) (hp1 : p < 1000000000000) (hE : ∀ i, i < c.entry.length → 0 ≤ en c i) :
    CALL Tryz.prog 150 [v0, .int .i64 p] w fun r w' => Ext w w' ∧ (r = .int .i64 (endOf c p)) := by
  refine F150_call ?_
  unfold F150
  refine op_boxS ty37 rfl h0 e0 fun w1_ hx1_ hA2 hV2 => ?_
  refine rd_add (by unfold I64; omega) ?_
  refine rd_fld fd37_3 ?_
  refine rd_load ty23 (at_DCode_3 hA2) (Ext.refl w1_) fun v8 h8 => ?_
  have hln9 := is_len h8
  refine rd_len u23 h8 ?_
  refine rd_lss ?_
  refine br (fun c1 => ?_) (fun c1 => ?_)
  · refine rd_fld fd37_3 ?_
    refine rd_load ty23 (at_DCode_3 hA2) (Ext.refl w1_) fun v12 h12 => ?_
    refine rd_add (by unfold I64; omega) ?_
    refine rd_index u23 ty3 h12 (by omega) (by omega) fun b15 o15 h15 => ?_
    refine rd_loadI ty3 h15 (Ext.refl w1_) fun hI16 => ?_
    have hE1 := hE (p + 1).toNat (by omega)
    rw [← en_get (by omega)] at hE1
    refine rd_sub (by unfold I64 at *; omega) ?_
    refine ⟨hx1_, ?_⟩
    unfold endOf
    rw [if_pos c1, en_get]
  · refine rd_fld fd37_4 ?_
    refine rd_load ty35 (at_DCode_4 hA2) (Ext.refl w1_) fun v19 h19 => ?_
    have hln20 := is_len h19
    refine rd_len u35 h19 ?_
    refine rd_sub (by unfold I64; have := is_len h19; omega) ?_
    refine ⟨hx1_, ?_⟩
    unfold endOf
    rw [if_neg c1]

def mainS : ByteArray := ByteArray.mk #[109, 97, 105, 110]
def NamesR (c : DCode) : Prop := (decide ((c.globals.length : Int) ≤ 6) && c.globals.all nameB) = true ∧ (decide ((c.locks.length : Int) ≤ 6) && c.locks.all nameB) = true ∧ (decide ((c.procs.length : Int) ≤ 8) && c.procs.all nameB) = true ∧
  c.globals.Nodup ∧ c.locks.Nodup ∧ c.procs.Nodup ∧ mainS ∈ c.procs
instance (c : DCode) : Decidable (NamesR c) := by unfold NamesR; infer_instance
def EntS (c : DCode) : Prop := c.entry.length = c.procs.length ∧ c.ins.length ≤ 1500 ∧ (∀ i, i < c.entry.length → (i = 0 → en c 0 = 0) ∧ (0 < i → en c (i - 1) < en c i) ∧ en c i < c.ins.length) ∧
  ∀ j, j < c.ins.length → ((insAt c j).op = 9 ↔ endOf c (procOf c j) = j)
instance (c : DCode) : Decidable (EntS c) := by unfold EntS; infer_instance
theorem all_succ {P : Nat → Prop} {k : Nat} (h : ∀ i, i < k → P i) (hk : P k) : ∀ i, i < k + 1 → P i := fun i hi => by
  by_cases e : i = k
  · rw [e]; exact hk
  · exact h i (by omega)
theorem ent_nonneg {c : DCode} {n : Nat} {m : Int} (h : ∀ i, i < n → (i = 0 → en c 0 = 0) ∧ (0 < i → en c (i - 1) < en c i) ∧ en c i < m) : ∀ i, i < n → 0 ≤ en c i
  | 0, hi => by rw [(h 0 hi).1 rfl]; omega
  | i + 1, hi => by
    have h1 := ent_nonneg h i (by omega)
    have h2 := (h (i + 1) hi).2.1 (by omega)
    simp only [Nat.add_sub_cancel] at h2
    omega
/-- spec.l08Heads -/
def F131 (a0 : Value) (w : World) (R : Value → World → Prop) : Prop :=
  OP Tryz.prog (Instr.box 37 a0) w fun x1 w =>
  RD Tryz.prog (Instr.fieldAt 37 x1 0) w fun x5 =>
  RD Tryz.prog (Instr.loadAt 22 x5) w fun x6 =>
  CALL Tryz.prog 199 [x6, (Value.int .i64 6)] w fun x7 w =>
  RD Tryz.prog (Op.unary .not x7) w fun x8 =>
  BR x8
  (R (Value.bool false) w)
  (RD Tryz.prog (Instr.fieldAt 37 x1 1) w fun x10 =>
  RD Tryz.prog (Instr.loadAt 22 x10) w fun x11 =>
  CALL Tryz.prog 199 [x11, (Value.int .i64 6)] w fun x12 w =>
  RD Tryz.prog (Op.unary .not x12) w fun x13 =>
  BR x13
  (R (Value.bool false) w)
  (RD Tryz.prog (Instr.fieldAt 37 x1 2) w fun x16 =>
  RD Tryz.prog (Instr.loadAt 22 x16) w fun x17 =>
  CALL Tryz.prog 199 [x17, (Value.int .i64 8)] w fun x18 w =>
  RD Tryz.prog (Op.unary .not x18) w fun x19 =>
  BR x19
  (R (Value.bool false) w)
  (RD Tryz.prog (Instr.fieldAt 37 x1 0) w fun x22 =>
  RD Tryz.prog (Instr.loadAt 22 x22) w fun x23 =>
  CALL Tryz.prog 200 [x23] w fun x24 w =>
  BR x24
  (R (Value.bool false) w)
  (RD Tryz.prog (Instr.fieldAt 37 x1 1) w fun x27 =>
  RD Tryz.prog (Instr.loadAt 22 x27) w fun x28 =>
  CALL Tryz.prog 200 [x28] w fun x29 w =>
  BR x29
  (R (Value.bool false) w)
  (RD Tryz.prog (Instr.fieldAt 37 x1 2) w fun x32 =>
  RD Tryz.prog (Instr.loadAt 22 x32) w fun x33 =>
  CALL Tryz.prog 200 [x33] w fun x34 w =>
  BR x34
  (R (Value.bool false) w)
  (RD Tryz.prog (Instr.fieldAt 37 x1 3) w fun x37 =>
  RD Tryz.prog (Instr.loadAt 23 x37) w fun x38 =>
  RD Tryz.prog (Builtin.len_ #[23] 3 [x38].toArray) w fun x39 =>
  RD Tryz.prog (Instr.fieldAt 37 x1 2) w fun x40 =>
  RD Tryz.prog (Instr.loadAt 22 x40) w fun x41 =>
  RD Tryz.prog (Builtin.len_ #[22] 3 [x41].toArray) w fun x42 =>
  RD Tryz.prog (bin .neq 3 (.tmp 0) (.tmp 0) x39 x42) w fun x43 =>
  BR x43
  (R (Value.bool false) w)
  (RD Tryz.prog (Instr.fieldAt 37 x1 4) w fun x46 =>
  RD Tryz.prog (Instr.loadAt 35 x46) w fun x47 =>
  RD Tryz.prog (Builtin.len_ #[35] 3 [x47].toArray) w fun x48 =>
  RD Tryz.prog (bin .gtr 3 (.tmp 0) (.const undef) x48 (Value.int .i64 1500)) w fun x49 =>
  BR x49
  (R (Value.bool false) w)
  (RD Tryz.prog (Instr.fieldAt 37 x1 2) w fun x52 =>
  RD Tryz.prog (Instr.loadAt 22 x52) w fun x53 =>
  CALL Tryz.prog 201 [x53, (Value.string (ByteArray.mk #[109, 97, 105, 110]))] w fun x54 w =>
  RD Tryz.prog (bin .lss 3 (.tmp 0) (.const undef) x54 (Value.int .i64 0)) w fun x55 =>
  BR x55
   (R (Value.bool false) w)
   (LOOPI [3] [(Value.int .i64 0)] w fun u4 w next4 =>
    RD Tryz.prog (Instr.fieldAt 37 x1 3) w fun x58 =>
    RD Tryz.prog (Instr.loadAt 23 x58) w fun x59 =>
    RD Tryz.prog (Builtin.len_ #[23] 3 [x59].toArray) w fun x60 =>
    RD Tryz.prog (bin .lss 3 (.tmp 0) (.tmp 0) (u4 3) x60) w fun x61 =>
    BR x61
     ((fun w => RD Tryz.prog (bin .eql 3 (.tmp 0) (.const undef) (u4 3) (Value.int .i64 0)) w fun x65 =>
     BR x65
     (RD Tryz.prog (Instr.fieldAt 37 x1 3) w fun x67 =>
     RD Tryz.prog (Instr.loadAt 23 x67) w fun x68 =>
     RD Tryz.prog (Instr.indexAt 23 x68 (Value.int .i64 0)) w fun x69 =>
     RD Tryz.prog (Instr.loadAt 3 x69) w fun x70 =>
     RD Tryz.prog (bin .neq 3 (.tmp 0) (.const undef) x70 (Value.int .i64 0)) w fun x71 =>
     BR x71
     (R (Value.bool false) w)
     (RD Tryz.prog (bin .gtr 3 (.tmp 0) (.const undef) (u4 3) (Value.int .i64 0)) w fun x75 =>
     GBR x75
     (RD Tryz.prog (Instr.fieldAt 37 x1 3) w fun x77 =>
     RD Tryz.prog (Instr.loadAt 23 x77) w fun x78 =>
     RD Tryz.prog (Instr.indexAt 23 x78 (u4 3)) w fun x80 =>
     RD Tryz.prog (Instr.loadAt 3 x80) w fun x81 =>
     RD Tryz.prog (Instr.fieldAt 37 x1 3) w fun x82 =>
     RD Tryz.prog (Instr.loadAt 23 x82) w fun x83 =>
     RD Tryz.prog (bin .sub 3 (.tmp 0) (.const undef) (u4 3) (Value.int .i64 1)) w fun x85 =>
     RD Tryz.prog (Instr.indexAt 23 x83 x85) w fun x86 =>
     RD Tryz.prog (Instr.loadAt 3 x86) w fun x87 =>
     RD Tryz.prog (bin .leq 3 (.tmp 0) (.tmp 0) x81 x87) w fun x88 =>
     BR x88
     (R (Value.bool false) w)
     (RD Tryz.prog (Instr.fieldAt 37 x1 3) w fun x92 =>
     RD Tryz.prog (Instr.loadAt 23 x92) w fun x93 =>
     RD Tryz.prog (Instr.indexAt 23 x93 (u4 3)) w fun x95 =>
     RD Tryz.prog (Instr.loadAt 3 x95) w fun x96 =>
     RD Tryz.prog (Instr.fieldAt 37 x1 4) w fun x97 =>
     RD Tryz.prog (Instr.loadAt 35 x97) w fun x98 =>
     RD Tryz.prog (Builtin.len_ #[35] 3 [x98].toArray) w fun x99 =>
     RD Tryz.prog (bin .geq 3 (.tmp 0) (.tmp 0) x96 x99) w fun x100 =>
     BR x100
      (R (Value.bool false) w)
      (RD Tryz.prog (bin .add 3 (.tmp 0) (.const undef) (u4 3) (Value.int .i64 1)) w fun x63 =>
      next4 [x63] w)))
     (RD Tryz.prog (Instr.fieldAt 37 x1 3) w fun x92 =>
     RD Tryz.prog (Instr.loadAt 23 x92) w fun x93 =>
     RD Tryz.prog (Instr.indexAt 23 x93 (u4 3)) w fun x95 =>
     RD Tryz.prog (Instr.loadAt 3 x95) w fun x96 =>
     RD Tryz.prog (Instr.fieldAt 37 x1 4) w fun x97 =>
     RD Tryz.prog (Instr.loadAt 35 x97) w fun x98 =>
     RD Tryz.prog (Builtin.len_ #[35] 3 [x98].toArray) w fun x99 =>
     RD Tryz.prog (bin .geq 3 (.tmp 0) (.tmp 0) x96 x99) w fun x100 =>
     BR x100
      (R (Value.bool false) w)
      (RD Tryz.prog (bin .add 3 (.tmp 0) (.const undef) (u4 3) (Value.int .i64 1)) w fun x63 =>
      next4 [x63] w))
     (BR undef
     (BR undef
     (R (Value.bool false) w)
     (RD Tryz.prog (Instr.fieldAt 37 x1 3) w fun x92 =>
     RD Tryz.prog (Instr.loadAt 23 x92) w fun x93 =>
     RD Tryz.prog (Instr.indexAt 23 x93 (u4 3)) w fun x95 =>
     RD Tryz.prog (Instr.loadAt 3 x95) w fun x96 =>
     RD Tryz.prog (Instr.fieldAt 37 x1 4) w fun x97 =>
     RD Tryz.prog (Instr.loadAt 35 x97) w fun x98 =>
     RD Tryz.prog (Builtin.len_ #[35] 3 [x98].toArray) w fun x99 =>
     RD Tryz.prog (bin .geq 3 (.tmp 0) (.tmp 0) x96 x99) w fun x100 =>
     BR x100
      (R (Value.bool false) w)
      (RD Tryz.prog (bin .add 3 (.tmp 0) (.const undef) (u4 3) (Value.int .i64 1)) w fun x63 =>
      next4 [x63] w)))
     (RD Tryz.prog (Instr.fieldAt 37 x1 3) w fun x92 =>
     RD Tryz.prog (Instr.loadAt 23 x92) w fun x93 =>
     RD Tryz.prog (Instr.indexAt 23 x93 (u4 3)) w fun x95 =>
     RD Tryz.prog (Instr.loadAt 3 x95) w fun x96 =>
     RD Tryz.prog (Instr.fieldAt 37 x1 4) w fun x97 =>
     RD Tryz.prog (Instr.loadAt 35 x97) w fun x98 =>
     RD Tryz.prog (Builtin.len_ #[35] 3 [x98].toArray) w fun x99 =>
     RD Tryz.prog (bin .geq 3 (.tmp 0) (.tmp 0) x96 x99) w fun x100 =>
     BR x100
      (R (Value.bool false) w)
      (RD Tryz.prog (bin .add 3 (.tmp 0) (.const undef) (u4 3) (Value.int .i64 1)) w fun x63 =>
      next4 [x63] w)))))
     (RD Tryz.prog (bin .gtr 3 (.tmp 0) (.const undef) (u4 3) (Value.int .i64 0)) w fun x75 =>
     GBR x75
     (RD Tryz.prog (Instr.fieldAt 37 x1 3) w fun x77 =>
     RD Tryz.prog (Instr.loadAt 23 x77) w fun x78 =>
     RD Tryz.prog (Instr.indexAt 23 x78 (u4 3)) w fun x80 =>
     RD Tryz.prog (Instr.loadAt 3 x80) w fun x81 =>
     RD Tryz.prog (Instr.fieldAt 37 x1 3) w fun x82 =>
     RD Tryz.prog (Instr.loadAt 23 x82) w fun x83 =>
     RD Tryz.prog (bin .sub 3 (.tmp 0) (.const undef) (u4 3) (Value.int .i64 1)) w fun x85 =>
     RD Tryz.prog (Instr.indexAt 23 x83 x85) w fun x86 =>
     RD Tryz.prog (Instr.loadAt 3 x86) w fun x87 =>
     RD Tryz.prog (bin .leq 3 (.tmp 0) (.tmp 0) x81 x87) w fun x88 =>
     BR x88
     (R (Value.bool false) w)
     (RD Tryz.prog (Instr.fieldAt 37 x1 3) w fun x92 =>
     RD Tryz.prog (Instr.loadAt 23 x92) w fun x93 =>
     RD Tryz.prog (Instr.indexAt 23 x93 (u4 3)) w fun x95 =>
     RD Tryz.prog (Instr.loadAt 3 x95) w fun x96 =>
     RD Tryz.prog (Instr.fieldAt 37 x1 4) w fun x97 =>
     RD Tryz.prog (Instr.loadAt 35 x97) w fun x98 =>
     RD Tryz.prog (Builtin.len_ #[35] 3 [x98].toArray) w fun x99 =>
     RD Tryz.prog (bin .geq 3 (.tmp 0) (.tmp 0) x96 x99) w fun x100 =>
     BR x100
      (R (Value.bool false) w)
      (RD Tryz.prog (bin .add 3 (.tmp 0) (.const undef) (u4 3) (Value.int .i64 1)) w fun x63 =>
      next4 [x63] w)))
     (RD Tryz.prog (Instr.fieldAt 37 x1 3) w fun x92 =>
     RD Tryz.prog (Instr.loadAt 23 x92) w fun x93 =>
     RD Tryz.prog (Instr.indexAt 23 x93 (u4 3)) w fun x95 =>
     RD Tryz.prog (Instr.loadAt 3 x95) w fun x96 =>
     RD Tryz.prog (Instr.fieldAt 37 x1 4) w fun x97 =>
     RD Tryz.prog (Instr.loadAt 35 x97) w fun x98 =>
     RD Tryz.prog (Builtin.len_ #[35] 3 [x98].toArray) w fun x99 =>
     RD Tryz.prog (bin .geq 3 (.tmp 0) (.tmp 0) x96 x99) w fun x100 =>
     BR x100
      (R (Value.bool false) w)
      (RD Tryz.prog (bin .add 3 (.tmp 0) (.const undef) (u4 3) (Value.int .i64 1)) w fun x63 =>
      next4 [x63] w))
     (BR undef
     (BR undef
     (R (Value.bool false) w)
     (RD Tryz.prog (Instr.fieldAt 37 x1 3) w fun x92 =>
     RD Tryz.prog (Instr.loadAt 23 x92) w fun x93 =>
     RD Tryz.prog (Instr.indexAt 23 x93 (u4 3)) w fun x95 =>
     RD Tryz.prog (Instr.loadAt 3 x95) w fun x96 =>
     RD Tryz.prog (Instr.fieldAt 37 x1 4) w fun x97 =>
     RD Tryz.prog (Instr.loadAt 35 x97) w fun x98 =>
     RD Tryz.prog (Builtin.len_ #[35] 3 [x98].toArray) w fun x99 =>
     RD Tryz.prog (bin .geq 3 (.tmp 0) (.tmp 0) x96 x99) w fun x100 =>
     BR x100
      (R (Value.bool false) w)
      (RD Tryz.prog (bin .add 3 (.tmp 0) (.const undef) (u4 3) (Value.int .i64 1)) w fun x63 =>
      next4 [x63] w)))
     (RD Tryz.prog (Instr.fieldAt 37 x1 3) w fun x92 =>
     RD Tryz.prog (Instr.loadAt 23 x92) w fun x93 =>
     RD Tryz.prog (Instr.indexAt 23 x93 (u4 3)) w fun x95 =>
     RD Tryz.prog (Instr.loadAt 3 x95) w fun x96 =>
     RD Tryz.prog (Instr.fieldAt 37 x1 4) w fun x97 =>
     RD Tryz.prog (Instr.loadAt 35 x97) w fun x98 =>
     RD Tryz.prog (Builtin.len_ #[35] 3 [x98].toArray) w fun x99 =>
     RD Tryz.prog (bin .geq 3 (.tmp 0) (.tmp 0) x96 x99) w fun x100 =>
     BR x100
      (R (Value.bool false) w)
      (RD Tryz.prog (bin .add 3 (.tmp 0) (.const undef) (u4 3) (Value.int .i64 1)) w fun x63 =>
      next4 [x63] w))))) (World.drew1 w))
     (LOOPI [4] [(Value.int .i64 0)] w fun u9 w next9 =>
      RD Tryz.prog (Instr.fieldAt 37 x1 4) w fun x103 =>
      RD Tryz.prog (Instr.loadAt 35 x103) w fun x104 =>
      RD Tryz.prog (Builtin.len_ #[35] 3 [x104].toArray) w fun x105 =>
      RD Tryz.prog (bin .lss 3 (.tmp 0) (.tmp 0) (u9 4) x105) w fun x106 =>
      BR x106
       ((fun w => RD Tryz.prog (Instr.fieldAt 37 x1 4) w fun x109 =>
       RD Tryz.prog (Instr.loadAt 35 x109) w fun x110 =>
       RD Tryz.prog (Instr.indexAt 35 x110 (u9 4)) w fun x112 =>
       RD Tryz.prog (Instr.fieldAt 135 x112 0) w fun x113 =>
       RD Tryz.prog (Instr.loadAt 3 x113) w fun x114 =>
       RD Tryz.prog (bin .eql 3 (.tmp 0) (.const undef) x114 (Value.int .i64 9)) w fun x115 =>
       RD Tryz.prog (Instr.loadAt 37 x1) w fun x116 =>
       RD Tryz.prog (Instr.loadAt 37 x1) w fun x117 =>
       (fun w_ => CALL Tryz.prog 202 [x117, (u9 4)] w_ fun x119 w =>
       Ext w_ w ∧
       (fun w_ => CALL Tryz.prog 150 [x116, x119] w_ fun x120 w =>
       Ext w_ w ∧
       RD Tryz.prog (bin .eql 3 (.tmp 0) (.tmp 0) x120 (u9 4)) w fun x122 =>
       RD Tryz.prog (bin .neq 4 (.tmp 0) (.tmp 0) x115 x122) w fun x123 =>
       BR x123
        (R (Value.bool false) w)
        (RD Tryz.prog (bin .add 3 (.tmp 0) (.const undef) (u9 4) (Value.int .i64 1)) w fun x108 =>
        next9 [x108] w)) w) w) (World.drew1 w))
       (R (Value.bool true) w)))))))))))
def cfg131 : Cfg := { ext := extL, joins := [], loops := [(4, 5070602400912773490798736965644, [3]), (9, 21267642861956253053543306977672691732, [4])], draws := [(6, [0, 1, 2, 3, 4, 5, 6, 7, 8, 9, 10, 11, 12, 13, 14, 15, 16, 17, 18, 19, 20, 21, 22, 23, 24, 25, 26, 27, 28, 29, 30, 31, 32, 33, 34, 35, 36, 37], 0), (11, [0, 1, 2, 3, 4, 5, 6, 7, 8, 9, 12, 10, 11, 13, 14], 3072)], pars := [] }
theorem F131_eq (a0 : Value) (w : World) (R : Value → World → Prop) : vcF Tryz.prog cfg131 Tryz.f131 [a0] w R = F131 a0 w R := by kernel_rfl
theorem F131_call {a0 : Value} {w : World} {R : Value → World → Prop} (h : F131 a0 w R) : CALL Tryz.prog 131 [a0] w R :=
  call_of (g := cfg131) ent mixed Tryz.func131 (Nat.le_of_ble_eq_true (by kernel_rfl)) (by kernel_rfl) (F131_eq a0 w R ▸ h)


theorem l08Heads_ok {w : World} {v0 : Value} {W0 : World} {c : DCode}  (h0 : Is W0 v0 c) (e0 : Ext W0 w)  :
    CALL Tryz.prog 131 [v0] w fun r w' => Ext w w' ∧ (r = .bool (decide (NamesR c ∧ EntS c))) := by
  refine F131_call ?_
  unfold F131
  refine op_boxS ty37 rfl h0 e0 fun w1_ hx1_ hA1 hV1 => ?_
  refine rd_fld fd37_0 ?_
  refine rd_load ty22 (at_DCode_0 hA1) (Ext.refl w1_) fun v6 h6 => ?_
  refine (l05Names_ok h6 (Ext.refl w1_)).mono ?_
  rintro _ w2_ ⟨hx2_, rfl⟩
  refine rd_not ?_
  refine br_b (fun c1 => ?_) (fun c1 => ?_)
  · refine ⟨(hx1_.trans hx2_), ?_⟩
    have : ¬ (NamesR c ∧ EntS c) := fun h => by rw [h.1.1] at c1; cases c1
    simp only [this, decide_false]
  · refine rd_fld fd37_1 ?_
    refine rd_load ty22 (at_DCode_1 hA1) hx2_ fun v11 h11 => ?_
    refine (l05Names_ok h11 hx2_).mono ?_
    rintro _ w3_ ⟨hx3_, rfl⟩
    refine rd_not ?_
    refine br_b (fun c2 => ?_) (fun c2 => ?_)
    · refine ⟨(hx1_.trans (hx2_.trans hx3_)), ?_⟩
      have : ¬ (NamesR c ∧ EntS c) := fun h => by rw [h.1.2.1] at c2; cases c2
      simp only [this, decide_false]
    · refine rd_fld fd37_2 ?_
      refine rd_load ty22 (at_DCode_2 hA1) (hx2_.trans hx3_) fun v17 h17 => ?_
      refine (l05Names_ok h17 (hx2_.trans hx3_)).mono ?_
      rintro _ w4_ ⟨hx4_, rfl⟩
      refine rd_not ?_
      refine br_b (fun c3 => ?_) (fun c3 => ?_)
      · refine ⟨(hx1_.trans (hx2_.trans (hx3_.trans hx4_))), ?_⟩
        have : ¬ (NamesR c ∧ EntS c) := fun h => by rw [h.1.2.2.1] at c3; cases c3
        simp only [this, decide_false]
      · refine rd_fld fd37_0 ?_
        refine rd_load ty22 (at_DCode_0 hA1) (hx2_.trans (hx3_.trans hx4_)) fun v23 h23 => ?_
        refine (l07Twice_ok h23 (hx2_.trans (hx3_.trans hx4_))).mono ?_
        rintro _ w5_ ⟨hx5_, rfl⟩
        refine br (fun c4 => ?_) (fun c4 => ?_)
        · refine ⟨(hx1_.trans (hx2_.trans (hx3_.trans (hx4_.trans hx5_)))), ?_⟩
          have : ¬ (NamesR c ∧ EntS c) := fun h => c4 h.1.2.2.2.1
          simp only [this, decide_false]
        · refine rd_fld fd37_1 ?_
          refine rd_load ty22 (at_DCode_1 hA1) (hx2_.trans (hx3_.trans (hx4_.trans hx5_))) fun v28 h28 => ?_
          refine (l07Twice_ok h28 (hx2_.trans (hx3_.trans (hx4_.trans hx5_)))).mono ?_
          rintro _ w6_ ⟨hx6_, rfl⟩
          refine br (fun c5 => ?_) (fun c5 => ?_)
          · refine ⟨(hx1_.trans (hx2_.trans (hx3_.trans (hx4_.trans (hx5_.trans hx6_))))), ?_⟩
            have : ¬ (NamesR c ∧ EntS c) := fun h => c5 h.1.2.2.2.2.1
            simp only [this, decide_false]
          · refine rd_fld fd37_2 ?_
            refine rd_load ty22 (at_DCode_2 hA1) (hx2_.trans (hx3_.trans (hx4_.trans (hx5_.trans hx6_)))) fun v33 h33 => ?_
            refine (l07Twice_ok h33 (hx2_.trans (hx3_.trans (hx4_.trans (hx5_.trans hx6_))))).mono ?_
            rintro _ w7_ ⟨hx7_, rfl⟩
            refine br (fun c6 => ?_) (fun c6 => ?_)
            · refine ⟨(hx1_.trans (hx2_.trans (hx3_.trans (hx4_.trans (hx5_.trans (hx6_.trans hx7_)))))), ?_⟩
              have : ¬ (NamesR c ∧ EntS c) := fun h => c6 h.1.2.2.2.2.2.1
              simp only [this, decide_false]
            · refine rd_fld fd37_3 ?_
              refine rd_load ty23 (at_DCode_3 hA1) (hx2_.trans (hx3_.trans (hx4_.trans (hx5_.trans (hx6_.trans hx7_))))) fun v38 h38 => ?_
              have hln39 := is_len h38
              refine rd_len u23 h38 ?_
              refine rd_fld fd37_2 ?_
              refine rd_load ty22 (at_DCode_2 hA1) (hx2_.trans (hx3_.trans (hx4_.trans (hx5_.trans (hx6_.trans hx7_))))) fun v41 h41 => ?_
              have hln42 := is_len h41
              refine rd_len u22 h41 ?_
              refine rd_neq ?_
              refine br (fun c7 => ?_) (fun c7 => ?_)
              · refine ⟨(hx1_.trans (hx2_.trans (hx3_.trans (hx4_.trans (hx5_.trans (hx6_.trans hx7_)))))), ?_⟩
                have : ¬ (NamesR c ∧ EntS c) := fun h => c7 (by rw [h.2.1])
                simp only [this, decide_false]
              · refine rd_fld fd37_4 ?_
                refine rd_load ty35 (at_DCode_4 hA1) (hx2_.trans (hx3_.trans (hx4_.trans (hx5_.trans (hx6_.trans hx7_))))) fun v47 h47 => ?_
                have hln48 := is_len h47
                refine rd_len u35 h47 ?_
                refine rd_gtr ?_
                refine br (fun c8 => ?_) (fun c8 => ?_)
                · refine ⟨(hx1_.trans (hx2_.trans (hx3_.trans (hx4_.trans (hx5_.trans (hx6_.trans hx7_)))))), ?_⟩
                  have : ¬ (NamesR c ∧ EntS c) := fun h => by have := h.2.2.1; omega
                  simp only [this, decide_false]
                · refine rd_fld fd37_2 ?_
                  refine rd_load ty22 (at_DCode_2 hA1) (hx2_.trans (hx3_.trans (hx4_.trans (hx5_.trans (hx6_.trans hx7_))))) fun v53 h53 => ?_
                  refine (specPlaceOf_ok h53 (hx2_.trans (hx3_.trans (hx4_.trans (hx5_.trans (hx6_.trans hx7_)))))).mono ?_
                  rintro _ w8_ ⟨hx8_, rfl⟩
                  refine rd_lss ?_
                  refine br (fun c9 => ?_) (fun c9 => ?_)
                  · refine ⟨(hx1_.trans (hx2_.trans (hx3_.trans (hx4_.trans (hx5_.trans (hx6_.trans (hx7_.trans hx8_))))))), ?_⟩
                    have : ¬ (NamesR c ∧ EntS c) := fun h => by have := plc_iff.2 h.1.2.2.2.2.2.2; unfold mainS at this; omega
                    simp only [this, decide_false]
                  · refine loopC (c.entry.length) (fun k us w' => us = [.int .i64 (k : Int)] ∧ Ext w8_ w' ∧ (∀ i, i < k → (i = 0 → en c 0 = 0) ∧ (0 < i → en c (i - 1) < en c i) ∧ en c i < c.ins.length)) (0) (by omega) ⟨by simp, Ext.refl w8_, fun i h => by omega⟩ ?_
                    rintro k m4 uu4 w9_ hk4 ⟨hu, hx9_, hent⟩
                    simp only [List.map_cons, List.map_nil, List.cons.injEq, and_true] at hu
                    try rw [hu]
                    try clear hu
                    refine rd_fld fd37_3 ?_
                    refine rd_load ty23 (at_DCode_3 hA1) (hx2_.trans (hx3_.trans (hx4_.trans (hx5_.trans (hx6_.trans (hx7_.trans (hx8_.trans hx9_))))))) fun v59 h59 => ?_
                    have hln60 := is_len h59
                    refine rd_len u23 h59 ?_
                    refine rd_lss ?_
                    refine br (fun c10 => ?_) (fun c10 => ?_)
                    · have hx10_ := ext_drew w9_
                      refine rd_eql ?_
                      refine br (fun c11 => ?_) (fun c11 => ?_)
                      · refine rd_fld fd37_3 ?_
                        refine rd_load ty23 (at_DCode_3 hA1) (hx2_.trans (hx3_.trans (hx4_.trans (hx5_.trans (hx6_.trans (hx7_.trans (hx8_.trans (hx9_.trans hx10_)))))))) fun v68 h68 => ?_
                        refine rd_index u23 ty3 h68 (by omega) (by omega) fun b69 o69 h69 => ?_
                        refine rd_loadI ty3 h69 (hx2_.trans (hx3_.trans (hx4_.trans (hx5_.trans (hx6_.trans (hx7_.trans (hx8_.trans (hx9_.trans hx10_)))))))) fun hI70 => ?_
                        refine rd_neq ?_
                        refine br (fun c12 => ?_) (fun c12 => ?_)
                        · refine ⟨(hx1_.trans (hx2_.trans (hx3_.trans (hx4_.trans (hx5_.trans (hx6_.trans (hx7_.trans (hx8_.trans (hx9_.trans hx10_))))))))), ?_⟩
                          rw [en_get] at c12
                          have : ¬ (NamesR c ∧ EntS c) := fun h => c12 ((h.2.2.2.1 0 (by omega)).1 rfl)
                          simp only [this, decide_false]
                        · refine rd_gtr ?_
                          refine gbr (fun c13 => ?_) (fun c13 => ?_)
                          · refine rd_fld fd37_3 ?_
                            refine rd_load ty23 (at_DCode_3 hA1) (hx2_.trans (hx3_.trans (hx4_.trans (hx5_.trans (hx6_.trans (hx7_.trans (hx8_.trans (hx9_.trans hx10_)))))))) fun v78 h78 => ?_
                            refine rd_indexN u23 ty3 h78 (by omega) fun b80 o80 h80 => ?_
                            refine rd_loadI ty3 h80 (hx2_.trans (hx3_.trans (hx4_.trans (hx5_.trans (hx6_.trans (hx7_.trans (hx8_.trans (hx9_.trans hx10_)))))))) fun hI81 => ?_
                            refine rd_fld fd37_3 ?_
                            refine rd_load ty23 (at_DCode_3 hA1) (hx2_.trans (hx3_.trans (hx4_.trans (hx5_.trans (hx6_.trans (hx7_.trans (hx8_.trans (hx9_.trans hx10_)))))))) fun v83 h83 => ?_
                            refine rd_sub (by unfold I64; omega) ?_
                            refine rd_index u23 ty3 h83 (by omega) (by omega) fun b86 o86 h86 => ?_
                            refine rd_loadI ty3 h86 (hx2_.trans (hx3_.trans (hx4_.trans (hx5_.trans (hx6_.trans (hx7_.trans (hx8_.trans (hx9_.trans hx10_)))))))) fun hI87 => ?_
                            have hn86 : ((k : Int) - 1).toNat = k - 1 := by omega
                            refine rd_leq ?_
                            refine br (fun c14 => ?_) (fun c14 => ?_)
                            · refine ⟨(hx1_.trans (hx2_.trans (hx3_.trans (hx4_.trans (hx5_.trans (hx6_.trans (hx7_.trans (hx8_.trans (hx9_.trans hx10_))))))))), ?_⟩
                              exact absurd c11 (by omega)
                            · refine rd_fld fd37_3 ?_
                              refine rd_load ty23 (at_DCode_3 hA1) (hx2_.trans (hx3_.trans (hx4_.trans (hx5_.trans (hx6_.trans (hx7_.trans (hx8_.trans (hx9_.trans hx10_)))))))) fun v93 h93 => ?_
                              refine rd_indexN u23 ty3 h93 (by omega) fun b95 o95 h95 => ?_
                              refine rd_loadI ty3 h95 (hx2_.trans (hx3_.trans (hx4_.trans (hx5_.trans (hx6_.trans (hx7_.trans (hx8_.trans (hx9_.trans hx10_)))))))) fun hI96 => ?_
                              refine rd_fld fd37_4 ?_
                              refine rd_load ty35 (at_DCode_4 hA1) (hx2_.trans (hx3_.trans (hx4_.trans (hx5_.trans (hx6_.trans (hx7_.trans (hx8_.trans (hx9_.trans hx10_)))))))) fun v98 h98 => ?_
                              have hln99 := is_len h98
                              refine rd_len u35 h98 ?_
                              refine rd_geq ?_
                              refine br (fun c15 => ?_) (fun c15 => ?_)
                              · refine ⟨(hx1_.trans (hx2_.trans (hx3_.trans (hx4_.trans (hx5_.trans (hx6_.trans (hx7_.trans (hx8_.trans (hx9_.trans hx10_))))))))), ?_⟩
                                exact absurd c11 (by omega)
                              · refine rd_inc (by omega) ?_
                                refine ⟨m4 - 1, by omega, k + 1, by omega, by simp, (hx9_.trans hx10_), ?_⟩
                                exact absurd c11 (by omega)
                          · refine rd_fld fd37_3 ?_
                            refine rd_load ty23 (at_DCode_3 hA1) (hx2_.trans (hx3_.trans (hx4_.trans (hx5_.trans (hx6_.trans (hx7_.trans (hx8_.trans (hx9_.trans hx10_)))))))) fun v93 h93 => ?_
                            refine rd_indexN u23 ty3 h93 (by omega) fun b95 o95 h95 => ?_
                            refine rd_loadI ty3 h95 (hx2_.trans (hx3_.trans (hx4_.trans (hx5_.trans (hx6_.trans (hx7_.trans (hx8_.trans (hx9_.trans hx10_)))))))) fun hI96 => ?_
                            refine rd_fld fd37_4 ?_
                            refine rd_load ty35 (at_DCode_4 hA1) (hx2_.trans (hx3_.trans (hx4_.trans (hx5_.trans (hx6_.trans (hx7_.trans (hx8_.trans (hx9_.trans hx10_)))))))) fun v98 h98 => ?_
                            have hln99 := is_len h98
                            refine rd_len u35 h98 ?_
                            refine rd_geq ?_
                            refine br (fun c16 => ?_) (fun c16 => ?_)
                            · refine ⟨(hx1_.trans (hx2_.trans (hx3_.trans (hx4_.trans (hx5_.trans (hx6_.trans (hx7_.trans (hx8_.trans (hx9_.trans hx10_))))))))), ?_⟩
                              rw [en_get] at c16
                              have : ¬ (NamesR c ∧ EntS c) := fun h => by have := (h.2.2.2.1 k (by omega)).2.2; omega
                              simp only [this, decide_false]
                            · refine rd_inc (by omega) ?_
                              refine ⟨m4 - 1, by omega, k + 1, by omega, by simp, (hx9_.trans hx10_), ?_⟩
                              rw [en_get] at c16 c12
                              have hk0 : k = 0 := by omega
                              subst hk0
                              exact all_succ hent ⟨fun _ => Decidable.not_not.1 c12, fun h => by omega, by omega⟩
                      · refine rd_gtr ?_
                        refine gbr (fun c17 => ?_) (fun c17 => ?_)
                        · refine rd_fld fd37_3 ?_
                          refine rd_load ty23 (at_DCode_3 hA1) (hx2_.trans (hx3_.trans (hx4_.trans (hx5_.trans (hx6_.trans (hx7_.trans (hx8_.trans (hx9_.trans hx10_)))))))) fun v78 h78 => ?_
                          refine rd_indexN u23 ty3 h78 (by omega) fun b80 o80 h80 => ?_
                          refine rd_loadI ty3 h80 (hx2_.trans (hx3_.trans (hx4_.trans (hx5_.trans (hx6_.trans (hx7_.trans (hx8_.trans (hx9_.trans hx10_)))))))) fun hI81 => ?_
                          refine rd_fld fd37_3 ?_
                          refine rd_load ty23 (at_DCode_3 hA1) (hx2_.trans (hx3_.trans (hx4_.trans (hx5_.trans (hx6_.trans (hx7_.trans (hx8_.trans (hx9_.trans hx10_)))))))) fun v83 h83 => ?_
                          refine rd_sub (by unfold I64; omega) ?_
                          refine rd_index u23 ty3 h83 (by omega) (by omega) fun b86 o86 h86 => ?_
                          refine rd_loadI ty3 h86 (hx2_.trans (hx3_.trans (hx4_.trans (hx5_.trans (hx6_.trans (hx7_.trans (hx8_.trans (hx9_.trans hx10_)))))))) fun hI87 => ?_
                          have hn86 : ((k : Int) - 1).toNat = k - 1 := by omega
                          refine rd_leq ?_
                          refine br (fun c18 => ?_) (fun c18 => ?_)
                          · refine ⟨(hx1_.trans (hx2_.trans (hx3_.trans (hx4_.trans (hx5_.trans (hx6_.trans (hx7_.trans (hx8_.trans (hx9_.trans hx10_))))))))), ?_⟩
                            rw [en_get, en_get] at c18
                            simp only [hn86] at c18
                            have : ¬ (NamesR c ∧ EntS c) := fun h => by have := (h.2.2.2.1 k (by omega)).2.1 (by omega); omega
                            simp only [this, decide_false]
                          · refine rd_fld fd37_3 ?_
                            refine rd_load ty23 (at_DCode_3 hA1) (hx2_.trans (hx3_.trans (hx4_.trans (hx5_.trans (hx6_.trans (hx7_.trans (hx8_.trans (hx9_.trans hx10_)))))))) fun v93 h93 => ?_
                            refine rd_indexN u23 ty3 h93 (by omega) fun b95 o95 h95 => ?_
                            refine rd_loadI ty3 h95 (hx2_.trans (hx3_.trans (hx4_.trans (hx5_.trans (hx6_.trans (hx7_.trans (hx8_.trans (hx9_.trans hx10_)))))))) fun hI96 => ?_
                            refine rd_fld fd37_4 ?_
                            refine rd_load ty35 (at_DCode_4 hA1) (hx2_.trans (hx3_.trans (hx4_.trans (hx5_.trans (hx6_.trans (hx7_.trans (hx8_.trans (hx9_.trans hx10_)))))))) fun v98 h98 => ?_
                            have hln99 := is_len h98
                            refine rd_len u35 h98 ?_
                            refine rd_geq ?_
                            refine br (fun c19 => ?_) (fun c19 => ?_)
                            · refine ⟨(hx1_.trans (hx2_.trans (hx3_.trans (hx4_.trans (hx5_.trans (hx6_.trans (hx7_.trans (hx8_.trans (hx9_.trans hx10_))))))))), ?_⟩
                              rw [en_get] at c19
                              have : ¬ (NamesR c ∧ EntS c) := fun h => by have := (h.2.2.2.1 k (by omega)).2.2; omega
                              simp only [this, decide_false]
                            · refine rd_inc (by omega) ?_
                              refine ⟨m4 - 1, by omega, k + 1, by omega, by simp, (hx9_.trans hx10_), ?_⟩
                              rw [en_get] at c19
                              rw [en_get, en_get] at c18
                              simp only [hn86] at c18
                              exact all_succ hent ⟨fun h => by omega, fun _ => by omega, by omega⟩
                        · refine rd_fld fd37_3 ?_
                          refine rd_load ty23 (at_DCode_3 hA1) (hx2_.trans (hx3_.trans (hx4_.trans (hx5_.trans (hx6_.trans (hx7_.trans (hx8_.trans (hx9_.trans hx10_)))))))) fun v93 h93 => ?_
                          refine rd_indexN u23 ty3 h93 (by omega) fun b95 o95 h95 => ?_
                          refine rd_loadI ty3 h95 (hx2_.trans (hx3_.trans (hx4_.trans (hx5_.trans (hx6_.trans (hx7_.trans (hx8_.trans (hx9_.trans hx10_)))))))) fun hI96 => ?_
                          refine rd_fld fd37_4 ?_
                          refine rd_load ty35 (at_DCode_4 hA1) (hx2_.trans (hx3_.trans (hx4_.trans (hx5_.trans (hx6_.trans (hx7_.trans (hx8_.trans (hx9_.trans hx10_)))))))) fun v98 h98 => ?_
                          have hln99 := is_len h98
                          refine rd_len u35 h98 ?_
                          refine rd_geq ?_
                          refine br (fun c20 => ?_) (fun c20 => ?_)
                          · refine ⟨(hx1_.trans (hx2_.trans (hx3_.trans (hx4_.trans (hx5_.trans (hx6_.trans (hx7_.trans (hx8_.trans (hx9_.trans hx10_))))))))), ?_⟩
                            exact absurd c11 (by omega)
                          · refine rd_inc (by omega) ?_
                            refine ⟨m4 - 1, by omega, k + 1, by omega, by simp, (hx9_.trans hx10_), ?_⟩
                            exact absurd c11 (by omega)
                    · refine loopC (c.ins.length) (fun k us w' => us = [.int .i64 (k : Int)] ∧ Ext w9_ w' ∧ (∀ j, j < k → ((insAt c j).op = 9 ↔ endOf c (procOf c j) = j))) (0) (by omega) ⟨by simp, Ext.refl w9_, fun i h => by omega⟩ ?_
                      rintro k m9 uu9 w11_ hk9 ⟨hu, hx11_, hinv⟩
                      simp only [List.map_cons, List.map_nil, List.cons.injEq, and_true] at hu
                      try rw [hu]
                      try clear hu
                      refine rd_fld fd37_4 ?_
                      refine rd_load ty35 (at_DCode_4 hA1) (hx2_.trans (hx3_.trans (hx4_.trans (hx5_.trans (hx6_.trans (hx7_.trans (hx8_.trans (hx9_.trans hx11_)))))))) fun v104 h104 => ?_
                      have hln105 := is_len h104
                      refine rd_len u35 h104 ?_
                      refine rd_lss ?_
                      refine br (fun c21 => ?_) (fun c21 => ?_)
                      · have hx12_ := ext_drew w11_
                        refine rd_fld fd37_4 ?_
                        refine rd_load ty35 (at_DCode_4 hA1) (hx2_.trans (hx3_.trans (hx4_.trans (hx5_.trans (hx6_.trans (hx7_.trans (hx8_.trans (hx9_.trans (hx11_.trans hx12_))))))))) fun v110 h110 => ?_
                        refine rd_indexN u35 ty135 h110 (by omega) fun b112 o112 h112 => ?_
                        refine rd_fld fd135_0 ?_
                        refine rd_loadI ty3 (at_DIns_0 h112) (hx2_.trans (hx3_.trans (hx4_.trans (hx5_.trans (hx6_.trans (hx7_.trans (hx8_.trans (hx9_.trans (hx11_.trans hx12_))))))))) fun hI114 => ?_
                        refine rd_eql ?_
                        refine rd_var hV1 (hx2_.trans (hx3_.trans (hx4_.trans (hx5_.trans (hx6_.trans (hx7_.trans (hx8_.trans (hx9_.trans (hx11_.trans hx12_))))))))) ?_
                        refine rd_var hV1 (hx2_.trans (hx3_.trans (hx4_.trans (hx5_.trans (hx6_.trans (hx7_.trans (hx8_.trans (hx9_.trans (hx11_.trans hx12_))))))))) ?_
                        have h8 : c.entry.length ≤ 8 := by
                          simp only [Bool.not_eq_false', Bool.and_eq_true, decide_eq_true_eq] at c3
                          have := c3.1
                          omega
                        refine (l08Proc_ok h0 (e0.trans (hx1_.trans (hx2_.trans (hx3_.trans (hx4_.trans (hx5_.trans (hx6_.trans (hx7_.trans (hx8_.trans (hx9_.trans (hx11_.trans hx12_)))))))))))).mono ?_
                        rintro _ w13_ ⟨hx13_, rfl⟩
                        refine ⟨hx13_, ?_⟩
                        refine (l08End_ok h0 (e0.trans (hx1_.trans (hx2_.trans (hx3_.trans (hx4_.trans (hx5_.trans (hx6_.trans (hx7_.trans (hx8_.trans (hx9_.trans (hx11_.trans (hx12_.trans hx13_)))))))))))) (by have := procOf_lt (c := c) (a := k); omega) (by have := procOf_lt (c := c) (a := k); omega) (ent_nonneg fun i hi => hent i (by omega))).mono ?_
                        rintro _ w14_ ⟨hx14_, rfl⟩
                        refine ⟨hx14_, ?_⟩
                        refine rd_eql ?_
                        refine rd_neqB u4 ?_
                        refine br (fun c22 => ?_) (fun c22 => ?_)
                        · refine ⟨(hx1_.trans (hx2_.trans (hx3_.trans (hx4_.trans (hx5_.trans (hx6_.trans (hx7_.trans (hx8_.trans (hx9_.trans (hx11_.trans (hx12_.trans (hx13_.trans hx14_)))))))))))), ?_⟩
                          rw [insAt_get] at c22
                          have : ¬ (NamesR c ∧ EntS c) := fun h => c22 (decide_eq_decide.2 (h.2.2.2.2 k (by omega)))
                          simp only [this, decide_false]
                        · refine rd_inc (by omega) ?_
                          refine ⟨m9 - 1, by omega, k + 1, by omega, by simp, (hx11_.trans (hx12_.trans (hx13_.trans hx14_))), ?_⟩
                          rw [insAt_get] at c22
                          exact all_succ hinv (decide_eq_decide.1 (Decidable.not_not.1 c22))
                      · refine ⟨(hx1_.trans (hx2_.trans (hx3_.trans (hx4_.trans (hx5_.trans (hx6_.trans (hx7_.trans (hx8_.trans (hx9_.trans hx11_))))))))), ?_⟩
                        have : NamesR c ∧ EntS c := by
                          refine ⟨⟨by simpa using c1, by simpa using c2, by simpa using c3, Decidable.not_not.1 c4, Decidable.not_not.1 c5, Decidable.not_not.1 c6, plc_iff.1 (by unfold mainS; omega)⟩, by omega, by omega, fun i hi => hent i (by omega), fun j hj => hinv j (by omega)⟩
                        simp only [this, and_self, decide_true]

def argMost (c : DCode) (op : Int) : Int := if op = 1 then c.globals.length else if op = 4 ∨ op = 5 then c.procs.length else if op = 6 ∨ op = 7 then c.locks.length else 1
/-- is an instruction right, of a procedure from b up to e? -/
def InsR (c : DCode) (a : DIns) (b e : Int) : Prop := (1 ≤ a.op ∧ a.op ≤ 9) ∧ (0 ≤ a.arg ∧ a.arg < argMost c a.op) ∧
  (if a.op = 1 ∨ a.op = 2 then termOk 6 a.term = true ∧ (∀ s ∈ readsOf a.term, s ∈ c.globals) else a.term = term0) ∧ (if a.op = 2 ∨ a.op = 3 then b ≤ a.to ∧ a.to < e else a.to = 0)
instance (c : DCode) (a : DIns) (b e : Int) : Decidable (InsR c a b e) := by unfold InsR; infer_instance
/-- spec.l08Ins -/
def F132 (a0 a1 : Value) (w : World) (R : Value → World → Prop) : Prop :=
  OP Tryz.prog (Instr.box 37 a0) w fun x2 w =>
  RD Tryz.prog (Instr.fieldAt 37 x2 4) w fun x10 =>
  RD Tryz.prog (Instr.loadAt 35 x10) w fun x11 =>
  RD Tryz.prog (Instr.indexAt 35 x11 a1) w fun x13 =>
  RD Tryz.prog (Instr.loadAt 135 x13) w fun x14 =>
  OP Tryz.prog (Instr.alloc 135 true (.tuple #[])) w fun x5 w =>
  OPU Tryz.prog (Instr.storeAt 135 x5 x14) w fun w =>
  JOIN [6] (fun J12 =>
   RD Tryz.prog (Instr.fieldAt 135 x5 0) w fun x15 =>
   RD Tryz.prog (Instr.loadAt 3 x15) w fun x16 =>
   RD Tryz.prog (bin .eql 3 (.tmp 0) (.const undef) x16 (Value.int .i64 1)) w fun x18 =>
   BR x18
    (RD Tryz.prog (Instr.fieldAt 37 x2 0) w fun x19 =>
    RD Tryz.prog (Instr.loadAt 22 x19) w fun x20 =>
    RD Tryz.prog (Builtin.len_ #[22] 3 [x20].toArray) w fun x21 =>
    RD Tryz.prog (bin .sub 3 (.tmp 0) (.const undef) x21 (Value.int .i64 1)) w fun x22 =>
    J12 [x22] w)
    (RD Tryz.prog (bin .eql 3 (.tmp 0) (.const undef) x16 (Value.int .i64 6)) w fun x24 =>
    BR x24
     (RD Tryz.prog (Instr.fieldAt 37 x2 1) w fun x26 =>
      RD Tryz.prog (Instr.loadAt 22 x26) w fun x27 =>
      RD Tryz.prog (Builtin.len_ #[22] 3 [x27].toArray) w fun x28 =>
      RD Tryz.prog (bin .sub 3 (.tmp 0) (.const undef) x28 (Value.int .i64 1)) w fun x29 =>
      J12 [x29] w)
     (RD Tryz.prog (bin .eql 3 (.tmp 0) (.const undef) x16 (Value.int .i64 7)) w fun x25 =>
     BR x25
      (RD Tryz.prog (Instr.fieldAt 37 x2 1) w fun x26 =>
      RD Tryz.prog (Instr.loadAt 22 x26) w fun x27 =>
      RD Tryz.prog (Builtin.len_ #[22] 3 [x27].toArray) w fun x28 =>
      RD Tryz.prog (bin .sub 3 (.tmp 0) (.const undef) x28 (Value.int .i64 1)) w fun x29 =>
      J12 [x29] w)
      (RD Tryz.prog (bin .eql 3 (.tmp 0) (.const undef) x16 (Value.int .i64 4)) w fun x31 =>
      BR x31
       (RD Tryz.prog (Instr.fieldAt 37 x2 2) w fun x33 =>
        RD Tryz.prog (Instr.loadAt 22 x33) w fun x34 =>
        RD Tryz.prog (Builtin.len_ #[22] 3 [x34].toArray) w fun x35 =>
        RD Tryz.prog (bin .sub 3 (.tmp 0) (.const undef) x35 (Value.int .i64 1)) w fun x36 =>
        J12 [x36] w)
       (RD Tryz.prog (bin .eql 3 (.tmp 0) (.const undef) x16 (Value.int .i64 5)) w fun x32 =>
       BR x32
        (RD Tryz.prog (Instr.fieldAt 37 x2 2) w fun x33 =>
        RD Tryz.prog (Instr.loadAt 22 x33) w fun x34 =>
        RD Tryz.prog (Builtin.len_ #[22] 3 [x34].toArray) w fun x35 =>
        RD Tryz.prog (bin .sub 3 (.tmp 0) (.const undef) x35 (Value.int .i64 1)) w fun x36 =>
        J12 [x36] w)
        (J12 [(Value.int .i64 0)] w)))))) (fun u12 w =>
   RD Tryz.prog (Instr.fieldAt 135 x5 0) w fun x37 =>
   RD Tryz.prog (Instr.loadAt 3 x37) w fun x38 =>
   CALL Tryz.prog 156 [x38, (Value.int .i64 1), (Value.int .i64 9)] w fun x39 w =>
   RD Tryz.prog (Op.unary .not x39) w fun x40 =>
   BR x40
   (R (Value.bool false) w)
   (RD Tryz.prog (Instr.fieldAt 135 x5 1) w fun x42 =>
   RD Tryz.prog (Instr.loadAt 3 x42) w fun x43 =>
   CALL Tryz.prog 156 [x43, (Value.int .i64 0), (u12 6)] w fun x45 w =>
   RD Tryz.prog (Op.unary .not x45) w fun x46 =>
   BR x46
    (R (Value.bool false) w)
    (JOIN [] (fun J25 =>
     RD Tryz.prog (Instr.fieldAt 135 x5 0) w fun x48 =>
     RD Tryz.prog (Instr.loadAt 3 x48) w fun x49 =>
     RD Tryz.prog (bin .eql 3 (.tmp 0) (.const undef) x49 (Value.int .i64 1)) w fun x50 =>
     BR x50
     (RD Tryz.prog (Instr.fieldAt 135 x5 2) w fun x56 =>
      RD Tryz.prog (Instr.loadAt 133 x56) w fun x57 =>
      CALL Tryz.prog 192 [x57] w fun x58 w =>
      RD Tryz.prog (Op.unary .not x58) w fun x59 =>
      BR x59
       (R (Value.bool false) w)
       (RD Tryz.prog (Instr.fieldAt 135 x5 2) w fun x60 =>
       RD Tryz.prog (Instr.loadAt 133 x60) w fun x61 =>
       CALL Tryz.prog 203 [x61] w fun x62 w =>
       LOOPI [8] [(Value.int .i64 0)] w fun u19 w next19 =>
        RD Tryz.prog (Builtin.len_ #[22] 3 [x62].toArray) w fun x65 =>
        RD Tryz.prog (bin .lss 3 (.tmp 0) (.tmp 0) (u19 8) x65) w fun x66 =>
        BR x66
         ((fun w => RD Tryz.prog (Instr.fieldAt 37 x2 0) w fun x69 =>
         RD Tryz.prog (Instr.loadAt 22 x69) w fun x70 =>
         RD Tryz.prog (Instr.indexAt 22 x62 (u19 8)) w fun x73 =>
         RD Tryz.prog (Instr.loadAt 9 x73) w fun x74 =>
         CALL Tryz.prog 201 [x70, x74] w fun x75 w =>
         RD Tryz.prog (bin .lss 3 (.tmp 0) (.const undef) x75 (Value.int .i64 0)) w fun x76 =>
         BR x76
          (R (Value.bool false) w)
          (RD Tryz.prog (bin .add 3 (.tmp 0) (.const undef) (u19 8) (Value.int .i64 1)) w fun x68 =>
          next19 [x68] w)) (World.drew1 w))
         (J25 [] w)))
     (RD Tryz.prog (Instr.fieldAt 135 x5 0) w fun x52 =>
     RD Tryz.prog (Instr.loadAt 3 x52) w fun x53 =>
     RD Tryz.prog (bin .eql 3 (.tmp 0) (.const undef) x53 (Value.int .i64 2)) w fun x54 =>
     BR x54
      (RD Tryz.prog (Instr.fieldAt 135 x5 2) w fun x56 =>
      RD Tryz.prog (Instr.loadAt 133 x56) w fun x57 =>
      CALL Tryz.prog 192 [x57] w fun x58 w =>
      RD Tryz.prog (Op.unary .not x58) w fun x59 =>
      BR x59
       (R (Value.bool false) w)
       (RD Tryz.prog (Instr.fieldAt 135 x5 2) w fun x60 =>
       RD Tryz.prog (Instr.loadAt 133 x60) w fun x61 =>
       CALL Tryz.prog 203 [x61] w fun x62 w =>
       LOOPI [8] [(Value.int .i64 0)] w fun u19 w next19 =>
        RD Tryz.prog (Builtin.len_ #[22] 3 [x62].toArray) w fun x65 =>
        RD Tryz.prog (bin .lss 3 (.tmp 0) (.tmp 0) (u19 8) x65) w fun x66 =>
        BR x66
         ((fun w => RD Tryz.prog (Instr.fieldAt 37 x2 0) w fun x69 =>
         RD Tryz.prog (Instr.loadAt 22 x69) w fun x70 =>
         RD Tryz.prog (Instr.indexAt 22 x62 (u19 8)) w fun x73 =>
         RD Tryz.prog (Instr.loadAt 9 x73) w fun x74 =>
         CALL Tryz.prog 201 [x70, x74] w fun x75 w =>
         RD Tryz.prog (bin .lss 3 (.tmp 0) (.const undef) x75 (Value.int .i64 0)) w fun x76 =>
         BR x76
          (R (Value.bool false) w)
          (RD Tryz.prog (bin .add 3 (.tmp 0) (.const undef) (u19 8) (Value.int .i64 1)) w fun x68 =>
          next19 [x68] w)) (World.drew1 w))
         (J25 [] w)))
      (RD Tryz.prog (Instr.fieldAt 135 x5 2) w fun x77 =>
      RD Tryz.prog (Instr.loadAt 133 x77) w fun x78 =>
      RD Tryz.prog (Instr.build 133 #[]) w fun x79 =>
      CALL Tryz.prog 204 [x78, x79] w fun x80 w =>
      RD Tryz.prog (Op.unary .not x80) w fun x81 =>
      BR x81
       (R (Value.bool false) w)
       (J25 [] w)))) (fun u25 w =>
     JOIN [] (fun J27 =>
      RD Tryz.prog (Instr.fieldAt 135 x5 0) w fun x82 =>
      RD Tryz.prog (Instr.loadAt 3 x82) w fun x83 =>
      RD Tryz.prog (bin .neq 3 (.tmp 0) (.const undef) x83 (Value.int .i64 2)) w fun x84 =>
      BR x84
      (RD Tryz.prog (Instr.fieldAt 135 x5 0) w fun x86 =>
      RD Tryz.prog (Instr.loadAt 3 x86) w fun x87 =>
      RD Tryz.prog (bin .neq 3 (.tmp 0) (.const undef) x87 (Value.int .i64 3)) w fun x88 =>
      BR x88
       (RD Tryz.prog (Instr.fieldAt 135 x5 3) w fun x90 =>
       RD Tryz.prog (Instr.loadAt 3 x90) w fun x91 =>
       RD Tryz.prog (bin .eql 3 (.tmp 0) (.const undef) x91 (Value.int .i64 0)) w fun x92 =>
       R x92 w)
       (J27 [] w))
      (J27 [] w)) (fun u27 w =>
      RD Tryz.prog (Instr.loadAt 37 x2) w fun x93 =>
      CALL Tryz.prog 202 [x93, a1] w fun x95 w =>
      (fun w => RD Tryz.prog (Instr.fieldAt 135 x5 3) w fun x96 =>
      RD Tryz.prog (Instr.loadAt 3 x96) w fun x97 =>
      RD Tryz.prog (Instr.fieldAt 37 x2 3) w fun x98 =>
      RD Tryz.prog (Instr.loadAt 23 x98) w fun x99 =>
      RD Tryz.prog (Instr.indexAt 23 x99 x95) w fun x101 =>
      RD Tryz.prog (Instr.loadAt 3 x101) w fun x102 =>
      RD Tryz.prog (Instr.loadAt 37 x2) w fun x103 =>
      (fun w_ => CALL Tryz.prog 150 [x103, x95] w_ fun x105 w =>
      Ext w_ w ∧
      CALL Tryz.prog 156 [x97, x102, x105] w fun x106 w =>
      R x106 w) w) (World.drew1 w))))))
def cfg132 : Cfg := { ext := extL, joins := [(12, 137438920768, [6]), (25, 4835703278177041722114448, []), (27, 9898684611004583682494169104, [])], loops := [(19, 151106504079791792062736, [8])], draws := [(21, [0, 1, 2, 3, 4, 5, 6, 7], 0), (28, [0, 1, 2, 3, 4, 5, 6, 7, 8, 9, 10, 11], 512)], pars := [] }
theorem F132_eq (a0 a1 : Value) (w : World) (R : Value → World → Prop) : vcF Tryz.prog cfg132 Tryz.f132 [a0, a1] w R = F132 a0 a1 w R := by kernel_rfl
theorem F132_call {a0 a1 : Value} {w : World} {R : Value → World → Prop} (h : F132 a0 a1 w R) : CALL Tryz.prog 132 [a0, a1] w R :=
  call_of (g := cfg132) ent mixed Tryz.func132 (Nat.le_of_ble_eq_true (by kernel_rfl)) (by kernel_rfl) (F132_eq a0 a1 w R ▸ h)


theorem l08Ins_ok {w : World} {v0 : Value} {W0 : World} {c : DCode} {j : Nat}  (h0 : Is W0 v0 c) (e0 : Ext W0 w) (hj : j < c.ins.length) (hE : ∀ i, i < c.entry.length → 0 ≤ en c i) (h8 : c.entry.length ≤ 8) (hp : 0 ≤ procOf c j) :
    CALL Tryz.prog 132 [v0, .int .i64 (j : Int)] w fun r w' => Ext w w' ∧ (r = .bool (decide (InsR c (insAt c j) (en c (procOf c j).toNat) (endOf c (procOf c j) + 1)))) := by
  refine F132_call ?_
  unfold F132
  have hpl := procOf_lt (c := c) (a := j)
  refine op_boxS ty37 rfl h0 e0 fun w1_ hx1_ hA2 hV2 => ?_
  refine rd_fld fd37_4 ?_
  refine rd_load ty35 (at_DCode_4 hA2) (Ext.refl w1_) fun v11 h11 => ?_
  refine rd_indexN u35 ty135 h11 (by omega) fun b13 o13 h13 => ?_
  refine rd_load ty135 h13 (Ext.refl w1_) fun v14 h14 => ?_
  rw [insAt_get] at h14
  obtain ⟨a, ha⟩ : ∃ a, a = insAt c j := ⟨_, rfl⟩
  rw [← ha] at h14 ⊢
  refine op_var zl135 rfl ty135 rfl h14 (Ext.refl w1_) fun w2_ hx2_ hA5 hV5 => ?_
  refine JOIN.mk (fun us w' => us = [.int .i64 (argMost c a.op - 1)] ∧ Ext w2_ w' ∧ (True)) ?_ ?_
  · refine rd_fld fd135_0 ?_
    refine rd_loadI ty3 (at_DIns_0 hA5) (Ext.refl w2_) fun hI16 => ?_
    refine rd_eql ?_
    refine br (fun c1 => ?_) (fun c1 => ?_)
    · refine rd_fld fd37_0 ?_
      refine rd_load ty22 (at_DCode_0 hA2) hx2_ fun v20 h20 => ?_
      have hln21 := is_len h20
      refine rd_len u22 h20 ?_
      refine rd_sub (by unfold I64; have := is_len h20; omega) ?_
      refine ⟨by unfold argMost; rw [if_pos c1], Ext.refl w2_, ?_⟩
      trivial
    · refine rd_eql ?_
      refine br (fun c2 => ?_) (fun c2 => ?_)
      · refine rd_fld fd37_1 ?_
        refine rd_load ty22 (at_DCode_1 hA2) hx2_ fun v27 h27 => ?_
        have hln28 := is_len h27
        refine rd_len u22 h27 ?_
        refine rd_sub (by unfold I64; have := is_len h27; omega) ?_
        refine ⟨by unfold argMost; rw [if_neg (by omega), if_neg (by omega), if_pos (by omega)], Ext.refl w2_, ?_⟩
        trivial
      · refine rd_eql ?_
        refine br (fun c3 => ?_) (fun c3 => ?_)
        · refine rd_fld fd37_1 ?_
          refine rd_load ty22 (at_DCode_1 hA2) hx2_ fun v27 h27 => ?_
          have hln28 := is_len h27
          refine rd_len u22 h27 ?_
          refine rd_sub (by unfold I64; have := is_len h27; omega) ?_
          refine ⟨by unfold argMost; rw [if_neg (by omega), if_neg (by omega), if_pos (by omega)], Ext.refl w2_, ?_⟩
          trivial
        · refine rd_eql ?_
          refine br (fun c4 => ?_) (fun c4 => ?_)
          · refine rd_fld fd37_2 ?_
            refine rd_load ty22 (at_DCode_2 hA2) hx2_ fun v34 h34 => ?_
            have hln35 := is_len h34
            refine rd_len u22 h34 ?_
            refine rd_sub (by unfold I64; have := is_len h34; omega) ?_
            refine ⟨by unfold argMost; rw [if_neg (by omega), if_pos (by omega)], Ext.refl w2_, ?_⟩
            trivial
          · refine rd_eql ?_
            refine br (fun c5 => ?_) (fun c5 => ?_)
            · refine rd_fld fd37_2 ?_
              refine rd_load ty22 (at_DCode_2 hA2) hx2_ fun v34 h34 => ?_
              have hln35 := is_len h34
              refine rd_len u22 h34 ?_
              refine rd_sub (by unfold I64; have := is_len h34; omega) ?_
              refine ⟨by unfold argMost; rw [if_neg (by omega), if_pos (by omega)], Ext.refl w2_, ?_⟩
              trivial
            · refine ⟨by unfold argMost; rw [if_neg (by omega), if_neg (by omega), if_neg (by omega)]; rfl, Ext.refl w2_, ?_⟩
              trivial
  · rintro uj12 w3_ ⟨hu, hx3_, hinv⟩
    simp only [List.map_cons, List.map_nil, List.cons.injEq, and_true] at hu
    try rw [hu]
    try clear hu
    refine rd_fld fd135_0 ?_
    refine rd_loadI ty3 (at_DIns_0 hA5) hx3_ fun hI38 => ?_
    refine (l01In_ok ).mono ?_
    rintro _ w4_ ⟨hx4_, rfl⟩
    refine rd_nodec ?_
    refine br (fun c6 => ?_) (fun c6 => ?_)
    · refine ⟨(hx1_.trans (hx2_.trans (hx3_.trans hx4_))), ?_⟩
      have : ¬ InsR c a (en c (procOf c j).toNat) (endOf c (procOf c j) + 1) := fun h => c6 h.1
      simp only [this, decide_false]
    · refine rd_fld fd135_1 ?_
      refine rd_loadI ty3 (at_DIns_1 hA5) (hx3_.trans hx4_) fun hI43 => ?_
      refine (l01In_ok ).mono ?_
      rintro _ w5_ ⟨hx5_, rfl⟩
      refine rd_nodec ?_
      refine br (fun c7 => ?_) (fun c7 => ?_)
      · refine ⟨(hx1_.trans (hx2_.trans (hx3_.trans (hx4_.trans hx5_)))), ?_⟩
        have : ¬ InsR c a (en c (procOf c j).toNat) (endOf c (procOf c j) + 1) := fun h => c7 (by have := h.2.1; omega)
        simp only [this, decide_false]
      · refine JOIN.mk (fun us w' => us = [] ∧ Ext w5_ w' ∧ (if a.op = 1 ∨ a.op = 2 then termOk 6 a.term = true ∧ (∀ s ∈ readsOf a.term, s ∈ c.globals) else a.term = term0)) ?_ ?_
        · refine rd_fld fd135_0 ?_
          refine rd_loadI ty3 (at_DIns_0 hA5) (hx3_.trans (hx4_.trans hx5_)) fun hI49 => ?_
          refine rd_eql ?_
          refine br (fun c8 => ?_) (fun c8 => ?_)
          · refine rd_fld fd135_2 ?_
            refine rd_load ty133 (at_DIns_2 hA5) (hx3_.trans (hx4_.trans hx5_)) fun v57 h57 => ?_
            refine (specTermOk_ok h57 (hx3_.trans (hx4_.trans hx5_))).mono ?_
            rintro _ w7_ ⟨hx7_, rfl⟩
            refine rd_not ?_
            refine br_b (fun c9 => ?_) (fun c9 => ?_)
            · refine ⟨(hx1_.trans (hx2_.trans (hx3_.trans (hx4_.trans (hx5_.trans hx7_))))), ?_⟩
              have : ¬ InsR c a (en c (procOf c j).toNat) (endOf c (procOf c j) + 1) := fun h => by have := h.2.2.1; rw [if_pos (.inl c8)] at this; rw [this.1] at c9; cases c9
              simp only [this, decide_false]
            · refine rd_fld fd135_2 ?_
              refine rd_load ty133 (at_DIns_2 hA5) (hx3_.trans (hx4_.trans (hx5_.trans hx7_))) fun v61 h61 => ?_
              refine (specReadsOf_ok h61 (hx3_.trans (hx4_.trans (hx5_.trans hx7_)))).mono ?_
              rintro r62 w8_ ⟨hx8_, h62⟩
              refine loopC ((readsOf a.term).length) (fun k us w' => us = [.int .i64 (k : Int)] ∧ Ext w8_ w' ∧ (∀ s ∈ (readsOf a.term).take k, s ∈ c.globals)) (0) (by omega) ⟨by simp, Ext.refl w8_, by simp⟩ ?_
              rintro k m19 uu19 w9_ hk19 ⟨hu, hx9_, hinv⟩
              simp only [List.map_cons, List.map_nil, List.cons.injEq, and_true] at hu
              try rw [hu]
              try clear hu
              have hln65 := is_len h62
              refine rd_len u22 h62 ?_
              refine rd_lss ?_
              refine br (fun c10 => ?_) (fun c10 => ?_)
              · have hx10_ := ext_drew w9_
                refine rd_fld fd37_0 ?_
                refine rd_load ty22 (at_DCode_0 hA2) (hx2_.trans (hx3_.trans (hx4_.trans (hx5_.trans (hx7_.trans (hx8_.trans (hx9_.trans hx10_))))))) fun v70 h70 => ?_
                refine rd_indexN u22 ty9 h62 (by omega) fun b73 o73 h73 => ?_
                refine rd_loadS ty9 h73 (hx9_.trans hx10_) fun hS74 => ?_
                refine (specPlaceOf_ok h70 (hx2_.trans (hx3_.trans (hx4_.trans (hx5_.trans (hx7_.trans (hx8_.trans (hx9_.trans hx10_)))))))).mono ?_
                rintro _ w11_ ⟨hx11_, rfl⟩
                refine rd_lss ?_
                refine br (fun c11 => ?_) (fun c11 => ?_)
                · refine ⟨(hx1_.trans (hx2_.trans (hx3_.trans (hx4_.trans (hx5_.trans (hx7_.trans (hx8_.trans (hx9_.trans (hx10_.trans hx11_))))))))), ?_⟩
                  have : ¬ InsR c a (en c (procOf c j).toNat) (endOf c (procOf c j) + 1) := fun h => by
                    have := h.2.2.1; rw [if_pos (.inl c8)] at this
                    have := plc_iff.2 (this.2 _ (List.getElem_mem (n := k) (by omega))); omega
                  simp only [this, decide_false]
                · refine rd_inc (by omega) ?_
                  refine ⟨m19 - 1, by omega, k + 1, by omega, by simp, (hx9_.trans (hx10_.trans hx11_)), ?_⟩
                  intro s hs
                  rw [List.take_succ_eq_append_getElem (by omega)] at hs
                  rcases List.mem_append.1 hs with hs | hs
                  · exact hinv s hs
                  · simp only [List.mem_cons, List.not_mem_nil, or_false] at hs
                    subst hs
                    exact plc_iff.1 (by omega)
              · refine ⟨by simp, (hx7_.trans (hx8_.trans hx9_)), ?_⟩
                rw [if_pos (.inl c8)]
                rw [List.take_of_length_le (by omega)] at hinv
                exact ⟨by simpa using c9, hinv⟩
          · refine rd_fld fd135_0 ?_
            refine rd_loadI ty3 (at_DIns_0 hA5) (hx3_.trans (hx4_.trans hx5_)) fun hI53 => ?_
            refine rd_eql ?_
            refine br (fun c12 => ?_) (fun c12 => ?_)
            · refine rd_fld fd135_2 ?_
              refine rd_load ty133 (at_DIns_2 hA5) (hx3_.trans (hx4_.trans hx5_)) fun v57 h57 => ?_
              refine (specTermOk_ok h57 (hx3_.trans (hx4_.trans hx5_))).mono ?_
              rintro _ w12_ ⟨hx12_, rfl⟩
              refine rd_not ?_
              refine br_b (fun c13 => ?_) (fun c13 => ?_)
              · refine ⟨(hx1_.trans (hx2_.trans (hx3_.trans (hx4_.trans (hx5_.trans hx12_))))), ?_⟩
                have : ¬ InsR c a (en c (procOf c j).toNat) (endOf c (procOf c j) + 1) := fun h => by have := h.2.2.1; rw [if_pos (.inr c12)] at this; rw [this.1] at c13; cases c13
                simp only [this, decide_false]
              · refine rd_fld fd135_2 ?_
                refine rd_load ty133 (at_DIns_2 hA5) (hx3_.trans (hx4_.trans (hx5_.trans hx12_))) fun v61 h61 => ?_
                refine (specReadsOf_ok h61 (hx3_.trans (hx4_.trans (hx5_.trans hx12_)))).mono ?_
                rintro r62 w13_ ⟨hx13_, h62⟩
                refine loopC ((readsOf a.term).length) (fun k us w' => us = [.int .i64 (k : Int)] ∧ Ext w13_ w' ∧ (∀ s ∈ (readsOf a.term).take k, s ∈ c.globals)) (0) (by omega) ⟨by simp, Ext.refl w13_, by simp⟩ ?_
                rintro k m19 uu19 w14_ hk19 ⟨hu, hx14_, hinv⟩
                simp only [List.map_cons, List.map_nil, List.cons.injEq, and_true] at hu
                try rw [hu]
                try clear hu
                have hln65 := is_len h62
                refine rd_len u22 h62 ?_
                refine rd_lss ?_
                refine br (fun c14 => ?_) (fun c14 => ?_)
                · have hx15_ := ext_drew w14_
                  refine rd_fld fd37_0 ?_
                  refine rd_load ty22 (at_DCode_0 hA2) (hx2_.trans (hx3_.trans (hx4_.trans (hx5_.trans (hx12_.trans (hx13_.trans (hx14_.trans hx15_))))))) fun v70 h70 => ?_
                  refine rd_indexN u22 ty9 h62 (by omega) fun b73 o73 h73 => ?_
                  refine rd_loadS ty9 h73 (hx14_.trans hx15_) fun hS74 => ?_
                  refine (specPlaceOf_ok h70 (hx2_.trans (hx3_.trans (hx4_.trans (hx5_.trans (hx12_.trans (hx13_.trans (hx14_.trans hx15_)))))))).mono ?_
                  rintro _ w16_ ⟨hx16_, rfl⟩
                  refine rd_lss ?_
                  refine br (fun c15 => ?_) (fun c15 => ?_)
                  · refine ⟨(hx1_.trans (hx2_.trans (hx3_.trans (hx4_.trans (hx5_.trans (hx12_.trans (hx13_.trans (hx14_.trans (hx15_.trans hx16_))))))))), ?_⟩
                    have : ¬ InsR c a (en c (procOf c j).toNat) (endOf c (procOf c j) + 1) := fun h => by
                      have := h.2.2.1; rw [if_pos (.inr c12)] at this
                      have := plc_iff.2 (this.2 _ (List.getElem_mem (n := k) (by omega))); omega
                    simp only [this, decide_false]
                  · refine rd_inc (by omega) ?_
                    refine ⟨m19 - 1, by omega, k + 1, by omega, by simp, (hx14_.trans (hx15_.trans hx16_)), ?_⟩
                    intro s hs
                    rw [List.take_succ_eq_append_getElem (by omega)] at hs
                    rcases List.mem_append.1 hs with hs | hs
                    · exact hinv s hs
                    · simp only [List.mem_cons, List.not_mem_nil, or_false] at hs
                      subst hs
                      exact plc_iff.1 (by omega)
                · refine ⟨by simp, (hx12_.trans (hx13_.trans hx14_)), ?_⟩
                  rw [if_pos (.inr c12)]
                  rw [List.take_of_length_le (by omega)] at hinv
                  exact ⟨by simpa using c13, hinv⟩
            · refine rd_fld fd135_2 ?_
              refine rd_load ty133 (at_DIns_2 hA5) (hx3_.trans (hx4_.trans hx5_)) fun v78 h78 => ?_
              refine rd_buildZ (α := DTerm) us133 zl133 (by kernel_rfl) rfl fun v79 h79 => ?_
              refine (sameTerm0_ok h78 (hx3_.trans (hx4_.trans hx5_)) h79 (Ext.refl w5_) rfl).mono ?_
              rintro _ w17_ ⟨hx17_, rfl⟩
              refine rd_nodec ?_
              refine br (fun c16 => ?_) (fun c16 => ?_)
              · refine ⟨(hx1_.trans (hx2_.trans (hx3_.trans (hx4_.trans (hx5_.trans hx17_))))), ?_⟩
                have : ¬ InsR c a (en c (procOf c j).toNat) (endOf c (procOf c j) + 1) := fun h => by have := h.2.2.1; rw [if_neg (by omega)] at this; exact c16 this
                simp only [this, decide_false]
              · refine ⟨by simp, hx17_, ?_⟩
                rw [if_neg (by omega)]
                exact Decidable.not_not.1 c16
        · rintro uj25 w6_ ⟨hu, hx17_, hT⟩
          simp only [List.map_cons, List.map_nil, List.cons.injEq, and_true] at hu
          clear hu
          refine JOIN.mk (fun us w' => us = [] ∧ Ext w6_ w' ∧ (a.op = 2 ∨ a.op = 3)) ?_ ?_
          · refine rd_fld fd135_0 ?_
            refine rd_loadI ty3 (at_DIns_0 hA5) (hx3_.trans (hx4_.trans (hx5_.trans hx17_))) fun hI83 => ?_
            refine rd_neq ?_
            refine br (fun c17 => ?_) (fun c17 => ?_)
            · refine rd_fld fd135_0 ?_
              refine rd_loadI ty3 (at_DIns_0 hA5) (hx3_.trans (hx4_.trans (hx5_.trans hx17_))) fun hI87 => ?_
              refine rd_neq ?_
              refine br (fun c18 => ?_) (fun c18 => ?_)
              · refine rd_fld fd135_3 ?_
                refine rd_loadI ty3 (at_DIns_3 hA5) (hx3_.trans (hx4_.trans (hx5_.trans hx17_))) fun hI91 => ?_
                refine rd_eql ?_
                refine ⟨(hx1_.trans (hx2_.trans (hx3_.trans (hx4_.trans (hx5_.trans hx17_))))), ?_⟩
                congr 1
                rw [decide_eq_decide]
                constructor
                · exact fun h => ⟨Decidable.not_not.1 c6, by omega, hT, by rw [if_neg (by omega)]; exact h⟩
                · intro h; have := h.2.2.2; rw [if_neg (by omega)] at this; exact this
              · refine ⟨by simp, Ext.refl w6_, ?_⟩
                omega
            · refine ⟨by simp, Ext.refl w6_, ?_⟩
              omega
          · rintro uj27 w18_ ⟨hu, hx18_, hop⟩
            simp only [List.map_cons, List.map_nil, List.cons.injEq, and_true] at hu
            clear hu
            refine rd_var hV2 (hx2_.trans (hx3_.trans (hx4_.trans (hx5_.trans (hx17_.trans hx18_))))) ?_
            refine (l08Proc_ok h0 (e0.trans (hx1_.trans (hx2_.trans (hx3_.trans (hx4_.trans (hx5_.trans (hx17_.trans hx18_)))))))).mono ?_
            rintro _ w19_ ⟨hx19_, rfl⟩
            have hx20_ := ext_drew w19_
            refine rd_fld fd135_3 ?_
            refine rd_loadI ty3 (at_DIns_3 hA5) (hx3_.trans (hx4_.trans (hx5_.trans (hx17_.trans (hx18_.trans (hx19_.trans hx20_)))))) fun hI97 => ?_
            refine rd_fld fd37_3 ?_
            refine rd_load ty23 (at_DCode_3 hA2) (hx2_.trans (hx3_.trans (hx4_.trans (hx5_.trans (hx17_.trans (hx18_.trans (hx19_.trans hx20_))))))) fun v99 h99 => ?_
            refine rd_index u23 ty3 h99 (by omega) (by omega) fun b101 o101 h101 => ?_
            refine rd_loadI ty3 h101 (hx2_.trans (hx3_.trans (hx4_.trans (hx5_.trans (hx17_.trans (hx18_.trans (hx19_.trans hx20_))))))) fun hI102 => ?_
            refine rd_var hV2 (hx2_.trans (hx3_.trans (hx4_.trans (hx5_.trans (hx17_.trans (hx18_.trans (hx19_.trans hx20_))))))) ?_
            refine (l08End_ok h0 (e0.trans (hx1_.trans (hx2_.trans (hx3_.trans (hx4_.trans (hx5_.trans (hx17_.trans (hx18_.trans (hx19_.trans hx20_))))))))) (by omega) (by omega) (by assumption)).mono ?_
            rintro _ w21_ ⟨hx21_, rfl⟩
            refine ⟨hx21_, ?_⟩
            refine (l01In_ok ).mono ?_
            rintro _ w22_ ⟨hx22_, rfl⟩
            refine ⟨(hx1_.trans (hx2_.trans (hx3_.trans (hx4_.trans (hx5_.trans (hx17_.trans (hx18_.trans (hx19_.trans (hx20_.trans (hx21_.trans hx22_)))))))))), ?_⟩
            congr 1
            rw [decide_eq_decide, en_get]
            constructor
            · exact fun h => ⟨Decidable.not_not.1 c6, by omega, hT, by rw [if_pos hop]; omega⟩
            · intro h; have := h.2.2.2; rw [if_pos hop] at this; omega

/-- is code right? -/
def CodeR (c : DCode) : Prop := NamesR c ∧ EntS c ∧ ∀ j, j < c.ins.length → InsR c (insAt c j) (en c (procOf c j).toNat) (endOf c (procOf c j) + 1)
instance (c : DCode) : Decidable (CodeR c) := by unfold CodeR; infer_instance
theorem EntS.nonneg {c : DCode} (h : EntS c) : ∀ i, i < c.entry.length → 0 ≤ en c i := ent_nonneg h.2.2.1
theorem NamesR.procs8 {c : DCode} (h : NamesR c) : c.procs.length ≤ 8 ∧ 0 < c.procs.length := by
  have h1 := h.2.2.1
  simp only [Bool.and_eq_true, decide_eq_true_eq] at h1
  have h2 := List.length_pos_of_mem h.2.2.2.2.2.2
  omega
theorem prc_nonneg {c : DCode} {a : Int} (h0 : en c 0 ≤ a) : ∀ {n : Nat}, 0 < n → 0 ≤ prc c a n
  | 1, _ => by rw [prc, if_pos h0]; omega
  | n + 2, _ => by
    rw [prc]
    split
    · omega
    · exact prc_nonneg h0 (by omega)
theorem procOf_nonneg {c : DCode} (hn : NamesR c) (h : EntS c) {a : Int} (ha : 0 ≤ a) : 0 ≤ procOf c a := by
  have h1 := hn.procs8
  have h2 := h.1
  exact prc_nonneg (by have := (h.2.2.1 0 (by omega)).1 rfl; omega) (by omega)
/-- spec.CodeOk -/
def F79 (a0 : Value) (w : World) (R : Value → World → Prop) : Prop :=
  OP Tryz.prog (Instr.box 37 a0) w fun x1 w =>
  RD Tryz.prog (Instr.loadAt 37 x1) w fun x4 =>
  CALL Tryz.prog 131 [x4] w fun x5 w =>
  RD Tryz.prog (Op.unary .not x5) w fun x6 =>
  BR x6
   (R (Value.bool false) w)
   (LOOPI [3] [(Value.int .i64 0)] w fun u4 w next4 =>
    RD Tryz.prog (Instr.fieldAt 37 x1 4) w fun x8 =>
    RD Tryz.prog (Instr.loadAt 35 x8) w fun x9 =>
    RD Tryz.prog (Builtin.len_ #[35] 3 [x9].toArray) w fun x10 =>
    RD Tryz.prog (bin .lss 3 (.tmp 0) (.tmp 0) (u4 3) x10) w fun x11 =>
    BR x11
     (RD Tryz.prog (Instr.loadAt 37 x1) w fun x14 =>
     CALL Tryz.prog 132 [x14, (u4 3)] w fun x16 w =>
     RD Tryz.prog (Op.unary .not x16) w fun x17 =>
     BR x17
      (R (Value.bool false) w)
      (RD Tryz.prog (bin .add 3 (.tmp 0) (.const undef) (u4 3) (Value.int .i64 1)) w fun x13 =>
      next4 [x13] w))
     (R (Value.bool true) w))
def cfg79 : Cfg := { ext := extL, joins := [], loops := [(4, 262028, [3])], draws := [], pars := [] }
theorem F79_eq (a0 : Value) (w : World) (R : Value → World → Prop) : vcF Tryz.prog cfg79 Tryz.f79 [a0] w R = F79 a0 w R := by kernel_rfl
theorem F79_call {a0 : Value} {w : World} {R : Value → World → Prop} (h : F79 a0 w R) : CALL Tryz.prog 79 [a0] w R :=
  call_of (g := cfg79) ent mixed Tryz.func79 (Nat.le_of_ble_eq_true (by kernel_rfl)) (by kernel_rfl) (F79_eq a0 w R ▸ h)


theorem specCodeOk_ok {w : World} {v0 : Value} {W0 : World} {c : DCode}  (h0 : Is W0 v0 c) (e0 : Ext W0 w)  :
    CALL Tryz.prog 79 [v0] w fun r w' => Ext w w' ∧ (r = .bool (decide (CodeR c))) := by
  refine F79_call ?_
  unfold F79
  refine op_boxS ty37 rfl h0 e0 fun w1_ hx1_ hA1 hV1 => ?_
  refine rd_var hV1 (Ext.refl w1_) ?_
  refine (l08Heads_ok h0 (e0.trans hx1_)).mono ?_
  rintro _ w2_ ⟨hx2_, rfl⟩
  skip
  refine rd_nodec ?_
  refine br (fun c1 => ?_) (fun c1 => ?_)
  · refine ⟨(hx1_.trans hx2_), ?_⟩
    have : ¬ CodeR c := fun h => c1 ⟨h.1, h.2.1⟩
    simp only [this, decide_false]
  · refine loopC (c.ins.length) (fun k us w' => us = [.int .i64 (k : Int)] ∧ Ext w2_ w' ∧ (∀ j, j < k → InsR c (insAt c j) (en c (procOf c j).toNat) (endOf c (procOf c j) + 1))) (0) (by omega) ⟨by simp, Ext.refl w2_, fun i h => by omega⟩ ?_
    rintro k m4 uu4 w3_ hk4 ⟨hu, hx3_, hinv⟩
    simp only [List.map_cons, List.map_nil, List.cons.injEq, and_true] at hu
    try rw [hu]
    try clear hu
    replace c1 := Decidable.not_not.1 c1
    refine rd_fld fd37_4 ?_
    refine rd_load ty35 (at_DCode_4 hA1) (hx2_.trans hx3_) fun v9 h9 => ?_
    have hln10 := is_len h9
    refine rd_len u35 h9 ?_
    refine rd_lss ?_
    refine br (fun c2 => ?_) (fun c2 => ?_)
    · refine rd_var hV1 (hx2_.trans hx3_) ?_
      refine (l08Ins_ok h0 (e0.trans (hx1_.trans (hx2_.trans hx3_))) (by omega) c1.2.nonneg (by have := c1.1.procs8; have := c1.2.1; omega) (procOf_nonneg c1.1 c1.2 (by omega))).mono ?_
      rintro _ w4_ ⟨hx4_, rfl⟩
      refine rd_nodec ?_
      refine br (fun c3 => ?_) (fun c3 => ?_)
      · refine ⟨(hx1_.trans (hx2_.trans (hx3_.trans hx4_))), ?_⟩
        have : ¬ CodeR c := fun h => c3 (h.2.2 k (by omega))
        simp only [this, decide_false]
      · refine rd_inc (by omega) ?_
        refine ⟨m4 - 1, by omega, k + 1, by omega, by simp, (hx3_.trans hx4_), ?_⟩
        exact all_succ hinv (Decidable.not_not.1 c3)
    · refine ⟨(hx1_.trans (hx2_.trans hx3_)), ?_⟩
      have : CodeR c := ⟨c1.1, c1.2, fun j hj => hinv j (by omega)⟩
      simp only [this, decide_true]


/-- impl.namesRight -/
def F135 (a0 : Value) (w : World) (R : Value → World → Prop) : Prop :=
  OP Tryz.prog (Instr.box 37 a0) w fun x1 w =>
  RD Tryz.prog (Instr.fieldAt 37 x1 0) w fun x3 =>
  RD Tryz.prog (Instr.loadAt 22 x3) w fun x4 =>
  CALL Tryz.prog 206 [x4, (Value.int .i64 6)] w fun x5 w =>
  RD Tryz.prog (Op.unary .not x5) w fun x6 =>
  BR x6
  (R (Value.bool false) w)
  (RD Tryz.prog (Instr.fieldAt 37 x1 1) w fun x8 =>
  RD Tryz.prog (Instr.loadAt 22 x8) w fun x9 =>
  CALL Tryz.prog 206 [x9, (Value.int .i64 6)] w fun x10 w =>
  RD Tryz.prog (Op.unary .not x10) w fun x11 =>
  BR x11
  (R (Value.bool false) w)
  (RD Tryz.prog (Instr.fieldAt 37 x1 2) w fun x14 =>
  RD Tryz.prog (Instr.loadAt 22 x14) w fun x15 =>
  CALL Tryz.prog 206 [x15, (Value.int .i64 8)] w fun x16 w =>
  RD Tryz.prog (Op.unary .not x16) w fun x17 =>
  BR x17
   (R (Value.bool false) w)
   (RD Tryz.prog (Instr.fieldAt 37 x1 0) w fun x19 =>
   RD Tryz.prog (Instr.loadAt 22 x19) w fun x20 =>
   CALL Tryz.prog 207 [x20] w fun x21 w =>
   BR x21
   (R (Value.bool false) w)
   (RD Tryz.prog (Instr.fieldAt 37 x1 1) w fun x23 =>
   RD Tryz.prog (Instr.loadAt 22 x23) w fun x24 =>
   CALL Tryz.prog 207 [x24] w fun x25 w =>
   BR x25
   (R (Value.bool false) w)
   (RD Tryz.prog (Instr.fieldAt 37 x1 2) w fun x28 =>
   RD Tryz.prog (Instr.loadAt 22 x28) w fun x29 =>
   CALL Tryz.prog 207 [x29] w fun x30 w =>
   BR x30
    (R (Value.bool false) w)
    (RD Tryz.prog (Instr.fieldAt 37 x1 2) w fun x32 =>
    RD Tryz.prog (Instr.loadAt 22 x32) w fun x33 =>
    CALL Tryz.prog 208 [x33, (Value.string (ByteArray.mk #[109, 97, 105, 110]))] w fun x34 w =>
    R x34 w))))))
def cfg135 : Cfg := { ext := extL, joins := [], loops := [], draws := [], pars := [] }
theorem F135_eq (a0 : Value) (w : World) (R : Value → World → Prop) : vcF Tryz.prog cfg135 Tryz.f135 [a0] w R = F135 a0 w R := by kernel_rfl
theorem F135_call {a0 : Value} {w : World} {R : Value → World → Prop} (h : F135 a0 w R) : CALL Tryz.prog 135 [a0] w R :=
  call_of (g := cfg135) ent mixed Tryz.func135 (Nat.le_of_ble_eq_true (by kernel_rfl)) (by kernel_rfl) (F135_eq a0 w R ▸ h)


theorem namesRight_ok {w : World} {v0 : Value} {W0 : World} {c : DCode}  (h0 : Is W0 v0 c) (e0 : Ext W0 w)  :
    CALL Tryz.prog 135 [v0] w fun r w' => Ext w w' ∧ (r = .bool (decide (NamesR c))) := by
  refine F135_call ?_
  unfold F135
  refine op_boxS ty37 rfl h0 e0 fun w1_ hx1_ hA1 hV1 => ?_
  refine rd_fld fd37_0 ?_
  refine rd_load ty22 (at_DCode_0 hA1) (Ext.refl w1_) fun v4 h4 => ?_
  refine (areNames_ok h4 (Ext.refl w1_)).mono ?_
  rintro _ w2_ ⟨hx2_, rfl⟩
  refine rd_not ?_
  refine br_b (fun c1 => ?_) (fun c1 => ?_)
  · refine ⟨(hx1_.trans hx2_), ?_⟩
    have : ¬ NamesR c := fun h => by rw [h.1] at c1; cases c1
    simp only [this, decide_false]
  · refine rd_fld fd37_1 ?_
    refine rd_load ty22 (at_DCode_1 hA1) hx2_ fun v9 h9 => ?_
    refine (areNames_ok h9 hx2_).mono ?_
    rintro _ w3_ ⟨hx3_, rfl⟩
    refine rd_not ?_
    refine br_b (fun c2 => ?_) (fun c2 => ?_)
    · refine ⟨(hx1_.trans (hx2_.trans hx3_)), ?_⟩
      have : ¬ NamesR c := fun h => by rw [h.2.1] at c2; cases c2
      simp only [this, decide_false]
    · refine rd_fld fd37_2 ?_
      refine rd_load ty22 (at_DCode_2 hA1) (hx2_.trans hx3_) fun v15 h15 => ?_
      refine (areNames_ok h15 (hx2_.trans hx3_)).mono ?_
      rintro _ w4_ ⟨hx4_, rfl⟩
      refine rd_not ?_
      refine br_b (fun c3 => ?_) (fun c3 => ?_)
      · refine ⟨(hx1_.trans (hx2_.trans (hx3_.trans hx4_))), ?_⟩
        have : ¬ NamesR c := fun h => by rw [h.2.2.1] at c3; cases c3
        simp only [this, decide_false]
      · refine rd_fld fd37_0 ?_
        refine rd_load ty22 (at_DCode_0 hA1) (hx2_.trans (hx3_.trans hx4_)) fun v20 h20 => ?_
        refine (hasTwice_ok h20 (hx2_.trans (hx3_.trans hx4_))).mono ?_
        rintro _ w5_ ⟨hx5_, rfl⟩
        refine br (fun c4 => ?_) (fun c4 => ?_)
        · refine ⟨(hx1_.trans (hx2_.trans (hx3_.trans (hx4_.trans hx5_)))), ?_⟩
          have : ¬ NamesR c := fun h => c4 h.2.2.2.1
          simp only [this, decide_false]
        · refine rd_fld fd37_1 ?_
          refine rd_load ty22 (at_DCode_1 hA1) (hx2_.trans (hx3_.trans (hx4_.trans hx5_))) fun v24 h24 => ?_
          refine (hasTwice_ok h24 (hx2_.trans (hx3_.trans (hx4_.trans hx5_)))).mono ?_
          rintro _ w6_ ⟨hx6_, rfl⟩
          refine br (fun c5 => ?_) (fun c5 => ?_)
          · refine ⟨(hx1_.trans (hx2_.trans (hx3_.trans (hx4_.trans (hx5_.trans hx6_))))), ?_⟩
            have : ¬ NamesR c := fun h => c5 h.2.2.2.2.1
            simp only [this, decide_false]
          · refine rd_fld fd37_2 ?_
            refine rd_load ty22 (at_DCode_2 hA1) (hx2_.trans (hx3_.trans (hx4_.trans (hx5_.trans hx6_)))) fun v29 h29 => ?_
            refine (hasTwice_ok h29 (hx2_.trans (hx3_.trans (hx4_.trans (hx5_.trans hx6_))))).mono ?_
            rintro _ w7_ ⟨hx7_, rfl⟩
            refine br (fun c6 => ?_) (fun c6 => ?_)
            · refine ⟨(hx1_.trans (hx2_.trans (hx3_.trans (hx4_.trans (hx5_.trans (hx6_.trans hx7_)))))), ?_⟩
              have : ¬ NamesR c := fun h => c6 h.2.2.2.2.2.1
              simp only [this, decide_false]
            · refine rd_fld fd37_2 ?_
              refine rd_load ty22 (at_DCode_2 hA1) (hx2_.trans (hx3_.trans (hx4_.trans (hx5_.trans (hx6_.trans hx7_))))) fun v33 h33 => ?_
              refine (containsStr_ok h33 (hx2_.trans (hx3_.trans (hx4_.trans (hx5_.trans (hx6_.trans hx7_)))))).mono ?_
              rintro _ w8_ ⟨hx8_, rfl⟩
              refine ⟨(hx1_.trans (hx2_.trans (hx3_.trans (hx4_.trans (hx5_.trans (hx6_.trans (hx7_.trans hx8_))))))), ?_⟩
              congr 1
              rw [decide_eq_decide]
              exact ⟨fun h => ⟨by simpa using c1, by simpa using c2, by simpa using c3, Decidable.not_not.1 c4, Decidable.not_not.1 c5, Decidable.not_not.1 c6, h⟩, fun h => h.2.2.2.2.2.2⟩

/-- how many of the first k instructions are ends -/
def ends (c : DCode) : Nat → Nat
  | 0 => 0
  | k + 1 => ends c k + if (insAt c k).op = 9 then 1 else 0
theorem ends_le (c : DCode) : ∀ k, ends c k ≤ k
  | 0 => Nat.le_refl _
  | k + 1 => by have := ends_le c k; rw [ends]; split <;> omega
def EntI (c : DCode) : Prop := c.ins.length ≤ 1500 ∧ c.entry.length = c.procs.length ∧ en c 0 = 0 ∧ ends c c.ins.length = c.entry.length ∧
  ∀ i, i < c.entry.length → en c i < endB c i ∧ endB c i ≤ c.ins.length ∧ (insAt c (endB c i - 1).toNat).op = 9
instance (c : DCode) : Decidable (EntI c) := by unfold EntI; infer_instance
theorem entI_nonneg {c : DCode} (h0 : en c 0 = 0) : ∀ {q : Nat}, q < c.entry.length → (∀ i, i < q → en c i < endB c i) → 0 ≤ en c q
  | 0, _, _ => by omega
  | q + 1, hq, h => by
    have h1 := entI_nonneg h0 (q := q) (by omega) fun i hi => h i (by omega)
    have h2 := h q (by omega)
    unfold endB at h2
    rw [if_pos hq] at h2
    omega
/-- impl.entriesRight -/
def F136 (a0 : Value) (w : World) (R : Value → World → Prop) : Prop :=
  OP Tryz.prog (Instr.box 37 a0) w fun x1 w =>
  RD Tryz.prog (Instr.fieldAt 37 x1 4) w fun x9 =>
  RD Tryz.prog (Instr.loadAt 35 x9) w fun x10 =>
  RD Tryz.prog (Builtin.len_ #[35] 3 [x10].toArray) w fun x11 =>
  RD Tryz.prog (bin .gtr 3 (.tmp 0) (.const undef) x11 (Value.int .i64 1500)) w fun x12 =>
  BR x12
  (R (Value.bool false) w)
  (RD Tryz.prog (Instr.fieldAt 37 x1 3) w fun x14 =>
  RD Tryz.prog (Instr.loadAt 23 x14) w fun x15 =>
  RD Tryz.prog (Builtin.len_ #[23] 3 [x15].toArray) w fun x16 =>
  RD Tryz.prog (Instr.fieldAt 37 x1 2) w fun x17 =>
  RD Tryz.prog (Instr.loadAt 22 x17) w fun x18 =>
  RD Tryz.prog (Builtin.len_ #[22] 3 [x18].toArray) w fun x19 =>
  RD Tryz.prog (bin .neq 3 (.tmp 0) (.tmp 0) x16 x19) w fun x20 =>
  BR x20
  (R (Value.bool false) w)
  (RD Tryz.prog (Instr.fieldAt 37 x1 3) w fun x23 =>
  RD Tryz.prog (Instr.loadAt 23 x23) w fun x24 =>
  RD Tryz.prog (Instr.indexAt 23 x24 (Value.int .i64 0)) w fun x25 =>
  RD Tryz.prog (Instr.loadAt 3 x25) w fun x26 =>
  RD Tryz.prog (bin .neq 3 (.tmp 0) (.const undef) x26 (Value.int .i64 0)) w fun x27 =>
  BR x27
   (R (Value.bool false) w)
   (RD Tryz.prog (Instr.fieldAt 37 x1 4) w fun x29 =>
   RD Tryz.prog (Instr.loadAt 35 x29) w fun x30 =>
   RD Tryz.prog (Builtin.len_ #[35] 3 [x30].toArray) w fun x31 =>
   LOOPI [3, 32] [(Value.int .i64 0), (Value.int .i64 0)] w fun u5 w next5 =>
    RD Tryz.prog (bin .lss 3 (.tmp 0) (.tmp 0) (u5 32) x31) w fun x33 =>
    BR x33
     (RD Tryz.prog (Instr.indexAt 35 x30 (u5 32)) w fun x34 =>
     RD Tryz.prog (Instr.loadAt 135 x34) w fun x35 =>
     OP Tryz.prog (Instr.alloc 135 true (.tuple #[])) w fun x5 w =>
     OPU Tryz.prog (Instr.storeAt 135 x5 x35) w fun w =>
     RD Tryz.prog (Instr.fieldAt 135 x5 0) w fun x36 =>
     RD Tryz.prog (Instr.loadAt 3 x36) w fun x37 =>
     RD Tryz.prog (bin .eql 3 (.tmp 0) (.const undef) x37 (Value.int .i64 9)) w fun x38 =>
     BR x38
      (RD Tryz.prog (bin .add 3 (.tmp 0) (.const undef) (u5 3) (Value.int .i64 1)) w fun x40 =>
      RD Tryz.prog (bin .add 3 (.tmp 0) (.const undef) (u5 32) (Value.int .i64 1)) w fun x41 =>
      next5 [x40, x41] w)
      (RD Tryz.prog (bin .add 3 (.tmp 0) (.const undef) (u5 32) (Value.int .i64 1)) w fun x41 =>
      next5 [(u5 3), x41] w))
     (RD Tryz.prog (Instr.fieldAt 37 x1 3) w fun x43 =>
     RD Tryz.prog (Instr.loadAt 23 x43) w fun x44 =>
     RD Tryz.prog (Builtin.len_ #[23] 3 [x44].toArray) w fun x45 =>
     RD Tryz.prog (bin .neq 3 (.tmp 0) (.tmp 0) (u5 3) x45) w fun x46 =>
     BR x46
      (R (Value.bool false) w)
      (RD Tryz.prog (Instr.fieldAt 37 x1 3) w fun x47 =>
      RD Tryz.prog (Instr.loadAt 23 x47) w fun x48 =>
      RD Tryz.prog (Builtin.len_ #[23] 3 [x48].toArray) w fun x49 =>
      LOOPI [50] [(Value.int .i64 0)] w fun u13 w next13 =>
       RD Tryz.prog (bin .lss 3 (.tmp 0) (.tmp 0) (u13 50) x49) w fun x51 =>
       BR x51
        ((fun w => RD Tryz.prog (Instr.fieldAt 37 x1 3) w fun x53 =>
        RD Tryz.prog (Instr.loadAt 23 x53) w fun x54 =>
        RD Tryz.prog (Instr.indexAt 23 x54 (u13 50)) w fun x56 =>
        RD Tryz.prog (Instr.loadAt 3 x56) w fun x57 =>
        RD Tryz.prog (Instr.fieldAt 37 x1 4) w fun x58 =>
        RD Tryz.prog (Instr.loadAt 35 x58) w fun x59 =>
        RD Tryz.prog (Builtin.len_ #[35] 3 [x59].toArray) w fun x60 =>
        JOIN [8] (fun J18 =>
         RD Tryz.prog (bin .add 3 (.tmp 0) (.const undef) (u13 50) (Value.int .i64 1)) w fun x62 =>
         RD Tryz.prog (Instr.fieldAt 37 x1 3) w fun x63 =>
         RD Tryz.prog (Instr.loadAt 23 x63) w fun x64 =>
         RD Tryz.prog (Builtin.len_ #[23] 3 [x64].toArray) w fun x65 =>
         RD Tryz.prog (bin .lss 3 (.tmp 0) (.tmp 0) x62 x65) w fun x66 =>
         BR x66
          (RD Tryz.prog (Instr.fieldAt 37 x1 3) w fun x67 =>
          RD Tryz.prog (Instr.loadAt 23 x67) w fun x68 =>
          RD Tryz.prog (bin .add 3 (.tmp 0) (.const undef) (u13 50) (Value.int .i64 1)) w fun x70 =>
          RD Tryz.prog (Instr.indexAt 23 x68 x70) w fun x71 =>
          RD Tryz.prog (Instr.loadAt 3 x71) w fun x72 =>
          J18 [x72] w)
          (J18 [x60] w)) (fun u18 w =>
         RD Tryz.prog (bin .leq 3 (.tmp 0) (.tmp 0) (u18 8) x57) w fun x75 =>
         BR x75
         (R (Value.bool false) w)
         (RD Tryz.prog (Instr.fieldAt 37 x1 4) w fun x78 =>
         RD Tryz.prog (Instr.loadAt 35 x78) w fun x79 =>
         RD Tryz.prog (Builtin.len_ #[35] 3 [x79].toArray) w fun x80 =>
         RD Tryz.prog (bin .gtr 3 (.tmp 0) (.tmp 0) (u18 8) x80) w fun x81 =>
         BR x81
         (R (Value.bool false) w)
         (RD Tryz.prog (Instr.fieldAt 37 x1 4) w fun x84 =>
         RD Tryz.prog (Instr.loadAt 35 x84) w fun x85 =>
         RD Tryz.prog (bin .sub 3 (.tmp 0) (.const undef) (u18 8) (Value.int .i64 1)) w fun x87 =>
         RD Tryz.prog (Instr.indexAt 35 x85 x87) w fun x88 =>
         RD Tryz.prog (Instr.fieldAt 135 x88 0) w fun x89 =>
         RD Tryz.prog (Instr.loadAt 3 x89) w fun x90 =>
         RD Tryz.prog (bin .neq 3 (.tmp 0) (.const undef) x90 (Value.int .i64 9)) w fun x91 =>
         BR x91
          (R (Value.bool false) w)
          (RD Tryz.prog (bin .add 3 (.tmp 0) (.const undef) (u13 50) (Value.int .i64 1)) w fun x93 =>
          next13 [x93] w))))) (World.drew1 w))
        (R (Value.bool true) w))))))
def cfg136 : Cfg := { ext := extL, joins := [(18, 9442427122730076733696, [8])], loops := [(5, 4393751543848, [3, 32]), (13, 19807040628564958498479145412, [50])], draws := [(15, [0, 1, 2, 3, 4, 5, 6, 7, 8, 9], 0)], pars := [] }
theorem F136_eq (a0 : Value) (w : World) (R : Value → World → Prop) : vcF Tryz.prog cfg136 Tryz.f136 [a0] w R = F136 a0 w R := by kernel_rfl
theorem F136_call {a0 : Value} {w : World} {R : Value → World → Prop} (h : F136 a0 w R) : CALL Tryz.prog 136 [a0] w R :=
  call_of (g := cfg136) ent mixed Tryz.func136 (Nat.le_of_ble_eq_true (by kernel_rfl)) (by kernel_rfl) (F136_eq a0 w R ▸ h)


theorem entriesRight_ok {w : World} {v0 : Value} {W0 : World} {c : DCode}  (h0 : Is W0 v0 c) (e0 : Ext W0 w) (hp : 0 < c.procs.length) :
    CALL Tryz.prog 136 [v0] w fun r w' => Ext w w' ∧ (r = .bool (decide (EntI c))) := by
  refine F136_call ?_
  unfold F136
  refine op_boxS ty37 rfl h0 e0 fun w1_ hx1_ hA1 hV1 => ?_
  refine rd_fld fd37_4 ?_
  refine rd_load ty35 (at_DCode_4 hA1) (Ext.refl w1_) fun v10 h10 => ?_
  have hln11 := is_len h10
  refine rd_len u35 h10 ?_
  refine rd_gtr ?_
  refine br (fun c1 => ?_) (fun c1 => ?_)
  · refine ⟨hx1_, ?_⟩
    have : ¬ EntI c := fun h => by have := h.1; omega
    simp only [this, decide_false]
  · refine rd_fld fd37_3 ?_
    refine rd_load ty23 (at_DCode_3 hA1) (Ext.refl w1_) fun v15 h15 => ?_
    have hln16 := is_len h15
    refine rd_len u23 h15 ?_
    refine rd_fld fd37_2 ?_
    refine rd_load ty22 (at_DCode_2 hA1) (Ext.refl w1_) fun v18 h18 => ?_
    have hln19 := is_len h18
    refine rd_len u22 h18 ?_
    refine rd_neq ?_
    refine br (fun c2 => ?_) (fun c2 => ?_)
    · refine ⟨hx1_, ?_⟩
      have : ¬ EntI c := fun h => by have := h.2.1; omega
      simp only [this, decide_false]
    · refine rd_fld fd37_3 ?_
      refine rd_load ty23 (at_DCode_3 hA1) (Ext.refl w1_) fun v24 h24 => ?_
      refine rd_index u23 ty3 h24 (by omega) (by omega) fun b25 o25 h25 => ?_
      refine rd_loadI ty3 h25 (Ext.refl w1_) fun hI26 => ?_
      refine rd_neq ?_
      refine br (fun c3 => ?_) (fun c3 => ?_)
      · refine ⟨hx1_, ?_⟩
        rw [en_get] at c3
        have : ¬ EntI c := fun h => c3 h.2.2.1
        simp only [this, decide_false]
      · refine rd_fld fd37_4 ?_
        refine rd_load ty35 (at_DCode_4 hA1) (Ext.refl w1_) fun v30 h30 => ?_
        have hln31 := is_len h30
        refine rd_len u35 h30 ?_
        refine loopC (c.ins.length) (fun k us w' => us = [.int .i64 (ends c k : Int), .int .i64 (k : Int)] ∧ Ext w1_ w' ∧ (True)) (0) (by omega) ⟨rfl, Ext.refl w1_, trivial⟩ ?_
        rintro k m5 uu5 w2_ hk5 ⟨hu, hx2_, hinv⟩
        simp only [List.map_cons, List.map_nil, List.cons.injEq, and_true] at hu
        obtain ⟨hu0, hu1⟩ := hu
        try rw [hu0]
        try rw [hu1]
        try clear hu0 hu1
        have hel := ends_le c k
        refine rd_lss ?_
        refine br (fun c4 => ?_) (fun c4 => ?_)
        · refine rd_indexN u35 ty135 h30 (by omega) fun b34 o34 h34 => ?_
          refine rd_load ty135 h34 hx2_ fun v35 h35 => ?_
          rw [insAt_get] at h35
          refine op_var zl135 rfl ty135 rfl h35 hx2_ fun w3_ hx3_ hA5 hV5 => ?_
          refine rd_fld fd135_0 ?_
          refine rd_loadI ty3 (at_DIns_0 hA5) (Ext.refl w3_) fun hI37 => ?_
          refine rd_eql ?_
          refine br (fun c5 => ?_) (fun c5 => ?_)
          · refine rd_inc (by omega) ?_
            refine rd_inc (by omega) ?_
            refine ⟨m5 - 1, by omega, k + 1, by omega, by rw [ends, if_pos c5], (hx2_.trans hx3_), ?_⟩
            trivial
          · refine rd_inc (by omega) ?_
            refine ⟨m5 - 1, by omega, k + 1, by omega, by rw [ends, if_neg c5]; rfl, (hx2_.trans hx3_), ?_⟩
            trivial
        · refine rd_fld fd37_3 ?_
          refine rd_load ty23 (at_DCode_3 hA1) hx2_ fun v44 h44 => ?_
          have hln45 := is_len h44
          refine rd_len u23 h44 ?_
          refine rd_neq ?_
          refine br (fun c6 => ?_) (fun c6 => ?_)
          · refine ⟨(hx1_.trans hx2_), ?_⟩
            have : ¬ EntI c := fun h => c6 (by rw [show k = c.ins.length by omega, h.2.2.2.1])
            simp only [this, decide_false]
          · refine rd_fld fd37_3 ?_
            refine rd_load ty23 (at_DCode_3 hA1) hx2_ fun v48 h48 => ?_
            have hln49 := is_len h48
            refine rd_len u23 h48 ?_
            refine loopC (c.entry.length) (fun q us w' => us = [.int .i64 (q : Int)] ∧ Ext w2_ w' ∧ (∀ i, i < q → en c i < endB c i ∧ endB c i ≤ c.ins.length ∧ (insAt c (endB c i - 1).toNat).op = 9)) (0) (by omega) ⟨by simp, Ext.refl w2_, fun i h => by omega⟩ ?_
            rintro q m13 uu13 w4_ hk13 ⟨hu, hx4_, hent⟩
            simp only [List.map_cons, List.map_nil, List.cons.injEq, and_true] at hu
            try rw [hu]
            try clear hu
            refine rd_lss ?_
            refine br (fun c7 => ?_) (fun c7 => ?_)
            · have hx5_ := ext_drew w4_
              refine rd_fld fd37_3 ?_
              refine rd_load ty23 (at_DCode_3 hA1) (hx2_.trans (hx4_.trans hx5_)) fun v54 h54 => ?_
              refine rd_indexN u23 ty3 h54 (by omega) fun b56 o56 h56 => ?_
              refine rd_loadI ty3 h56 (hx2_.trans (hx4_.trans hx5_)) fun hI57 => ?_
              refine rd_fld fd37_4 ?_
              refine rd_load ty35 (at_DCode_4 hA1) (hx2_.trans (hx4_.trans hx5_)) fun v59 h59 => ?_
              have hln60 := is_len h59
              refine rd_len u35 h59 ?_
              refine JOIN.mk (fun us w' => us = [.int .i64 (endB c q)] ∧ Ext (World.drew1 w4_) w' ∧ (True)) ?_ ?_
              · refine rd_inc (by omega) ?_
                refine rd_fld fd37_3 ?_
                refine rd_load ty23 (at_DCode_3 hA1) (hx2_.trans (hx4_.trans hx5_)) fun v64 h64 => ?_
                have hln65 := is_len h64
                refine rd_len u23 h64 ?_
                refine rd_lss ?_
                refine br (fun c8 => ?_) (fun c8 => ?_)
                · refine rd_fld fd37_3 ?_
                  refine rd_load ty23 (at_DCode_3 hA1) (hx2_.trans (hx4_.trans hx5_)) fun v68 h68 => ?_
                  refine rd_inc (by omega) ?_
                  refine rd_indexN u23 ty3 h68 (by omega) fun b71 o71 h71 => ?_
                  refine rd_loadI ty3 h71 (hx2_.trans (hx4_.trans hx5_)) fun hI72 => ?_
                  refine ⟨by unfold endB; rw [if_pos (by omega), en_get], Ext.refl (World.drew1 w4_), ?_⟩
                  trivial
                · refine ⟨by unfold endB; rw [if_neg (by omega)], Ext.refl (World.drew1 w4_), ?_⟩
                  trivial
              · rintro uj18 w6_ ⟨hu, hx6_, hinv⟩
                simp only [List.map_cons, List.map_nil, List.cons.injEq, and_true] at hu
                try rw [hu]
                try clear hu
                refine rd_leq ?_
                refine br (fun c9 => ?_) (fun c9 => ?_)
                · refine ⟨(hx1_.trans (hx2_.trans (hx4_.trans (hx5_.trans hx6_)))), ?_⟩
                  rw [en_get] at c9
                  have : ¬ EntI c := fun h => by have := (h.2.2.2.2 q (by omega)).1; omega
                  simp only [this, decide_false]
                · refine rd_fld fd37_4 ?_
                  refine rd_load ty35 (at_DCode_4 hA1) (hx2_.trans (hx4_.trans (hx5_.trans hx6_))) fun v79 h79 => ?_
                  have hln80 := is_len h79
                  refine rd_len u35 h79 ?_
                  refine rd_gtr ?_
                  refine br (fun c10 => ?_) (fun c10 => ?_)
                  · refine ⟨(hx1_.trans (hx2_.trans (hx4_.trans (hx5_.trans hx6_)))), ?_⟩
                    have : ¬ EntI c := fun h => by have := (h.2.2.2.2 q (by omega)).2.1; omega
                    simp only [this, decide_false]
                  · refine rd_fld fd37_4 ?_
                    refine rd_load ty35 (at_DCode_4 hA1) (hx2_.trans (hx4_.trans (hx5_.trans hx6_))) fun v85 h85 => ?_
                    rw [en_get] at c3 c9
                    have hq0 := entI_nonneg (Decidable.not_not.1 c3) (q := q) (by omega) fun i hi => (hent i hi).1
                    refine rd_sub (by unfold I64; omega) ?_
                    refine rd_index u35 ty135 h85 (by omega) (by omega) fun b88 o88 h88 => ?_
                    refine rd_fld fd135_0 ?_
                    refine rd_loadI ty3 (at_DIns_0 h88) (hx2_.trans (hx4_.trans (hx5_.trans hx6_))) fun hI90 => ?_
                    refine rd_neq ?_
                    refine br (fun c11 => ?_) (fun c11 => ?_)
                    · refine ⟨(hx1_.trans (hx2_.trans (hx4_.trans (hx5_.trans hx6_)))), ?_⟩
                      rw [insAt_get] at c11
                      have : ¬ EntI c := fun h => c11 (h.2.2.2.2 q (by omega)).2.2
                      simp only [this, decide_false]
                    · refine rd_inc (by omega) ?_
                      refine ⟨m13 - 1, by omega, q + 1, by omega, by simp, (hx4_.trans (hx5_.trans hx6_)), ?_⟩
                      rw [insAt_get] at c11
                      exact all_succ hent ⟨by omega, by omega, Decidable.not_not.1 c11⟩
            · refine ⟨(hx1_.trans (hx2_.trans hx4_)), ?_⟩
              rw [en_get] at c3
              have : EntI c := ⟨by omega, by omega, Decidable.not_not.1 c3, by rw [show c.ins.length = k by omega]; omega, fun i hi => hent i (by omega)⟩
              simp only [this, decide_true]

/-- impl.argMost -/
def F209 (a0 a1 : Value) (w : World) (R : Value → World → Prop) : Prop :=
  OP Tryz.prog (Instr.box 37 a0) w fun x2 w =>
  RD Tryz.prog (bin .eql 3 (.tmp 0) (.const undef) a1 (Value.int .i64 1)) w fun x7 =>
  BR x7
   (RD Tryz.prog (Instr.fieldAt 37 x2 0) w fun x8 =>
   RD Tryz.prog (Instr.loadAt 22 x8) w fun x9 =>
   RD Tryz.prog (Builtin.len_ #[22] 3 [x9].toArray) w fun x10 =>
   R x10 w)
   (RD Tryz.prog (bin .eql 3 (.tmp 0) (.const undef) a1 (Value.int .i64 4)) w fun x12 =>
   BR x12
    (RD Tryz.prog (Instr.fieldAt 37 x2 2) w fun x14 =>
     RD Tryz.prog (Instr.loadAt 22 x14) w fun x15 =>
     RD Tryz.prog (Builtin.len_ #[22] 3 [x15].toArray) w fun x16 =>
     R x16 w)
    (RD Tryz.prog (bin .eql 3 (.tmp 0) (.const undef) a1 (Value.int .i64 5)) w fun x13 =>
    BR x13
     (RD Tryz.prog (Instr.fieldAt 37 x2 2) w fun x14 =>
     RD Tryz.prog (Instr.loadAt 22 x14) w fun x15 =>
     RD Tryz.prog (Builtin.len_ #[22] 3 [x15].toArray) w fun x16 =>
     R x16 w)
     (RD Tryz.prog (bin .eql 3 (.tmp 0) (.const undef) a1 (Value.int .i64 6)) w fun x18 =>
     BR x18
      (RD Tryz.prog (Instr.fieldAt 37 x2 1) w fun x20 =>
       RD Tryz.prog (Instr.loadAt 22 x20) w fun x21 =>
       RD Tryz.prog (Builtin.len_ #[22] 3 [x21].toArray) w fun x22 =>
       R x22 w)
      (RD Tryz.prog (bin .eql 3 (.tmp 0) (.const undef) a1 (Value.int .i64 7)) w fun x19 =>
      BR x19
       (RD Tryz.prog (Instr.fieldAt 37 x2 1) w fun x20 =>
       RD Tryz.prog (Instr.loadAt 22 x20) w fun x21 =>
       RD Tryz.prog (Builtin.len_ #[22] 3 [x21].toArray) w fun x22 =>
       R x22 w)
       (R (Value.int .i64 1) w)))))
def cfg209 : Cfg := { ext := extL, joins := [], loops := [], draws := [], pars := [] }
theorem F209_eq (a0 a1 : Value) (w : World) (R : Value → World → Prop) : vcF Tryz.prog cfg209 Tryz.f209 [a0, a1] w R = F209 a0 a1 w R := by kernel_rfl
theorem F209_call {a0 a1 : Value} {w : World} {R : Value → World → Prop} (h : F209 a0 a1 w R) : CALL Tryz.prog 209 [a0, a1] w R :=
  call_of (g := cfg209) ent mixed Tryz.func209 (Nat.le_of_ble_eq_true (by kernel_rfl)) (by kernel_rfl) (F209_eq a0 a1 w R ▸ h)


theorem argMost_ok {w : World} {v0 : Value} {W0 : World} {c : DCode} {op : Int}  (h0 : Is W0 v0 c) (e0 : Ext W0 w)  :
    CALL Tryz.prog 209 [v0, .int .i64 op] w fun r w' => Ext w w' ∧ (r = .int .i64 (argMost c op)) := by
  refine F209_call ?_
  unfold F209
  refine op_boxS ty37 rfl h0 e0 fun w1_ hx1_ hA2 hV2 => ?_
  refine rd_eql ?_
  refine br (fun c1 => ?_) (fun c1 => ?_)
  · refine rd_fld fd37_0 ?_
    refine rd_load ty22 (at_DCode_0 hA2) (Ext.refl w1_) fun v9 h9 => ?_
    have hln10 := is_len h9
    refine rd_len u22 h9 ?_
    refine ⟨hx1_, ?_⟩
    unfold argMost; rw [if_pos c1]
  · refine rd_eql ?_
    refine br (fun c2 => ?_) (fun c2 => ?_)
    · refine rd_fld fd37_2 ?_
      refine rd_load ty22 (at_DCode_2 hA2) (Ext.refl w1_) fun v15 h15 => ?_
      have hln16 := is_len h15
      refine rd_len u22 h15 ?_
      refine ⟨hx1_, ?_⟩
      unfold argMost; rw [if_neg (by omega), if_pos (by omega)]
    · refine rd_eql ?_
      refine br (fun c3 => ?_) (fun c3 => ?_)
      · refine rd_fld fd37_2 ?_
        refine rd_load ty22 (at_DCode_2 hA2) (Ext.refl w1_) fun v15 h15 => ?_
        have hln16 := is_len h15
        refine rd_len u22 h15 ?_
        refine ⟨hx1_, ?_⟩
        unfold argMost; rw [if_neg (by omega), if_pos (by omega)]
      · refine rd_eql ?_
        refine br (fun c4 => ?_) (fun c4 => ?_)
        · refine rd_fld fd37_1 ?_
          refine rd_load ty22 (at_DCode_1 hA2) (Ext.refl w1_) fun v21 h21 => ?_
          have hln22 := is_len h21
          refine rd_len u22 h21 ?_
          refine ⟨hx1_, ?_⟩
          unfold argMost; rw [if_neg (by omega), if_neg (by omega), if_pos (by omega)]
        · refine rd_eql ?_
          refine br (fun c5 => ?_) (fun c5 => ?_)
          · refine rd_fld fd37_1 ?_
            refine rd_load ty22 (at_DCode_1 hA2) (Ext.refl w1_) fun v21 h21 => ?_
            have hln22 := is_len h21
            refine rd_len u22 h21 ?_
            refine ⟨hx1_, ?_⟩
            unfold argMost; rw [if_neg (by omega), if_neg (by omega), if_pos (by omega)]
          · refine ⟨hx1_, ?_⟩
            unfold argMost; rw [if_neg (by omega), if_neg (by omega), if_neg (by omega)]

/-- impl.insRight -/
def F138 (a0 a1 a2 a3 : Value) (w : World) (R : Value → World → Prop) : Prop :=
  OP Tryz.prog (Instr.box 37 a0) w fun x4 w =>
  OP Tryz.prog (Instr.box 135 a1) w fun x5 w =>
  (fun w => RD Tryz.prog (Instr.fieldAt 135 x5 0) w fun x11 =>
  RD Tryz.prog (Instr.loadAt 3 x11) w fun x12 =>
  RD Tryz.prog (bin .lss 3 (.tmp 0) (.const undef) x12 (Value.int .i64 1)) w fun x13 =>
  BR x13
  (R (Value.bool false) w)
  (RD Tryz.prog (Instr.fieldAt 135 x5 0) w fun x15 =>
  RD Tryz.prog (Instr.loadAt 3 x15) w fun x16 =>
  RD Tryz.prog (bin .gtr 3 (.tmp 0) (.const undef) x16 (Value.int .i64 9)) w fun x17 =>
  BR x17
  (R (Value.bool false) w)
  (RD Tryz.prog (Instr.fieldAt 135 x5 1) w fun x20 =>
  RD Tryz.prog (Instr.loadAt 3 x20) w fun x21 =>
  RD Tryz.prog (bin .lss 3 (.tmp 0) (.const undef) x21 (Value.int .i64 0)) w fun x22 =>
  BR x22
  (R (Value.bool false) w)
  (RD Tryz.prog (Instr.fieldAt 135 x5 1) w fun x25 =>
  RD Tryz.prog (Instr.loadAt 3 x25) w fun x26 =>
  RD Tryz.prog (Instr.loadAt 37 x4) w fun x27 =>
  RD Tryz.prog (Instr.fieldAt 135 x5 0) w fun x28 =>
  RD Tryz.prog (Instr.loadAt 3 x28) w fun x29 =>
  (fun w_ => CALL Tryz.prog 209 [x27, x29] w_ fun x30 w =>
  Ext w_ w ∧
  RD Tryz.prog (bin .geq 3 (.tmp 0) (.tmp 0) x26 x30) w fun x31 =>
  BR x31
   (R (Value.bool false) w)
   (JOIN [] (fun J14 =>
    RD Tryz.prog (Instr.fieldAt 135 x5 0) w fun x33 =>
    RD Tryz.prog (Instr.loadAt 3 x33) w fun x34 =>
    RD Tryz.prog (bin .eql 3 (.tmp 0) (.const undef) x34 (Value.int .i64 1)) w fun x35 =>
    BR x35
    (RD Tryz.prog (Instr.fieldAt 135 x5 2) w fun x41 =>
     RD Tryz.prog (Instr.loadAt 133 x41) w fun x42 =>
     CALL Tryz.prog 210 [x42] w fun x43 w =>
     RD Tryz.prog (Op.unary .not x43) w fun x44 =>
     BR x44
      (R (Value.bool false) w)
      (RD Tryz.prog (Instr.fieldAt 135 x5 2) w fun x45 =>
      RD Tryz.prog (Instr.loadAt 133 x45) w fun x46 =>
      CALL Tryz.prog 211 [x46] w fun x47 w =>
      RD Tryz.prog (Builtin.len_ #[22] 3 [x47].toArray) w fun x48 =>
      LOOPI [49] [(Value.int .i64 0)] w fun u7 w next7 =>
       RD Tryz.prog (bin .lss 3 (.tmp 0) (.tmp 0) (u7 49) x48) w fun x50 =>
       BR x50
        (RD Tryz.prog (Instr.indexAt 22 x47 (u7 49)) w fun x51 =>
        RD Tryz.prog (Instr.loadAt 9 x51) w fun x52 =>
        RD Tryz.prog (Instr.fieldAt 37 x4 0) w fun x53 =>
        RD Tryz.prog (Instr.loadAt 22 x53) w fun x54 =>
        CALL Tryz.prog 208 [x54, x52] w fun x56 w =>
        RD Tryz.prog (Op.unary .not x56) w fun x57 =>
        BR x57
         (R (Value.bool false) w)
         (RD Tryz.prog (bin .add 3 (.tmp 0) (.const undef) (u7 49) (Value.int .i64 1)) w fun x58 =>
         next7 [x58] w))
        (J14 [] w)))
    (RD Tryz.prog (Instr.fieldAt 135 x5 0) w fun x37 =>
    RD Tryz.prog (Instr.loadAt 3 x37) w fun x38 =>
    RD Tryz.prog (bin .eql 3 (.tmp 0) (.const undef) x38 (Value.int .i64 2)) w fun x39 =>
    BR x39
     (RD Tryz.prog (Instr.fieldAt 135 x5 2) w fun x41 =>
     RD Tryz.prog (Instr.loadAt 133 x41) w fun x42 =>
     CALL Tryz.prog 210 [x42] w fun x43 w =>
     RD Tryz.prog (Op.unary .not x43) w fun x44 =>
     BR x44
      (R (Value.bool false) w)
      (RD Tryz.prog (Instr.fieldAt 135 x5 2) w fun x45 =>
      RD Tryz.prog (Instr.loadAt 133 x45) w fun x46 =>
      CALL Tryz.prog 211 [x46] w fun x47 w =>
      RD Tryz.prog (Builtin.len_ #[22] 3 [x47].toArray) w fun x48 =>
      LOOPI [49] [(Value.int .i64 0)] w fun u7 w next7 =>
       RD Tryz.prog (bin .lss 3 (.tmp 0) (.tmp 0) (u7 49) x48) w fun x50 =>
       BR x50
        (RD Tryz.prog (Instr.indexAt 22 x47 (u7 49)) w fun x51 =>
        RD Tryz.prog (Instr.loadAt 9 x51) w fun x52 =>
        RD Tryz.prog (Instr.fieldAt 37 x4 0) w fun x53 =>
        RD Tryz.prog (Instr.loadAt 22 x53) w fun x54 =>
        CALL Tryz.prog 208 [x54, x52] w fun x56 w =>
        RD Tryz.prog (Op.unary .not x56) w fun x57 =>
        BR x57
         (R (Value.bool false) w)
         (RD Tryz.prog (bin .add 3 (.tmp 0) (.const undef) (u7 49) (Value.int .i64 1)) w fun x58 =>
         next7 [x58] w))
        (J14 [] w)))
     (RD Tryz.prog (Instr.fieldAt 135 x5 2) w fun x59 =>
     RD Tryz.prog (Instr.loadAt 133 x59) w fun x60 =>
     CALL Tryz.prog 212 [x60] w fun x61 w =>
     RD Tryz.prog (Op.unary .not x61) w fun x62 =>
     BR x62
      (R (Value.bool false) w)
      (J14 [] w)))) (fun u14 w =>
    RD Tryz.prog (Instr.fieldAt 135 x5 0) w fun x63 =>
    RD Tryz.prog (Instr.loadAt 3 x63) w fun x64 =>
    RD Tryz.prog (bin .eql 3 (.tmp 0) (.const undef) x64 (Value.int .i64 2)) w fun x65 =>
    BR x65
    (RD Tryz.prog (Instr.fieldAt 135 x5 3) w fun x71 =>
     RD Tryz.prog (Instr.loadAt 3 x71) w fun x72 =>
     RD Tryz.prog (bin .geq 3 (.tmp 0) (.tmp 0) x72 a2) w fun x74 =>
     BR x74
     (RD Tryz.prog (Instr.fieldAt 135 x5 3) w fun x76 =>
     RD Tryz.prog (Instr.loadAt 3 x76) w fun x77 =>
     RD Tryz.prog (bin .lss 3 (.tmp 0) (.tmp 0) x77 a3) w fun x79 =>
     R x79 w)
     (R (Value.bool false) w))
    (RD Tryz.prog (Instr.fieldAt 135 x5 0) w fun x67 =>
    RD Tryz.prog (Instr.loadAt 3 x67) w fun x68 =>
    RD Tryz.prog (bin .eql 3 (.tmp 0) (.const undef) x68 (Value.int .i64 3)) w fun x69 =>
    BR x69
     (RD Tryz.prog (Instr.fieldAt 135 x5 3) w fun x71 =>
     RD Tryz.prog (Instr.loadAt 3 x71) w fun x72 =>
     RD Tryz.prog (bin .geq 3 (.tmp 0) (.tmp 0) x72 a2) w fun x74 =>
     BR x74
     (RD Tryz.prog (Instr.fieldAt 135 x5 3) w fun x76 =>
     RD Tryz.prog (Instr.loadAt 3 x76) w fun x77 =>
     RD Tryz.prog (bin .lss 3 (.tmp 0) (.tmp 0) x77 a3) w fun x79 =>
     R x79 w)
     (R (Value.bool false) w))
     (RD Tryz.prog (Instr.fieldAt 135 x5 3) w fun x81 =>
     RD Tryz.prog (Instr.loadAt 3 x81) w fun x82 =>
     RD Tryz.prog (bin .eql 3 (.tmp 0) (.const undef) x82 (Value.int .i64 0)) w fun x83 =>
     R x83 w))))) w)))) (World.drew1 w)
def cfg138 : Cfg := { ext := extL, joins := [(14, 9223372028264842496, [])], loops := [(7, 575897802350003456, [49])], draws := [(1, [0, 1, 2, 3, 4, 5, 6, 7, 8, 9, 10, 11, 12, 13, 14, 15, 16, 17, 18, 19, 20, 21], 524288)], pars := [] }
theorem F138_eq (a0 a1 a2 a3 : Value) (w : World) (R : Value → World → Prop) : vcF Tryz.prog cfg138 Tryz.f138 [a0, a1, a2, a3] w R = F138 a0 a1 a2 a3 w R := by kernel_rfl
theorem F138_call {a0 a1 a2 a3 : Value} {w : World} {R : Value → World → Prop} (h : F138 a0 a1 a2 a3 w R) : CALL Tryz.prog 138 [a0, a1, a2, a3] w R :=
  call_of (g := cfg138) ent mixed Tryz.func138 (Nat.le_of_ble_eq_true (by kernel_rfl)) (by kernel_rfl) (F138_eq a0 a1 a2 a3 w R ▸ h)


theorem insRight_ok {w : World} {v0 : Value} {W0 : World} {c : DCode} {v1 : Value} {W1 : World} {a : DIns} {b : Int} {e : Int}  (h0 : Is W0 v0 c) (e0 : Ext W0 w) (h1 : Is W1 v1 a) (e1 : Ext W1 w)  :
    CALL Tryz.prog 138 [v0, v1, .int .i64 b, .int .i64 e] w fun r w' => Ext w w' ∧ (r = .bool (decide (InsR c a b e))) := by
  refine F138_call ?_
  unfold F138
  refine op_boxS ty37 rfl h0 e0 fun w1_ hx1_ hA4 hV4 => ?_
  refine op_boxS ty135 rfl h1 (e1.trans hx1_) fun w2_ hx2_ hA5 hV5 => ?_
  have hx3_ := ext_drew w2_
  refine rd_fld fd135_0 ?_
  refine rd_loadI ty3 (at_DIns_0 hA5) hx3_ fun hI12 => ?_
  refine rd_lss ?_
  refine br (fun c1 => ?_) (fun c1 => ?_)
  · refine ⟨(hx1_.trans (hx2_.trans hx3_)), ?_⟩
    have : ¬ InsR c a b e := fun h => by have := h.1; omega
    simp only [this, decide_false]
  · refine rd_fld fd135_0 ?_
    refine rd_loadI ty3 (at_DIns_0 hA5) hx3_ fun hI16 => ?_
    refine rd_gtr ?_
    refine br (fun c2 => ?_) (fun c2 => ?_)
    · refine ⟨(hx1_.trans (hx2_.trans hx3_)), ?_⟩
      have : ¬ InsR c a b e := fun h => by have := h.1; omega
      simp only [this, decide_false]
    · refine rd_fld fd135_1 ?_
      refine rd_loadI ty3 (at_DIns_1 hA5) hx3_ fun hI21 => ?_
      refine rd_lss ?_
      refine br (fun c3 => ?_) (fun c3 => ?_)
      · refine ⟨(hx1_.trans (hx2_.trans hx3_)), ?_⟩
        have : ¬ InsR c a b e := fun h => by have := h.2.1; omega
        simp only [this, decide_false]
      · refine rd_fld fd135_1 ?_
        refine rd_loadI ty3 (at_DIns_1 hA5) hx3_ fun hI26 => ?_
        refine rd_var hV4 (hx2_.trans hx3_) ?_
        refine rd_fld fd135_0 ?_
        refine rd_loadI ty3 (at_DIns_0 hA5) hx3_ fun hI29 => ?_
        refine (argMost_ok h0 (e0.trans (hx1_.trans (hx2_.trans hx3_)))).mono ?_
        rintro _ w4_ ⟨hx4_, rfl⟩
        refine ⟨hx4_, ?_⟩
        refine rd_geq ?_
        refine br (fun c4 => ?_) (fun c4 => ?_)
        · refine ⟨(hx1_.trans (hx2_.trans (hx3_.trans hx4_))), ?_⟩
          have : ¬ InsR c a b e := fun h => by have := h.2.1; omega
          simp only [this, decide_false]
        · refine JOIN.mk (fun us w' => us = [] ∧ Ext w4_ w' ∧ (if a.op = 1 ∨ a.op = 2 then termOk 6 a.term = true ∧ (∀ s ∈ readsOf a.term, s ∈ c.globals) else a.term = term0)) ?_ ?_
          · refine rd_fld fd135_0 ?_
            refine rd_loadI ty3 (at_DIns_0 hA5) (hx3_.trans hx4_) fun hI34 => ?_
            refine rd_eql ?_
            refine br (fun c5 => ?_) (fun c5 => ?_)
            · refine rd_fld fd135_2 ?_
              refine rd_load ty133 (at_DIns_2 hA5) (hx3_.trans hx4_) fun v42 h42 => ?_
              refine (implTermOk_ok h42 (hx3_.trans hx4_)).mono ?_
              rintro _ w6_ ⟨hx6_, rfl⟩
              refine rd_not ?_
              refine br_b (fun c6 => ?_) (fun c6 => ?_)
              · refine ⟨(hx1_.trans (hx2_.trans (hx3_.trans (hx4_.trans hx6_)))), ?_⟩
                have : ¬ InsR c a b e := fun h => by have := h.2.2.1; rw [if_pos (.inl c5)] at this; rw [this.1] at c6; cases c6
                simp only [this, decide_false]
              · refine rd_fld fd135_2 ?_
                refine rd_load ty133 (at_DIns_2 hA5) (hx3_.trans (hx4_.trans hx6_)) fun v46 h46 => ?_
                refine (implReadsOf_ok h46 (hx3_.trans (hx4_.trans hx6_))).mono ?_
                rintro r47 w7_ ⟨hx7_, h47⟩
                have hln48 := is_len h47
                refine rd_len u22 h47 ?_
                refine loopC ((readsOf a.term).length) (fun k us w' => us = [.int .i64 (k : Int)] ∧ Ext w7_ w' ∧ (∀ s ∈ (readsOf a.term).take k, s ∈ c.globals)) (0) (by omega) ⟨by simp, Ext.refl w7_, by simp⟩ ?_
                rintro k m7 uu7 w8_ hk7 ⟨hu, hx8_, hinv⟩
                simp only [List.map_cons, List.map_nil, List.cons.injEq, and_true] at hu
                try rw [hu]
                try clear hu
                refine rd_lss ?_
                refine br (fun c7 => ?_) (fun c7 => ?_)
                · refine rd_indexN u22 ty9 h47 (by omega) fun b51 o51 h51 => ?_
                  refine rd_loadS ty9 h51 hx8_ fun hS52 => ?_
                  refine rd_fld fd37_0 ?_
                  refine rd_load ty22 (at_DCode_0 hA4) (hx2_.trans (hx3_.trans (hx4_.trans (hx6_.trans (hx7_.trans hx8_))))) fun v54 h54 => ?_
                  refine (containsStr_ok h54 (hx2_.trans (hx3_.trans (hx4_.trans (hx6_.trans (hx7_.trans hx8_)))))).mono ?_
                  rintro _ w9_ ⟨hx9_, rfl⟩
                  refine rd_nodec ?_
                  refine br (fun c8 => ?_) (fun c8 => ?_)
                  · refine ⟨(hx1_.trans (hx2_.trans (hx3_.trans (hx4_.trans (hx6_.trans (hx7_.trans (hx8_.trans hx9_))))))), ?_⟩
                    have : ¬ InsR c a b e := fun h => by
                      have := h.2.2.1; rw [if_pos (.inl c5)] at this
                      exact c8 (this.2 _ (List.getElem_mem (n := k) (by omega)))
                    simp only [this, decide_false]
                  · refine rd_inc (by omega) ?_
                    refine ⟨m7 - 1, by omega, k + 1, by omega, by simp, (hx8_.trans hx9_), ?_⟩
                    intro s hs
                    rw [List.take_succ_eq_append_getElem (by omega)] at hs
                    rcases List.mem_append.1 hs with hs | hs
                    · exact hinv s hs
                    · simp only [List.mem_cons, List.not_mem_nil, or_false] at hs
                      subst hs
                      exact Decidable.not_not.1 c8
                · refine ⟨by simp, (hx6_.trans (hx7_.trans hx8_)), ?_⟩
                  rw [if_pos (.inl c5)]
                  rw [List.take_of_length_le (by omega)] at hinv
                  exact ⟨by simpa using c6, hinv⟩
            · refine rd_fld fd135_0 ?_
              refine rd_loadI ty3 (at_DIns_0 hA5) (hx3_.trans hx4_) fun hI38 => ?_
              refine rd_eql ?_
              refine br (fun c9 => ?_) (fun c9 => ?_)
              · refine rd_fld fd135_2 ?_
                refine rd_load ty133 (at_DIns_2 hA5) (hx3_.trans hx4_) fun v42 h42 => ?_
                refine (implTermOk_ok h42 (hx3_.trans hx4_)).mono ?_
                rintro _ w10_ ⟨hx10_, rfl⟩
                refine rd_not ?_
                refine br_b (fun c10 => ?_) (fun c10 => ?_)
                · refine ⟨(hx1_.trans (hx2_.trans (hx3_.trans (hx4_.trans hx10_)))), ?_⟩
                  have : ¬ InsR c a b e := fun h => by have := h.2.2.1; rw [if_pos (.inr c9)] at this; rw [this.1] at c10; cases c10
                  simp only [this, decide_false]
                · refine rd_fld fd135_2 ?_
                  refine rd_load ty133 (at_DIns_2 hA5) (hx3_.trans (hx4_.trans hx10_)) fun v46 h46 => ?_
                  refine (implReadsOf_ok h46 (hx3_.trans (hx4_.trans hx10_))).mono ?_
                  rintro r47 w11_ ⟨hx11_, h47⟩
                  have hln48 := is_len h47
                  refine rd_len u22 h47 ?_
                  refine loopC ((readsOf a.term).length) (fun k us w' => us = [.int .i64 (k : Int)] ∧ Ext w11_ w' ∧ (∀ s ∈ (readsOf a.term).take k, s ∈ c.globals)) (0) (by omega) ⟨by simp, Ext.refl w11_, by simp⟩ ?_
                  rintro k m7 uu7 w12_ hk7 ⟨hu, hx12_, hinv⟩
                  simp only [List.map_cons, List.map_nil, List.cons.injEq, and_true] at hu
                  try rw [hu]
                  try clear hu
                  refine rd_lss ?_
                  refine br (fun c11 => ?_) (fun c11 => ?_)
                  · refine rd_indexN u22 ty9 h47 (by omega) fun b51 o51 h51 => ?_
                    refine rd_loadS ty9 h51 hx12_ fun hS52 => ?_
                    refine rd_fld fd37_0 ?_
                    refine rd_load ty22 (at_DCode_0 hA4) (hx2_.trans (hx3_.trans (hx4_.trans (hx10_.trans (hx11_.trans hx12_))))) fun v54 h54 => ?_
                    refine (containsStr_ok h54 (hx2_.trans (hx3_.trans (hx4_.trans (hx10_.trans (hx11_.trans hx12_)))))).mono ?_
                    rintro _ w13_ ⟨hx13_, rfl⟩
                    refine rd_nodec ?_
                    refine br (fun c12 => ?_) (fun c12 => ?_)
                    · refine ⟨(hx1_.trans (hx2_.trans (hx3_.trans (hx4_.trans (hx10_.trans (hx11_.trans (hx12_.trans hx13_))))))), ?_⟩
                      have : ¬ InsR c a b e := fun h => by
                        have := h.2.2.1; rw [if_pos (.inr c9)] at this
                        exact c12 (this.2 _ (List.getElem_mem (n := k) (by omega)))
                      simp only [this, decide_false]
                    · refine rd_inc (by omega) ?_
                      refine ⟨m7 - 1, by omega, k + 1, by omega, by simp, (hx12_.trans hx13_), ?_⟩
                      intro s hs
                      rw [List.take_succ_eq_append_getElem (by omega)] at hs
                      rcases List.mem_append.1 hs with hs | hs
                      · exact hinv s hs
                      · simp only [List.mem_cons, List.not_mem_nil, or_false] at hs
                        subst hs
                        exact Decidable.not_not.1 c12
                  · refine ⟨by simp, (hx10_.trans (hx11_.trans hx12_)), ?_⟩
                    rw [if_pos (.inr c9)]
                    rw [List.take_of_length_le (by omega)] at hinv
                    exact ⟨by simpa using c10, hinv⟩
              · refine rd_fld fd135_2 ?_
                refine rd_load ty133 (at_DIns_2 hA5) (hx3_.trans hx4_) fun v60 h60 => ?_
                refine (isZeroTerm_ok h60 (hx3_.trans hx4_)).mono ?_
                rintro _ w14_ ⟨hx14_, rfl⟩
                refine rd_nodec ?_
                refine br (fun c13 => ?_) (fun c13 => ?_)
                · refine ⟨(hx1_.trans (hx2_.trans (hx3_.trans (hx4_.trans hx14_)))), ?_⟩
                  have : ¬ InsR c a b e := fun h => by have := h.2.2.1; rw [if_neg (by omega)] at this; exact c13 this
                  simp only [this, decide_false]
                · refine ⟨by simp, hx14_, ?_⟩
                  rw [if_neg (by omega)]
                  exact Decidable.not_not.1 c13
          · rintro uj14 w5_ ⟨hu, hx14_, hT⟩
            simp only [List.map_cons, List.map_nil, List.cons.injEq, and_true] at hu
            clear hu
            refine rd_fld fd135_0 ?_
            refine rd_loadI ty3 (at_DIns_0 hA5) (hx3_.trans (hx4_.trans hx14_)) fun hI64 => ?_
            refine rd_eql ?_
            refine br (fun c14 => ?_) (fun c14 => ?_)
            · refine rd_fld fd135_3 ?_
              refine rd_loadI ty3 (at_DIns_3 hA5) (hx3_.trans (hx4_.trans hx14_)) fun hI72 => ?_
              refine rd_geq ?_
              refine br (fun c15 => ?_) (fun c15 => ?_)
              · refine rd_fld fd135_3 ?_
                refine rd_loadI ty3 (at_DIns_3 hA5) (hx3_.trans (hx4_.trans hx14_)) fun hI77 => ?_
                refine rd_lss ?_
                refine ⟨(hx1_.trans (hx2_.trans (hx3_.trans (hx4_.trans hx14_)))), ?_⟩
                first
                  | (have no : ¬ InsR c a b e := fun h => by
                      have h4 := h.2.2.2; rw [if_pos (by omega)] at h4; omega
                     simp only [no, decide_false]
                     done)
                  | (congr 1
                     rw [decide_eq_decide]
                     constructor
                     · exact fun h => ⟨by omega, by omega, hT, by first | (rw [if_pos (by omega)]; omega) | (rw [if_neg (by omega)]; omega)⟩
                     · intro h
                       have h4 := h.2.2.2
                       first | (rw [if_pos (by omega)] at h4; omega) | (rw [if_neg (by omega)] at h4; omega))
              · refine ⟨(hx1_.trans (hx2_.trans (hx3_.trans (hx4_.trans hx14_)))), ?_⟩
                first
                  | (have no : ¬ InsR c a b e := fun h => by
                      have h4 := h.2.2.2; rw [if_pos (by omega)] at h4; omega
                     simp only [no, decide_false]
                     done)
                  | (congr 1
                     rw [decide_eq_decide]
                     constructor
                     · exact fun h => ⟨by omega, by omega, hT, by first | (rw [if_pos (by omega)]; omega) | (rw [if_neg (by omega)]; omega)⟩
                     · intro h
                       have h4 := h.2.2.2
                       first | (rw [if_pos (by omega)] at h4; omega) | (rw [if_neg (by omega)] at h4; omega))
            · refine rd_fld fd135_0 ?_
              refine rd_loadI ty3 (at_DIns_0 hA5) (hx3_.trans (hx4_.trans hx14_)) fun hI68 => ?_
              refine rd_eql ?_
              refine br (fun c16 => ?_) (fun c16 => ?_)
              · refine rd_fld fd135_3 ?_
                refine rd_loadI ty3 (at_DIns_3 hA5) (hx3_.trans (hx4_.trans hx14_)) fun hI72 => ?_
                refine rd_geq ?_
                refine br (fun c17 => ?_) (fun c17 => ?_)
                · refine rd_fld fd135_3 ?_
                  refine rd_loadI ty3 (at_DIns_3 hA5) (hx3_.trans (hx4_.trans hx14_)) fun hI77 => ?_
                  refine rd_lss ?_
                  refine ⟨(hx1_.trans (hx2_.trans (hx3_.trans (hx4_.trans hx14_)))), ?_⟩
                  first
                    | (have no : ¬ InsR c a b e := fun h => by
                        have h4 := h.2.2.2; rw [if_pos (by omega)] at h4; omega
                       simp only [no, decide_false]
                       done)
                    | (congr 1
                       rw [decide_eq_decide]
                       constructor
                       · exact fun h => ⟨by omega, by omega, hT, by first | (rw [if_pos (by omega)]; omega) | (rw [if_neg (by omega)]; omega)⟩
                       · intro h
                         have h4 := h.2.2.2
                         first | (rw [if_pos (by omega)] at h4; omega) | (rw [if_neg (by omega)] at h4; omega))
                · refine ⟨(hx1_.trans (hx2_.trans (hx3_.trans (hx4_.trans hx14_)))), ?_⟩
                  first
                    | (have no : ¬ InsR c a b e := fun h => by
                        have h4 := h.2.2.2; rw [if_pos (by omega)] at h4; omega
                       simp only [no, decide_false]
                       done)
                    | (congr 1
                       rw [decide_eq_decide]
                       constructor
                       · exact fun h => ⟨by omega, by omega, hT, by first | (rw [if_pos (by omega)]; omega) | (rw [if_neg (by omega)]; omega)⟩
                       · intro h
                         have h4 := h.2.2.2
                         first | (rw [if_pos (by omega)] at h4; omega) | (rw [if_neg (by omega)] at h4; omega))
              · refine rd_fld fd135_3 ?_
                refine rd_loadI ty3 (at_DIns_3 hA5) (hx3_.trans (hx4_.trans hx14_)) fun hI82 => ?_
                refine rd_eql ?_
                refine ⟨(hx1_.trans (hx2_.trans (hx3_.trans (hx4_.trans hx14_)))), ?_⟩
                first
                  | (have no : ¬ InsR c a b e := fun h => by
                      have h4 := h.2.2.2; rw [if_pos (by omega)] at h4; omega
                     simp only [no, decide_false]
                     done)
                  | (congr 1
                     rw [decide_eq_decide]
                     constructor
                     · exact fun h => ⟨by omega, by omega, hT, by first | (rw [if_pos (by omega)]; omega) | (rw [if_neg (by omega)]; omega)⟩
                     · intro h
                       have h4 := h.2.2.2
                       first | (rw [if_pos (by omega)] at h4; omega) | (rw [if_neg (by omega)] at h4; omega))

end Go.Proofs.YteephmhilnlkpaaGreat
