/-
  Parts of the proof, put together by program.
-/
import Derived.Test.YtjgfldfbljmhhaaGreatPSeenAll3
namespace Go.Proofs.YtjgfldfbljmhhaaGreat
open Go Go.Sh Go.Proofs
set_option linter.unusedVariables false
set_option linter.unusedSimpArgs false
def ins0 : DIns := ⟨0, 0, term0, 0⟩
def en (c : DCode) (i : Nat) : Int := c.entry.getD i 0
def insAt (c : DCode) (j : Nat) : DIns := c.ins.getD j ins0
theorem en_get {c : DCode} {i : Nat} (h : i < c.entry.length) : c.entry[i] = en c i := by unfold en; rw [List.getD_eq_getElem?_getD, List.getElem?_eq_getElem h]; rfl
theorem insAt_get {c : DCode} {i : Nat} (h : i < c.ins.length) : c.ins[i] = insAt c i := by unfold insAt; rw [List.getD_eq_getElem?_getD, List.getElem?_eq_getElem h]; rfl
def prc (c : DCode) (a : Int) : Nat → Int
  | 0 => -1
  | n + 1 => if en c n ≤ a then n else prc c a n
def procOf (c : DCode) (a : Int) : Int := prc c a c.entry.length
theorem prc_skip {c : DCode} {a : Int} {m : Nat} : ∀ {n : Nat}, m ≤ n → (∀ j, m ≤ j → j < n → a < en c j) → prc c a n = prc c a m
  | 0, h, _ => by rw [Nat.le_zero.1 h]
  | n + 1, h, hj => by
    by_cases e : m = n + 1
    · rw [e]
    · rw [prc, if_neg (by have := hj n (by omega) (by omega); omega)]
      exact prc_skip (by omega) fun j h1 h2 => hj j h1 (by omega)
theorem prc_lt {c : DCode} {a : Int} : ∀ (n : Nat), -1 ≤ prc c a n ∧ prc c a n < n
  | 0 => by simp [prc]
  | n + 1 => by
    have := prc_lt (c := c) (a := a) n
    rw [prc]
    split <;> omega
theorem procOf_lt {c : DCode} {a : Int} : -1 ≤ procOf c a ∧ procOf c a < c.entry.length := prc_lt _
def endOf (c : DCode) (p : Int) : Int := if p + 1 < c.entry.length then en c (p + 1).toNat - 1 else (c.ins.length : Int) - 1
def endB (c : DCode) (i : Nat) : Int := if i + 1 < c.entry.length then en c (i + 1) else c.ins.length
theorem endOf_eq (c : DCode) (i : Nat) : endOf c i = endB c i - 1 := by
  unfold endOf endB
  have e : ((i : Int) + 1).toNat = i + 1 := by omega
  by_cases h : i + 1 < c.entry.length
  · rw [if_pos (by omega), if_pos h, e]
  · rw [if_neg (by omega), if_neg h]
def F175 (a0 a1 : Value) (w : World) (R : Value → World → Prop) : Prop :=
 OP Tryz.prog (Instr.box 35 a0) w fun x2 w =>
 RD Tryz.prog (Instr.fieldAt 35 x2 3) w fun x6 =>
 RD Tryz.prog (Instr.loadAt 23 x6) w fun x7 =>
 RD Tryz.prog (Builtin.len_ #[23] 3 [x7].toArray) w fun x8 =>
 RD Tryz.prog (bin .sub 3 (.tmp 0) (.const undef) x8 (Value.int .i64 1)) w fun x9 =>
 LOOPI [5] [x9] w fun u2 w next2 =>
 RD Tryz.prog (bin .geq 3 (.tmp 0) (.const undef) (u2 5) (Value.int .i64 0)) w fun x11 =>
 BR x11
 (RD Tryz.prog (Instr.fieldAt 35 x2 3) w fun x14 =>
 RD Tryz.prog (Instr.loadAt 23 x14) w fun x15 =>
 RD Tryz.prog (Instr.indexAt 23 x15 (u2 5)) w fun x17 =>
 RD Tryz.prog (Instr.loadAt 3 x17) w fun x18 =>
 RD Tryz.prog (bin .leq 3 (.tmp 0) (.tmp 0) x18 a1) w fun x20 =>
 BR x20
 (R (u2 5) w)
 (RD Tryz.prog (bin .sub 3 (.tmp 0) (.const undef) (u2 5) (Value.int .i64 1)) w fun x13 =>
 next2 [x13] w))
 (R (Value.int .i64 (-1)) w)
def cfg175 : Cfg := { ext := extL, joins := [], loops := [(2, 4193328, [5])], draws := [], pars := [] }
theorem F175_eq (a0 a1 : Value) (w : World) (R : Value → World → Prop) : vcF Tryz.prog cfg175 Tryz.f175 [a0, a1] w R = F175 a0 a1 w R := by kernel_rfl
theorem F175_call {a0 a1 : Value} {w : World} {R : Value → World → Prop} (h : F175 a0 a1 w R) : CALL Tryz.prog 175 [a0, a1] w R :=
  call_of (g := cfg175) ent mixed Tryz.func175 (Nat.le_of_ble_eq_true (by kernel_rfl)) (by kernel_rfl) (F175_eq a0 a1 w R ▸ h)
theorem l08Proc_ok {w : World} {v0 : Value} {W0 : World} {c : DCode} {a : Int}  (h0 : Is W0 v0 c) (e0 : Ext W0 w)  :
    CALL Tryz.prog 175 [v0, .int .i64 a] w fun r w' => Ext w w' ∧ (r = .int .i64 (procOf c a)) := by
  refine F175_call ?_
  unfold F175
  refine op_boxS ty35 rfl h0 e0 fun w1_ hx1_ hA2 hV2 => ?_
  refine rd_fld fd35_3 ?_
  refine rd_load ty23 (at_DCode_3 hA2) (Ext.refl w1_) fun v7 h7 => ?_
  have hln8 := is_len h7
  refine rd_len u23 h7 ?_
  refine rd_sub (by unfold I64; omega) ?_
  refine loopC (c.entry.length) (fun k us w' => us = [.int .i64 ((c.entry.length : Int) - 1 - (k : Int))] ∧ Ext w1_ w' ∧ (∀ j, c.entry.length - k ≤ j → j < c.entry.length → a < en c j)) (0) (by omega) ⟨by simp, Ext.refl w1_, fun j h1 h2 => by omega⟩ ?_
  rintro k m2 uu2 w2_ hk2 ⟨hu, hx2_, hinv⟩
  simp only [List.map_cons, List.map_nil, List.cons.injEq, and_true] at hu
  try rw [hu]
  try clear hu
  have hln := is_len h7
  refine rd_geq ?_
  refine br (fun c1 => ?_) (fun c1 => ?_)
  · refine rd_fld fd35_3 ?_
    refine rd_load ty23 (at_DCode_3 hA2) hx2_ fun v15 h15 => ?_
    refine rd_index u23 ty3 h15 (by omega) (by omega) fun b17 o17 h17 => ?_
    have hn17 : ((c.entry.length : Int) - 1 - (k : Int)).toNat = c.entry.length - k - 1 := by omega
    simp only [hn17] at h17
    refine rd_loadI ty3 h17 hx2_ fun hI18 => ?_
    refine rd_leq ?_
    refine br (fun c2 => ?_) (fun c2 => ?_)
    · refine ⟨(hx1_.trans hx2_), ?_⟩
      rw [en_get] at c2
      unfold procOf
      rw [prc_skip (m := c.entry.length - k) (by omega) hinv, show c.entry.length - k = (c.entry.length - k - 1) + 1 by omega, prc, if_pos c2]
      congr 1
      omega
    · refine rd_sub (by unfold I64; omega) ?_
      refine ⟨m2 - 1, by omega, k + 1, by omega, by simp; omega, hx2_, ?_⟩
      intro j h1 h2
      by_cases hj : j = c.entry.length - k - 1
      · subst hj
        rw [en_get] at c2
        omega
      · exact hinv j (by omega) h2
  · refine ⟨(hx1_.trans hx2_), ?_⟩
    unfold procOf
    rw [prc_skip (m := c.entry.length - k) (by omega) hinv, show c.entry.length - k = 0 by omega]
    rfl
def F116 (a0 a1 : Value) (w : World) (R : Value → World → Prop) : Prop :=
 OP Tryz.prog (Instr.box 35 a0) w fun x2 w =>
 RD Tryz.prog (bin .add 3 (.tmp 0) (.const undef) a1 (Value.int .i64 1)) w fun x6 =>
 RD Tryz.prog (Instr.fieldAt 35 x2 3) w fun x7 =>
 RD Tryz.prog (Instr.loadAt 23 x7) w fun x8 =>
 RD Tryz.prog (Builtin.len_ #[23] 3 [x8].toArray) w fun x9 =>
 RD Tryz.prog (bin .lss 3 (.tmp 0) (.tmp 0) x6 x9) w fun x10 =>
 BR x10
 (RD Tryz.prog (Instr.fieldAt 35 x2 3) w fun x11 =>
 RD Tryz.prog (Instr.loadAt 23 x11) w fun x12 =>
 RD Tryz.prog (bin .add 3 (.tmp 0) (.const undef) a1 (Value.int .i64 1)) w fun x14 =>
 RD Tryz.prog (Instr.indexAt 23 x12 x14) w fun x15 =>
 RD Tryz.prog (Instr.loadAt 3 x15) w fun x16 =>
 RD Tryz.prog (bin .sub 3 (.tmp 0) (.const undef) x16 (Value.int .i64 1)) w fun x17 =>
 R x17 w)
 (RD Tryz.prog (Instr.fieldAt 35 x2 4) w fun x18 =>
 RD Tryz.prog (Instr.loadAt 33 x18) w fun x19 =>
 RD Tryz.prog (Builtin.len_ #[33] 3 [x19].toArray) w fun x20 =>
 RD Tryz.prog (bin .sub 3 (.tmp 0) (.const undef) x20 (Value.int .i64 1)) w fun x21 =>
 R x21 w)
def cfg116 : Cfg := { ext := extL, joins := [], loops := [], draws := [], pars := [] }
theorem F116_eq (a0 a1 : Value) (w : World) (R : Value → World → Prop) : vcF Tryz.prog cfg116 Tryz.f116 [a0, a1] w R = F116 a0 a1 w R := by kernel_rfl
theorem F116_call {a0 a1 : Value} {w : World} {R : Value → World → Prop} (h : F116 a0 a1 w R) : CALL Tryz.prog 116 [a0, a1] w R :=
  call_of (g := cfg116) ent mixed Tryz.func116 (Nat.le_of_ble_eq_true (by kernel_rfl)) (by kernel_rfl) (F116_eq a0 a1 w R ▸ h)
theorem l08End_ok {w : World} {v0 : Value} {W0 : World} {c : DCode} {p : Int}  (h0 : Is W0 v0 c) (e0 : Ext W0 w) (hp0 : -1 ≤ p) (hp1 : p < 1000000000000) (hE : ∀ i, i < c.entry.length → 0 ≤ en c i) :
    CALL Tryz.prog 116 [v0, .int .i64 p] w fun r w' => Ext w w' ∧ (r = .int .i64 (endOf c p)) := by
  refine F116_call ?_
  unfold F116
  refine op_boxS ty35 rfl h0 e0 fun w1_ hx1_ hA2 hV2 => ?_
  refine rd_add (by unfold I64; omega) ?_
  refine rd_fld fd35_3 ?_
  refine rd_load ty23 (at_DCode_3 hA2) (Ext.refl w1_) fun v8 h8 => ?_
  have hln9 := is_len h8
  refine rd_len u23 h8 ?_
  refine rd_lss ?_
  refine br (fun c1 => ?_) (fun c1 => ?_)
  · refine rd_fld fd35_3 ?_
    refine rd_load ty23 (at_DCode_3 hA2) (Ext.refl w1_) fun v12 h12 => ?_
    refine rd_add (by unfold I64; omega) ?_
    refine rd_index u23 ty3 h12 (by omega) (by omega) fun b15 o15 h15 => ?_
    refine rd_loadI ty3 h15 (Ext.refl w1_) fun hI16 => ?_
    have hE1 := hE (p + 1).toNat (by omega)
    rw [← en_get (by omega)] at hE1
    refine rd_sub (by unfold I64 at *; omega) ?_
    refine ⟨hx1_, ?_⟩
    unfold endOf
    rw [if_pos c1, en_get]
  · refine rd_fld fd35_4 ?_
    refine rd_load ty33 (at_DCode_4 hA2) (Ext.refl w1_) fun v19 h19 => ?_
    have hln20 := is_len h19
    refine rd_len u33 h19 ?_
    refine rd_sub (by unfold I64; have := is_len h19; omega) ?_
    refine ⟨hx1_, ?_⟩
    unfold endOf
    rw [if_neg c1]
def mainS : ByteArray := ByteArray.mk #[109, 97, 105, 110]
def NamesR (c : DCode) : Prop := (decide ((c.globals.length : Int) ≤ 6) && c.globals.all nameB) = true ∧ (decide ((c.locks.length : Int) ≤ 6) && c.locks.all nameB) = true ∧ (decide ((c.procs.length : Int) ≤ 8) && c.procs.all nameB) = true ∧
  c.globals.Nodup ∧ c.locks.Nodup ∧ c.procs.Nodup ∧ mainS ∈ c.procs
instance (c : DCode) : Decidable (NamesR c) := by unfold NamesR; infer_instance
def EntS (c : DCode) : Prop := c.entry.length = c.procs.length ∧ c.ins.length ≤ 1500 ∧ (∀ i, i < c.entry.length → (i = 0 → en c 0 = 0) ∧ (0 < i → en c (i - 1) < en c i) ∧ en c i < c.ins.length) ∧
  ∀ j, j < c.ins.length → ((insAt c j).op = 9 ↔ endOf c (procOf c j) = j)
instance (c : DCode) : Decidable (EntS c) := by unfold EntS; infer_instance
theorem all_succ {P : Nat → Prop} {k : Nat} (h : ∀ i, i < k → P i) (hk : P k) : ∀ i, i < k + 1 → P i := fun i hi => by
  by_cases e : i = k
  · rw [e]; exact hk
  · exact h i (by omega)
theorem ent_nonneg {c : DCode} {n : Nat} {m : Int} (h : ∀ i, i < n → (i = 0 → en c 0 = 0) ∧ (0 < i → en c (i - 1) < en c i) ∧ en c i < m) : ∀ i, i < n → 0 ≤ en c i
  | 0, hi => by rw [(h 0 hi).1 rfl]; omega
  | i + 1, hi => by
    have h1 := ent_nonneg h i (by omega)
    have h2 := (h (i + 1) hi).2.1 (by omega)
    simp only [Nat.add_sub_cancel] at h2
    omega
def F138 (a0 : Value) (w : World) (R : Value → World → Prop) : Prop :=
 OP Tryz.prog (Instr.box 35 a0) w fun x1 w =>
 RD Tryz.prog (Instr.fieldAt 35 x1 0) w fun x5 =>
 RD Tryz.prog (Instr.loadAt 22 x5) w fun x6 =>
 CALL Tryz.prog 202 [x6, (Value.int .i64 6)] w fun x7 w =>
 RD Tryz.prog (Op.unary .not x7) w fun x8 =>
 BR x8
 (R (Value.bool false) w)
 (RD Tryz.prog (Instr.fieldAt 35 x1 1) w fun x10 =>
 RD Tryz.prog (Instr.loadAt 22 x10) w fun x11 =>
 CALL Tryz.prog 202 [x11, (Value.int .i64 6)] w fun x12 w =>
 RD Tryz.prog (Op.unary .not x12) w fun x13 =>
 BR x13
 (R (Value.bool false) w)
 (RD Tryz.prog (Instr.fieldAt 35 x1 2) w fun x16 =>
 RD Tryz.prog (Instr.loadAt 22 x16) w fun x17 =>
 CALL Tryz.prog 202 [x17, (Value.int .i64 8)] w fun x18 w =>
 RD Tryz.prog (Op.unary .not x18) w fun x19 =>
 BR x19
 (R (Value.bool false) w)
 (RD Tryz.prog (Instr.fieldAt 35 x1 0) w fun x22 =>
 RD Tryz.prog (Instr.loadAt 22 x22) w fun x23 =>
 CALL Tryz.prog 203 [x23] w fun x24 w =>
 BR x24
 (R (Value.bool false) w)
 (RD Tryz.prog (Instr.fieldAt 35 x1 1) w fun x27 =>
 RD Tryz.prog (Instr.loadAt 22 x27) w fun x28 =>
 CALL Tryz.prog 203 [x28] w fun x29 w =>
 BR x29
 (R (Value.bool false) w)
 (RD Tryz.prog (Instr.fieldAt 35 x1 2) w fun x32 =>
 RD Tryz.prog (Instr.loadAt 22 x32) w fun x33 =>
 CALL Tryz.prog 203 [x33] w fun x34 w =>
 BR x34
 (R (Value.bool false) w)
 (RD Tryz.prog (Instr.fieldAt 35 x1 3) w fun x37 =>
 RD Tryz.prog (Instr.loadAt 23 x37) w fun x38 =>
 RD Tryz.prog (Builtin.len_ #[23] 3 [x38].toArray) w fun x39 =>
 RD Tryz.prog (Instr.fieldAt 35 x1 2) w fun x40 =>
 RD Tryz.prog (Instr.loadAt 22 x40) w fun x41 =>
 RD Tryz.prog (Builtin.len_ #[22] 3 [x41].toArray) w fun x42 =>
 RD Tryz.prog (bin .neq 3 (.tmp 0) (.tmp 0) x39 x42) w fun x43 =>
 BR x43
 (R (Value.bool false) w)
 (RD Tryz.prog (Instr.fieldAt 35 x1 4) w fun x46 =>
 RD Tryz.prog (Instr.loadAt 33 x46) w fun x47 =>
 RD Tryz.prog (Builtin.len_ #[33] 3 [x47].toArray) w fun x48 =>
 RD Tryz.prog (bin .gtr 3 (.tmp 0) (.const undef) x48 (Value.int .i64 1500)) w fun x49 =>
 BR x49
 (R (Value.bool false) w)
 (RD Tryz.prog (Instr.fieldAt 35 x1 2) w fun x52 =>
 RD Tryz.prog (Instr.loadAt 22 x52) w fun x53 =>
 CALL Tryz.prog 204 [x53, (Value.string (ByteArray.mk #[109, 97, 105, 110]))] w fun x54 w =>
 RD Tryz.prog (bin .lss 3 (.tmp 0) (.const undef) x54 (Value.int .i64 0)) w fun x55 =>
 BR x55
 (R (Value.bool false) w)
 (LOOPI [3] [(Value.int .i64 0)] w fun u4 w next4 =>
 RD Tryz.prog (Instr.fieldAt 35 x1 3) w fun x58 =>
 RD Tryz.prog (Instr.loadAt 23 x58) w fun x59 =>
 RD Tryz.prog (Builtin.len_ #[23] 3 [x59].toArray) w fun x60 =>
 RD Tryz.prog (bin .lss 3 (.tmp 0) (.tmp 0) (u4 3) x60) w fun x61 =>
 BR x61
 ((fun w => RD Tryz.prog (bin .eql 3 (.tmp 0) (.const undef) (u4 3) (Value.int .i64 0)) w fun x65 =>
 BR x65
 (RD Tryz.prog (Instr.fieldAt 35 x1 3) w fun x67 =>
 RD Tryz.prog (Instr.loadAt 23 x67) w fun x68 =>
 RD Tryz.prog (Instr.indexAt 23 x68 (Value.int .i64 0)) w fun x69 =>
 RD Tryz.prog (Instr.loadAt 3 x69) w fun x70 =>
 RD Tryz.prog (bin .neq 3 (.tmp 0) (.const undef) x70 (Value.int .i64 0)) w fun x71 =>
 BR x71
 (R (Value.bool false) w)
 (RD Tryz.prog (bin .gtr 3 (.tmp 0) (.const undef) (u4 3) (Value.int .i64 0)) w fun x75 =>
 GBR x75
 (RD Tryz.prog (Instr.fieldAt 35 x1 3) w fun x77 =>
 RD Tryz.prog (Instr.loadAt 23 x77) w fun x78 =>
 RD Tryz.prog (Instr.indexAt 23 x78 (u4 3)) w fun x80 =>
 RD Tryz.prog (Instr.loadAt 3 x80) w fun x81 =>
 RD Tryz.prog (Instr.fieldAt 35 x1 3) w fun x82 =>
 RD Tryz.prog (Instr.loadAt 23 x82) w fun x83 =>
 RD Tryz.prog (bin .sub 3 (.tmp 0) (.const undef) (u4 3) (Value.int .i64 1)) w fun x85 =>
 RD Tryz.prog (Instr.indexAt 23 x83 x85) w fun x86 =>
 RD Tryz.prog (Instr.loadAt 3 x86) w fun x87 =>
 RD Tryz.prog (bin .leq 3 (.tmp 0) (.tmp 0) x81 x87) w fun x88 =>
 BR x88
 (R (Value.bool false) w)
 (RD Tryz.prog (Instr.fieldAt 35 x1 3) w fun x92 =>
 RD Tryz.prog (Instr.loadAt 23 x92) w fun x93 =>
 RD Tryz.prog (Instr.indexAt 23 x93 (u4 3)) w fun x95 =>
 RD Tryz.prog (Instr.loadAt 3 x95) w fun x96 =>
 RD Tryz.prog (Instr.fieldAt 35 x1 4) w fun x97 =>
 RD Tryz.prog (Instr.loadAt 33 x97) w fun x98 =>
 RD Tryz.prog (Builtin.len_ #[33] 3 [x98].toArray) w fun x99 =>
 RD Tryz.prog (bin .geq 3 (.tmp 0) (.tmp 0) x96 x99) w fun x100 =>
 BR x100
 (R (Value.bool false) w)
 (RD Tryz.prog (bin .add 3 (.tmp 0) (.const undef) (u4 3) (Value.int .i64 1)) w fun x63 =>
 next4 [x63] w)))
 (RD Tryz.prog (Instr.fieldAt 35 x1 3) w fun x92 =>
 RD Tryz.prog (Instr.loadAt 23 x92) w fun x93 =>
 RD Tryz.prog (Instr.indexAt 23 x93 (u4 3)) w fun x95 =>
 RD Tryz.prog (Instr.loadAt 3 x95) w fun x96 =>
 RD Tryz.prog (Instr.fieldAt 35 x1 4) w fun x97 =>
 RD Tryz.prog (Instr.loadAt 33 x97) w fun x98 =>
 RD Tryz.prog (Builtin.len_ #[33] 3 [x98].toArray) w fun x99 =>
 RD Tryz.prog (bin .geq 3 (.tmp 0) (.tmp 0) x96 x99) w fun x100 =>
 BR x100
 (R (Value.bool false) w)
 (RD Tryz.prog (bin .add 3 (.tmp 0) (.const undef) (u4 3) (Value.int .i64 1)) w fun x63 =>
 next4 [x63] w))
 (BR undef
 (BR undef
 (R (Value.bool false) w)
 (RD Tryz.prog (Instr.fieldAt 35 x1 3) w fun x92 =>
 RD Tryz.prog (Instr.loadAt 23 x92) w fun x93 =>
 RD Tryz.prog (Instr.indexAt 23 x93 (u4 3)) w fun x95 =>
 RD Tryz.prog (Instr.loadAt 3 x95) w fun x96 =>
 RD Tryz.prog (Instr.fieldAt 35 x1 4) w fun x97 =>
 RD Tryz.prog (Instr.loadAt 33 x97) w fun x98 =>
 RD Tryz.prog (Builtin.len_ #[33] 3 [x98].toArray) w fun x99 =>
 RD Tryz.prog (bin .geq 3 (.tmp 0) (.tmp 0) x96 x99) w fun x100 =>
 BR x100
 (R (Value.bool false) w)
 (RD Tryz.prog (bin .add 3 (.tmp 0) (.const undef) (u4 3) (Value.int .i64 1)) w fun x63 =>
 next4 [x63] w)))
 (RD Tryz.prog (Instr.fieldAt 35 x1 3) w fun x92 =>
 RD Tryz.prog (Instr.loadAt 23 x92) w fun x93 =>
 RD Tryz.prog (Instr.indexAt 23 x93 (u4 3)) w fun x95 =>
 RD Tryz.prog (Instr.loadAt 3 x95) w fun x96 =>
 RD Tryz.prog (Instr.fieldAt 35 x1 4) w fun x97 =>
 RD Tryz.prog (Instr.loadAt 33 x97) w fun x98 =>
 RD Tryz.prog (Builtin.len_ #[33] 3 [x98].toArray) w fun x99 =>
 RD Tryz.prog (bin .geq 3 (.tmp 0) (.tmp 0) x96 x99) w fun x100 =>
 BR x100
 (R (Value.bool false) w)
 (RD Tryz.prog (bin .add 3 (.tmp 0) (.const undef) (u4 3) (Value.int .i64 1)) w fun x63 =>
 next4 [x63] w)))))
 (RD Tryz.prog (bin .gtr 3 (.tmp 0) (.const undef) (u4 3) (Value.int .i64 0)) w fun x75 =>
 GBR x75
 (RD Tryz.prog (Instr.fieldAt 35 x1 3) w fun x77 =>
 RD Tryz.prog (Instr.loadAt 23 x77) w fun x78 =>
 RD Tryz.prog (Instr.indexAt 23 x78 (u4 3)) w fun x80 =>
 RD Tryz.prog (Instr.loadAt 3 x80) w fun x81 =>
 RD Tryz.prog (Instr.fieldAt 35 x1 3) w fun x82 =>
 RD Tryz.prog (Instr.loadAt 23 x82) w fun x83 =>
 RD Tryz.prog (bin .sub 3 (.tmp 0) (.const undef) (u4 3) (Value.int .i64 1)) w fun x85 =>
 RD Tryz.prog (Instr.indexAt 23 x83 x85) w fun x86 =>
 RD Tryz.prog (Instr.loadAt 3 x86) w fun x87 =>
 RD Tryz.prog (bin .leq 3 (.tmp 0) (.tmp 0) x81 x87) w fun x88 =>
 BR x88
 (R (Value.bool false) w)
 (RD Tryz.prog (Instr.fieldAt 35 x1 3) w fun x92 =>
 RD Tryz.prog (Instr.loadAt 23 x92) w fun x93 =>
 RD Tryz.prog (Instr.indexAt 23 x93 (u4 3)) w fun x95 =>
 RD Tryz.prog (Instr.loadAt 3 x95) w fun x96 =>
 RD Tryz.prog (Instr.fieldAt 35 x1 4) w fun x97 =>
 RD Tryz.prog (Instr.loadAt 33 x97) w fun x98 =>
 RD Tryz.prog (Builtin.len_ #[33] 3 [x98].toArray) w fun x99 =>
 RD Tryz.prog (bin .geq 3 (.tmp 0) (.tmp 0) x96 x99) w fun x100 =>
 BR x100
 (R (Value.bool false) w)
 (RD Tryz.prog (bin .add 3 (.tmp 0) (.const undef) (u4 3) (Value.int .i64 1)) w fun x63 =>
 next4 [x63] w)))
 (RD Tryz.prog (Instr.fieldAt 35 x1 3) w fun x92 =>
 RD Tryz.prog (Instr.loadAt 23 x92) w fun x93 =>
 RD Tryz.prog (Instr.indexAt 23 x93 (u4 3)) w fun x95 =>
 RD Tryz.prog (Instr.loadAt 3 x95) w fun x96 =>
 RD Tryz.prog (Instr.fieldAt 35 x1 4) w fun x97 =>
 RD Tryz.prog (Instr.loadAt 33 x97) w fun x98 =>
 RD Tryz.prog (Builtin.len_ #[33] 3 [x98].toArray) w fun x99 =>
 RD Tryz.prog (bin .geq 3 (.tmp 0) (.tmp 0) x96 x99) w fun x100 =>
 BR x100
 (R (Value.bool false) w)
 (RD Tryz.prog (bin .add 3 (.tmp 0) (.const undef) (u4 3) (Value.int .i64 1)) w fun x63 =>
 next4 [x63] w))
 (BR undef
 (BR undef
 (R (Value.bool false) w)
 (RD Tryz.prog (Instr.fieldAt 35 x1 3) w fun x92 =>
 RD Tryz.prog (Instr.loadAt 23 x92) w fun x93 =>
 RD Tryz.prog (Instr.indexAt 23 x93 (u4 3)) w fun x95 =>
 RD Tryz.prog (Instr.loadAt 3 x95) w fun x96 =>
 RD Tryz.prog (Instr.fieldAt 35 x1 4) w fun x97 =>
 RD Tryz.prog (Instr.loadAt 33 x97) w fun x98 =>
 RD Tryz.prog (Builtin.len_ #[33] 3 [x98].toArray) w fun x99 =>
 RD Tryz.prog (bin .geq 3 (.tmp 0) (.tmp 0) x96 x99) w fun x100 =>
 BR x100
 (R (Value.bool false) w)
 (RD Tryz.prog (bin .add 3 (.tmp 0) (.const undef) (u4 3) (Value.int .i64 1)) w fun x63 =>
 next4 [x63] w)))
 (RD Tryz.prog (Instr.fieldAt 35 x1 3) w fun x92 =>
 RD Tryz.prog (Instr.loadAt 23 x92) w fun x93 =>
 RD Tryz.prog (Instr.indexAt 23 x93 (u4 3)) w fun x95 =>
 RD Tryz.prog (Instr.loadAt 3 x95) w fun x96 =>
 RD Tryz.prog (Instr.fieldAt 35 x1 4) w fun x97 =>
 RD Tryz.prog (Instr.loadAt 33 x97) w fun x98 =>
 RD Tryz.prog (Builtin.len_ #[33] 3 [x98].toArray) w fun x99 =>
 RD Tryz.prog (bin .geq 3 (.tmp 0) (.tmp 0) x96 x99) w fun x100 =>
 BR x100
 (R (Value.bool false) w)
 (RD Tryz.prog (bin .add 3 (.tmp 0) (.const undef) (u4 3) (Value.int .i64 1)) w fun x63 =>
 next4 [x63] w))))) (World.drew1 w))
 (LOOPI [4] [(Value.int .i64 0)] w fun u9 w next9 =>
 RD Tryz.prog (Instr.fieldAt 35 x1 4) w fun x103 =>
 RD Tryz.prog (Instr.loadAt 33 x103) w fun x104 =>
 RD Tryz.prog (Builtin.len_ #[33] 3 [x104].toArray) w fun x105 =>
 RD Tryz.prog (bin .lss 3 (.tmp 0) (.tmp 0) (u9 4) x105) w fun x106 =>
 BR x106
 ((fun w => RD Tryz.prog (Instr.fieldAt 35 x1 4) w fun x109 =>
 RD Tryz.prog (Instr.loadAt 33 x109) w fun x110 =>
 RD Tryz.prog (Instr.indexAt 33 x110 (u9 4)) w fun x112 =>
 RD Tryz.prog (Instr.fieldAt 136 x112 0) w fun x113 =>
 RD Tryz.prog (Instr.loadAt 3 x113) w fun x114 =>
 RD Tryz.prog (bin .eql 3 (.tmp 0) (.const undef) x114 (Value.int .i64 9)) w fun x115 =>
 RD Tryz.prog (Instr.loadAt 35 x1) w fun x116 =>
 RD Tryz.prog (Instr.loadAt 35 x1) w fun x117 =>
 (fun w_ => CALL Tryz.prog 175 [x117, (u9 4)] w_ fun x119 w =>
 Ext w_ w ∧
 (fun w_ => CALL Tryz.prog 116 [x116, x119] w_ fun x120 w =>
 Ext w_ w ∧
 RD Tryz.prog (bin .eql 3 (.tmp 0) (.tmp 0) x120 (u9 4)) w fun x122 =>
 RD Tryz.prog (bin .neq 4 (.tmp 0) (.tmp 0) x115 x122) w fun x123 =>
 BR x123
 (R (Value.bool false) w)
 (RD Tryz.prog (bin .add 3 (.tmp 0) (.const undef) (u9 4) (Value.int .i64 1)) w fun x108 =>
 next9 [x108] w)) w) w) (World.drew1 w))
 (R (Value.bool true) w)))))))))))
def cfg138 : Cfg := { ext := extL, joins := [], loops := [(4, 5070602400912773490798736965644, [3]), (9, 21267642861956253053543306977672691732, [4])], draws := [(6, [0, 1, 2, 3, 4, 5, 6, 7, 8, 9, 10, 11, 12, 13, 14, 15, 16, 17, 18, 19, 20, 21, 22, 23, 24, 25, 26, 27, 28, 29, 30, 31, 32, 33, 34, 35, 36, 37], 0), (11, [0, 1, 2, 3, 4, 5, 6, 7, 8, 9, 12, 10, 11, 13, 14], 3072)], pars := [] }
theorem F138_eq (a0 : Value) (w : World) (R : Value → World → Prop) : vcF Tryz.prog cfg138 Tryz.f138 [a0] w R = F138 a0 w R := by kernel_rfl
theorem F138_call {a0 : Value} {w : World} {R : Value → World → Prop} (h : F138 a0 w R) : CALL Tryz.prog 138 [a0] w R :=
  call_of (g := cfg138) ent mixed Tryz.func138 (Nat.le_of_ble_eq_true (by kernel_rfl)) (by kernel_rfl) (F138_eq a0 w R ▸ h)
theorem l08Heads_ok {w : World} {v0 : Value} {W0 : World} {c : DCode}  (h0 : Is W0 v0 c) (e0 : Ext W0 w)  :
    CALL Tryz.prog 138 [v0] w fun r w' => Ext w w' ∧ (r = .bool (decide (NamesR c ∧ EntS c))) := by
  refine F138_call ?_
  unfold F138
  refine op_boxS ty35 rfl h0 e0 fun w1_ hx1_ hA1 hV1 => ?_
  refine rd_fld fd35_0 ?_
  refine rd_load ty22 (at_DCode_0 hA1) (Ext.refl w1_) fun v6 h6 => ?_
  refine (l05Names_ok h6 (Ext.refl w1_)).mono ?_
  rintro _ w2_ ⟨hx2_, rfl⟩
  refine rd_not ?_
  refine br_b (fun c1 => ?_) (fun c1 => ?_)
  · refine ⟨(hx1_.trans hx2_), ?_⟩
    have : ¬ (NamesR c ∧ EntS c) := fun h => by rw [h.1.1] at c1; cases c1
    simp only [this, decide_false]
  · refine rd_fld fd35_1 ?_
    refine rd_load ty22 (at_DCode_1 hA1) hx2_ fun v11 h11 => ?_
    refine (l05Names_ok h11 hx2_).mono ?_
    rintro _ w3_ ⟨hx3_, rfl⟩
    refine rd_not ?_
    refine br_b (fun c2 => ?_) (fun c2 => ?_)
    · refine ⟨(hx1_.trans (hx2_.trans hx3_)), ?_⟩
      have : ¬ (NamesR c ∧ EntS c) := fun h => by rw [h.1.2.1] at c2; cases c2
      simp only [this, decide_false]
    · refine rd_fld fd35_2 ?_
      refine rd_load ty22 (at_DCode_2 hA1) (hx2_.trans hx3_) fun v17 h17 => ?_
      refine (l05Names_ok h17 (hx2_.trans hx3_)).mono ?_
      rintro _ w4_ ⟨hx4_, rfl⟩
      refine rd_not ?_
      refine br_b (fun c3 => ?_) (fun c3 => ?_)
      · refine ⟨(hx1_.trans (hx2_.trans (hx3_.trans hx4_))), ?_⟩
        have : ¬ (NamesR c ∧ EntS c) := fun h => by rw [h.1.2.2.1] at c3; cases c3
        simp only [this, decide_false]
      · refine rd_fld fd35_0 ?_
        refine rd_load ty22 (at_DCode_0 hA1) (hx2_.trans (hx3_.trans hx4_)) fun v23 h23 => ?_
        refine (l07Twice_ok h23 (hx2_.trans (hx3_.trans hx4_))).mono ?_
        rintro _ w5_ ⟨hx5_, rfl⟩
        refine br (fun c4 => ?_) (fun c4 => ?_)
        · refine ⟨(hx1_.trans (hx2_.trans (hx3_.trans (hx4_.trans hx5_)))), ?_⟩
          have : ¬ (NamesR c ∧ EntS c) := fun h => c4 h.1.2.2.2.1
          simp only [this, decide_false]
        · refine rd_fld fd35_1 ?_
          refine rd_load ty22 (at_DCode_1 hA1) (hx2_.trans (hx3_.trans (hx4_.trans hx5_))) fun v28 h28 => ?_
          refine (l07Twice_ok h28 (hx2_.trans (hx3_.trans (hx4_.trans hx5_)))).mono ?_
          rintro _ w6_ ⟨hx6_, rfl⟩
          refine br (fun c5 => ?_) (fun c5 => ?_)
          · refine ⟨(hx1_.trans (hx2_.trans (hx3_.trans (hx4_.trans (hx5_.trans hx6_))))), ?_⟩
            have : ¬ (NamesR c ∧ EntS c) := fun h => c5 h.1.2.2.2.2.1
            simp only [this, decide_false]
          · refine rd_fld fd35_2 ?_
            refine rd_load ty22 (at_DCode_2 hA1) (hx2_.trans (hx3_.trans (hx4_.trans (hx5_.trans hx6_)))) fun v33 h33 => ?_
            refine (l07Twice_ok h33 (hx2_.trans (hx3_.trans (hx4_.trans (hx5_.trans hx6_))))).mono ?_
            rintro _ w7_ ⟨hx7_, rfl⟩
            refine br (fun c6 => ?_) (fun c6 => ?_)
            · refine ⟨(hx1_.trans (hx2_.trans (hx3_.trans (hx4_.trans (hx5_.trans (hx6_.trans hx7_)))))), ?_⟩
              have : ¬ (NamesR c ∧ EntS c) := fun h => c6 h.1.2.2.2.2.2.1
              simp only [this, decide_false]
            · refine rd_fld fd35_3 ?_
              refine rd_load ty23 (at_DCode_3 hA1) (hx2_.trans (hx3_.trans (hx4_.trans (hx5_.trans (hx6_.trans hx7_))))) fun v38 h38 => ?_
              have hln39 := is_len h38
              refine rd_len u23 h38 ?_
              refine rd_fld fd35_2 ?_
              refine rd_load ty22 (at_DCode_2 hA1) (hx2_.trans (hx3_.trans (hx4_.trans (hx5_.trans (hx6_.trans hx7_))))) fun v41 h41 => ?_
              have hln42 := is_len h41
              refine rd_len u22 h41 ?_
              refine rd_neq ?_
              refine br (fun c7 => ?_) (fun c7 => ?_)
              · refine ⟨(hx1_.trans (hx2_.trans (hx3_.trans (hx4_.trans (hx5_.trans (hx6_.trans hx7_)))))), ?_⟩
                have : ¬ (NamesR c ∧ EntS c) := fun h => c7 (by rw [h.2.1])
                simp only [this, decide_false]
              · refine rd_fld fd35_4 ?_
                refine rd_load ty33 (at_DCode_4 hA1) (hx2_.trans (hx3_.trans (hx4_.trans (hx5_.trans (hx6_.trans hx7_))))) fun v47 h47 => ?_
                have hln48 := is_len h47
                refine rd_len u33 h47 ?_
                refine rd_gtr ?_
                refine br (fun c8 => ?_) (fun c8 => ?_)
                · refine ⟨(hx1_.trans (hx2_.trans (hx3_.trans (hx4_.trans (hx5_.trans (hx6_.trans hx7_)))))), ?_⟩
                  have : ¬ (NamesR c ∧ EntS c) := fun h => by have := h.2.2.1; omega
                  simp only [this, decide_false]
                · refine rd_fld fd35_2 ?_
                  refine rd_load ty22 (at_DCode_2 hA1) (hx2_.trans (hx3_.trans (hx4_.trans (hx5_.trans (hx6_.trans hx7_))))) fun v53 h53 => ?_
                  refine (specPlaceOf_ok h53 (hx2_.trans (hx3_.trans (hx4_.trans (hx5_.trans (hx6_.trans hx7_)))))).mono ?_
                  rintro _ w8_ ⟨hx8_, rfl⟩
                  refine rd_lss ?_
                  refine br (fun c9 => ?_) (fun c9 => ?_)
                  · refine ⟨(hx1_.trans (hx2_.trans (hx3_.trans (hx4_.trans (hx5_.trans (hx6_.trans (hx7_.trans hx8_))))))), ?_⟩
                    have : ¬ (NamesR c ∧ EntS c) := fun h => by have := plc_iff.2 h.1.2.2.2.2.2.2; unfold mainS at this; omega
                    simp only [this, decide_false]
                  · refine loopC (c.entry.length) (fun k us w' => us = [.int .i64 (k : Int)] ∧ Ext w8_ w' ∧ (∀ i, i < k → (i = 0 → en c 0 = 0) ∧ (0 < i → en c (i - 1) < en c i) ∧ en c i < c.ins.length)) (0) (by omega) ⟨by simp, Ext.refl w8_, fun i h => by omega⟩ ?_
                    rintro k m4 uu4 w9_ hk4 ⟨hu, hx9_, hent⟩
                    simp only [List.map_cons, List.map_nil, List.cons.injEq, and_true] at hu
                    try rw [hu]
                    try clear hu
                    refine rd_fld fd35_3 ?_
                    refine rd_load ty23 (at_DCode_3 hA1) (hx2_.trans (hx3_.trans (hx4_.trans (hx5_.trans (hx6_.trans (hx7_.trans (hx8_.trans hx9_))))))) fun v59 h59 => ?_
                    have hln60 := is_len h59
                    refine rd_len u23 h59 ?_
                    refine rd_lss ?_
                    refine br (fun c10 => ?_) (fun c10 => ?_)
                    · have hx10_ := ext_drew w9_
                      refine rd_eql ?_
                      refine br (fun c11 => ?_) (fun c11 => ?_)
                      · refine rd_fld fd35_3 ?_
                        refine rd_load ty23 (at_DCode_3 hA1) (hx2_.trans (hx3_.trans (hx4_.trans (hx5_.trans (hx6_.trans (hx7_.trans (hx8_.trans (hx9_.trans hx10_)))))))) fun v68 h68 => ?_
                        refine rd_index u23 ty3 h68 (by omega) (by omega) fun b69 o69 h69 => ?_
                        refine rd_loadI ty3 h69 (hx2_.trans (hx3_.trans (hx4_.trans (hx5_.trans (hx6_.trans (hx7_.trans (hx8_.trans (hx9_.trans hx10_)))))))) fun hI70 => ?_
                        refine rd_neq ?_
                        refine br (fun c12 => ?_) (fun c12 => ?_)
                        · refine ⟨(hx1_.trans (hx2_.trans (hx3_.trans (hx4_.trans (hx5_.trans (hx6_.trans (hx7_.trans (hx8_.trans (hx9_.trans hx10_))))))))), ?_⟩
                          rw [en_get] at c12
                          have : ¬ (NamesR c ∧ EntS c) := fun h => c12 ((h.2.2.2.1 0 (by omega)).1 rfl)
                          simp only [this, decide_false]
                        · refine rd_gtr ?_
                          refine gbr (fun c13 => ?_) (fun c13 => ?_)
                          · refine rd_fld fd35_3 ?_
                            refine rd_load ty23 (at_DCode_3 hA1) (hx2_.trans (hx3_.trans (hx4_.trans (hx5_.trans (hx6_.trans (hx7_.trans (hx8_.trans (hx9_.trans hx10_)))))))) fun v78 h78 => ?_
                            refine rd_indexN u23 ty3 h78 (by omega) fun b80 o80 h80 => ?_
                            refine rd_loadI ty3 h80 (hx2_.trans (hx3_.trans (hx4_.trans (hx5_.trans (hx6_.trans (hx7_.trans (hx8_.trans (hx9_.trans hx10_)))))))) fun hI81 => ?_
                            refine rd_fld fd35_3 ?_
                            refine rd_load ty23 (at_DCode_3 hA1) (hx2_.trans (hx3_.trans (hx4_.trans (hx5_.trans (hx6_.trans (hx7_.trans (hx8_.trans (hx9_.trans hx10_)))))))) fun v83 h83 => ?_
                            refine rd_sub (by unfold I64; omega) ?_
                            refine rd_index u23 ty3 h83 (by omega) (by omega) fun b86 o86 h86 => ?_
                            refine rd_loadI ty3 h86 (hx2_.trans (hx3_.trans (hx4_.trans (hx5_.trans (hx6_.trans (hx7_.trans (hx8_.trans (hx9_.trans hx10_)))))))) fun hI87 => ?_
                            have hn86 : ((k : Int) - 1).toNat = k - 1 := by omega
                            refine rd_leq ?_
                            refine br (fun c14 => ?_) (fun c14 => ?_)
                            · refine ⟨(hx1_.trans (hx2_.trans (hx3_.trans (hx4_.trans (hx5_.trans (hx6_.trans (hx7_.trans (hx8_.trans (hx9_.trans hx10_))))))))), ?_⟩
                              exact absurd c11 (by omega)
                            · refine rd_fld fd35_3 ?_
                              refine rd_load ty23 (at_DCode_3 hA1) (hx2_.trans (hx3_.trans (hx4_.trans (hx5_.trans (hx6_.trans (hx7_.trans (hx8_.trans (hx9_.trans hx10_)))))))) fun v93 h93 => ?_
                              refine rd_indexN u23 ty3 h93 (by omega) fun b95 o95 h95 => ?_
                              refine rd_loadI ty3 h95 (hx2_.trans (hx3_.trans (hx4_.trans (hx5_.trans (hx6_.trans (hx7_.trans (hx8_.trans (hx9_.trans hx10_)))))))) fun hI96 => ?_
                              refine rd_fld fd35_4 ?_
                              refine rd_load ty33 (at_DCode_4 hA1) (hx2_.trans (hx3_.trans (hx4_.trans (hx5_.trans (hx6_.trans (hx7_.trans (hx8_.trans (hx9_.trans hx10_)))))))) fun v98 h98 => ?_
                              have hln99 := is_len h98
                              refine rd_len u33 h98 ?_
                              refine rd_geq ?_
                              refine br (fun c15 => ?_) (fun c15 => ?_)
                              · refine ⟨(hx1_.trans (hx2_.trans (hx3_.trans (hx4_.trans (hx5_.trans (hx6_.trans (hx7_.trans (hx8_.trans (hx9_.trans hx10_))))))))), ?_⟩
                                exact absurd c11 (by omega)
                              · refine rd_inc (by omega) ?_
                                refine ⟨m4 - 1, by omega, k + 1, by omega, by simp, (hx9_.trans hx10_), ?_⟩
                                exact absurd c11 (by omega)
                          · refine rd_fld fd35_3 ?_
                            refine rd_load ty23 (at_DCode_3 hA1) (hx2_.trans (hx3_.trans (hx4_.trans (hx5_.trans (hx6_.trans (hx7_.trans (hx8_.trans (hx9_.trans hx10_)))))))) fun v93 h93 => ?_
                            refine rd_indexN u23 ty3 h93 (by omega) fun b95 o95 h95 => ?_
                            refine rd_loadI ty3 h95 (hx2_.trans (hx3_.trans (hx4_.trans (hx5_.trans (hx6_.trans (hx7_.trans (hx8_.trans (hx9_.trans hx10_)))))))) fun hI96 => ?_
                            refine rd_fld fd35_4 ?_
                            refine rd_load ty33 (at_DCode_4 hA1) (hx2_.trans (hx3_.trans (hx4_.trans (hx5_.trans (hx6_.trans (hx7_.trans (hx8_.trans (hx9_.trans hx10_)))))))) fun v98 h98 => ?_
                            have hln99 := is_len h98
                            refine rd_len u33 h98 ?_
                            refine rd_geq ?_
                            refine br (fun c16 => ?_) (fun c16 => ?_)
                            · refine ⟨(hx1_.trans (hx2_.trans (hx3_.trans (hx4_.trans (hx5_.trans (hx6_.trans (hx7_.trans (hx8_.trans (hx9_.trans hx10_))))))))), ?_⟩
                              rw [en_get] at c16
                              have : ¬ (NamesR c ∧ EntS c) := fun h => by have := (h.2.2.2.1 k (by omega)).2.2; omega
                              simp only [this, decide_false]
                            · refine rd_inc (by omega) ?_
                              refine ⟨m4 - 1, by omega, k + 1, by omega, by simp, (hx9_.trans hx10_), ?_⟩
                              rw [en_get] at c16 c12
                              have hk0 : k = 0 := by omega
                              subst hk0
                              exact all_succ hent ⟨fun _ => Decidable.not_not.1 c12, fun h => by omega, by omega⟩
                      · refine rd_gtr ?_
                        refine gbr (fun c17 => ?_) (fun c17 => ?_)
                        · refine rd_fld fd35_3 ?_
                          refine rd_load ty23 (at_DCode_3 hA1) (hx2_.trans (hx3_.trans (hx4_.trans (hx5_.trans (hx6_.trans (hx7_.trans (hx8_.trans (hx9_.trans hx10_)))))))) fun v78 h78 => ?_
                          refine rd_indexN u23 ty3 h78 (by omega) fun b80 o80 h80 => ?_
                          refine rd_loadI ty3 h80 (hx2_.trans (hx3_.trans (hx4_.trans (hx5_.trans (hx6_.trans (hx7_.trans (hx8_.trans (hx9_.trans hx10_)))))))) fun hI81 => ?_
                          refine rd_fld fd35_3 ?_
                          refine rd_load ty23 (at_DCode_3 hA1) (hx2_.trans (hx3_.trans (hx4_.trans (hx5_.trans (hx6_.trans (hx7_.trans (hx8_.trans (hx9_.trans hx10_)))))))) fun v83 h83 => ?_
                          refine rd_sub (by unfold I64; omega) ?_
                          refine rd_index u23 ty3 h83 (by omega) (by omega) fun b86 o86 h86 => ?_
                          refine rd_loadI ty3 h86 (hx2_.trans (hx3_.trans (hx4_.trans (hx5_.trans (hx6_.trans (hx7_.trans (hx8_.trans (hx9_.trans hx10_)))))))) fun hI87 => ?_
                          have hn86 : ((k : Int) - 1).toNat = k - 1 := by omega
                          refine rd_leq ?_
                          refine br (fun c18 => ?_) (fun c18 => ?_)
                          · refine ⟨(hx1_.trans (hx2_.trans (hx3_.trans (hx4_.trans (hx5_.trans (hx6_.trans (hx7_.trans (hx8_.trans (hx9_.trans hx10_))))))))), ?_⟩
                            rw [en_get, en_get] at c18
                            simp only [hn86] at c18
                            have : ¬ (NamesR c ∧ EntS c) := fun h => by have := (h.2.2.2.1 k (by omega)).2.1 (by omega); omega
                            simp only [this, decide_false]
                          · refine rd_fld fd35_3 ?_
                            refine rd_load ty23 (at_DCode_3 hA1) (hx2_.trans (hx3_.trans (hx4_.trans (hx5_.trans (hx6_.trans (hx7_.trans (hx8_.trans (hx9_.trans hx10_)))))))) fun v93 h93 => ?_
                            refine rd_indexN u23 ty3 h93 (by omega) fun b95 o95 h95 => ?_
                            refine rd_loadI ty3 h95 (hx2_.trans (hx3_.trans (hx4_.trans (hx5_.trans (hx6_.trans (hx7_.trans (hx8_.trans (hx9_.trans hx10_)))))))) fun hI96 => ?_
                            refine rd_fld fd35_4 ?_
                            refine rd_load ty33 (at_DCode_4 hA1) (hx2_.trans (hx3_.trans (hx4_.trans (hx5_.trans (hx6_.trans (hx7_.trans (hx8_.trans (hx9_.trans hx10_)))))))) fun v98 h98 => ?_
                            have hln99 := is_len h98
                            refine rd_len u33 h98 ?_
                            refine rd_geq ?_
                            refine br (fun c19 => ?_) (fun c19 => ?_)
                            · refine ⟨(hx1_.trans (hx2_.trans (hx3_.trans (hx4_.trans (hx5_.trans (hx6_.trans (hx7_.trans (hx8_.trans (hx9_.trans hx10_))))))))), ?_⟩
                              rw [en_get] at c19
                              have : ¬ (NamesR c ∧ EntS c) := fun h => by have := (h.2.2.2.1 k (by omega)).2.2; omega
                              simp only [this, decide_false]
                            · refine rd_inc (by omega) ?_
                              refine ⟨m4 - 1, by omega, k + 1, by omega, by simp, (hx9_.trans hx10_), ?_⟩
                              rw [en_get] at c19
                              rw [en_get, en_get] at c18
                              simp only [hn86] at c18
                              exact all_succ hent ⟨fun h => by omega, fun _ => by omega, by omega⟩
                        · refine rd_fld fd35_3 ?_
                          refine rd_load ty23 (at_DCode_3 hA1) (hx2_.trans (hx3_.trans (hx4_.trans (hx5_.trans (hx6_.trans (hx7_.trans (hx8_.trans (hx9_.trans hx10_)))))))) fun v93 h93 => ?_
                          refine rd_indexN u23 ty3 h93 (by omega) fun b95 o95 h95 => ?_
                          refine rd_loadI ty3 h95 (hx2_.trans (hx3_.trans (hx4_.trans (hx5_.trans (hx6_.trans (hx7_.trans (hx8_.trans (hx9_.trans hx10_)))))))) fun hI96 => ?_
                          refine rd_fld fd35_4 ?_
                          refine rd_load ty33 (at_DCode_4 hA1) (hx2_.trans (hx3_.trans (hx4_.trans (hx5_.trans (hx6_.trans (hx7_.trans (hx8_.trans (hx9_.trans hx10_)))))))) fun v98 h98 => ?_
                          have hln99 := is_len h98
                          refine rd_len u33 h98 ?_
                          refine rd_geq ?_
                          refine br (fun c20 => ?_) (fun c20 => ?_)
                          · refine ⟨(hx1_.trans (hx2_.trans (hx3_.trans (hx4_.trans (hx5_.trans (hx6_.trans (hx7_.trans (hx8_.trans (hx9_.trans hx10_))))))))), ?_⟩
                            exact absurd c11 (by omega)
                          · refine rd_inc (by omega) ?_
                            refine ⟨m4 - 1, by omega, k + 1, by omega, by simp, (hx9_.trans hx10_), ?_⟩
                            exact absurd c11 (by omega)
                    · refine loopC (c.ins.length) (fun k us w' => us = [.int .i64 (k : Int)] ∧ Ext w9_ w' ∧ (∀ j, j < k → ((insAt c j).op = 9 ↔ endOf c (procOf c j) = j))) (0) (by omega) ⟨by simp, Ext.refl w9_, fun i h => by omega⟩ ?_
                      rintro k m9 uu9 w11_ hk9 ⟨hu, hx11_, hinv⟩
                      simp only [List.map_cons, List.map_nil, List.cons.injEq, and_true] at hu
                      try rw [hu]
                      try clear hu
                      refine rd_fld fd35_4 ?_
                      refine rd_load ty33 (at_DCode_4 hA1) (hx2_.trans (hx3_.trans (hx4_.trans (hx5_.trans (hx6_.trans (hx7_.trans (hx8_.trans (hx9_.trans hx11_)))))))) fun v104 h104 => ?_
                      have hln105 := is_len h104
                      refine rd_len u33 h104 ?_
                      refine rd_lss ?_
                      refine br (fun c21 => ?_) (fun c21 => ?_)
                      · have hx12_ := ext_drew w11_
                        refine rd_fld fd35_4 ?_
                        refine rd_load ty33 (at_DCode_4 hA1) (hx2_.trans (hx3_.trans (hx4_.trans (hx5_.trans (hx6_.trans (hx7_.trans (hx8_.trans (hx9_.trans (hx11_.trans hx12_))))))))) fun v110 h110 => ?_
                        refine rd_indexN u33 ty136 h110 (by omega) fun b112 o112 h112 => ?_
                        refine rd_fld fd136_0 ?_
                        refine rd_loadI ty3 (at_DIns_0 h112) (hx2_.trans (hx3_.trans (hx4_.trans (hx5_.trans (hx6_.trans (hx7_.trans (hx8_.trans (hx9_.trans (hx11_.trans hx12_))))))))) fun hI114 => ?_
                        refine rd_eql ?_
                        refine rd_var hV1 (hx2_.trans (hx3_.trans (hx4_.trans (hx5_.trans (hx6_.trans (hx7_.trans (hx8_.trans (hx9_.trans (hx11_.trans hx12_))))))))) ?_
                        refine rd_var hV1 (hx2_.trans (hx3_.trans (hx4_.trans (hx5_.trans (hx6_.trans (hx7_.trans (hx8_.trans (hx9_.trans (hx11_.trans hx12_))))))))) ?_
                        have h8 : c.entry.length ≤ 8 := by
                          simp only [Bool.not_eq_false', Bool.and_eq_true, decide_eq_true_eq] at c3
                          have := c3.1
                          omega
                        refine (l08Proc_ok h0 (e0.trans (hx1_.trans (hx2_.trans (hx3_.trans (hx4_.trans (hx5_.trans (hx6_.trans (hx7_.trans (hx8_.trans (hx9_.trans (hx11_.trans hx12_)))))))))))).mono ?_
                        rintro _ w13_ ⟨hx13_, rfl⟩
                        refine ⟨hx13_, ?_⟩
                        refine (l08End_ok h0 (e0.trans (hx1_.trans (hx2_.trans (hx3_.trans (hx4_.trans (hx5_.trans (hx6_.trans (hx7_.trans (hx8_.trans (hx9_.trans (hx11_.trans (hx12_.trans hx13_)))))))))))) (by have := procOf_lt (c := c) (a := k); omega) (by have := procOf_lt (c := c) (a := k); omega) (ent_nonneg fun i hi => hent i (by omega))).mono ?_
                        rintro _ w14_ ⟨hx14_, rfl⟩
                        refine ⟨hx14_, ?_⟩
                        refine rd_eql ?_
                        refine rd_neqB u4 ?_
                        refine br (fun c22 => ?_) (fun c22 => ?_)
                        · refine ⟨(hx1_.trans (hx2_.trans (hx3_.trans (hx4_.trans (hx5_.trans (hx6_.trans (hx7_.trans (hx8_.trans (hx9_.trans (hx11_.trans (hx12_.trans (hx13_.trans hx14_)))))))))))), ?_⟩
                          rw [insAt_get] at c22
                          have : ¬ (NamesR c ∧ EntS c) := fun h => c22 (decide_eq_decide.2 (h.2.2.2.2 k (by omega)))
                          simp only [this, decide_false]
                        · refine rd_inc (by omega) ?_
                          refine ⟨m9 - 1, by omega, k + 1, by omega, by simp, (hx11_.trans (hx12_.trans (hx13_.trans hx14_))), ?_⟩
                          rw [insAt_get] at c22
                          exact all_succ hinv (decide_eq_decide.1 (Decidable.not_not.1 c22))
                      · refine ⟨(hx1_.trans (hx2_.trans (hx3_.trans (hx4_.trans (hx5_.trans (hx6_.trans (hx7_.trans (hx8_.trans (hx9_.trans hx11_))))))))), ?_⟩
                        have : NamesR c ∧ EntS c := by
                          refine ⟨⟨by simpa using c1, by simpa using c2, by simpa using c3, Decidable.not_not.1 c4, Decidable.not_not.1 c5, Decidable.not_not.1 c6, plc_iff.1 (by unfold mainS; omega)⟩, by omega, by omega, fun i hi => hent i (by omega), fun j hj => hinv j (by omega)⟩
                        simp only [this, and_self, decide_true]
def argMost (c : DCode) (op : Int) : Int := if op = 1 then c.globals.length else if op = 4 ∨ op = 5 then c.procs.length else if op = 6 ∨ op = 7 then c.locks.length else 1
def InsR (c : DCode) (a : DIns) (b e : Int) : Prop := (1 ≤ a.op ∧ a.op ≤ 9) ∧ (0 ≤ a.arg ∧ a.arg < argMost c a.op) ∧
  (if a.op = 1 ∨ a.op = 2 then termOk 6 a.term = true ∧ (∀ s ∈ readsOf a.term, s ∈ c.globals) else a.term = term0) ∧ (if a.op = 2 ∨ a.op = 3 then b ≤ a.to ∧ a.to < e else a.to = 0)
instance (c : DCode) (a : DIns) (b e : Int) : Decidable (InsR c a b e) := by unfold InsR; infer_instance
def F139 (a0 a1 : Value) (w : World) (R : Value → World → Prop) : Prop :=
 OP Tryz.prog (Instr.box 35 a0) w fun x2 w =>
 RD Tryz.prog (Instr.fieldAt 35 x2 4) w fun x10 =>
 RD Tryz.prog (Instr.loadAt 33 x10) w fun x11 =>
 RD Tryz.prog (Instr.indexAt 33 x11 a1) w fun x13 =>
 RD Tryz.prog (Instr.loadAt 136 x13) w fun x14 =>
 OP Tryz.prog (Instr.alloc 136 true (.tuple #[])) w fun x5 w =>
 OPU Tryz.prog (Instr.storeAt 136 x5 x14) w fun w =>
 JOIN [6] (fun J12 =>
 RD Tryz.prog (Instr.fieldAt 136 x5 0) w fun x15 =>
 RD Tryz.prog (Instr.loadAt 3 x15) w fun x16 =>
 RD Tryz.prog (bin .eql 3 (.tmp 0) (.const undef) x16 (Value.int .i64 1)) w fun x18 =>
 BR x18
 (RD Tryz.prog (Instr.fieldAt 35 x2 0) w fun x19 =>
 RD Tryz.prog (Instr.loadAt 22 x19) w fun x20 =>
 RD Tryz.prog (Builtin.len_ #[22] 3 [x20].toArray) w fun x21 =>
 RD Tryz.prog (bin .sub 3 (.tmp 0) (.const undef) x21 (Value.int .i64 1)) w fun x22 =>
 J12 [x22] w)
 (RD Tryz.prog (bin .eql 3 (.tmp 0) (.const undef) x16 (Value.int .i64 6)) w fun x24 =>
 BR x24
 (RD Tryz.prog (Instr.fieldAt 35 x2 1) w fun x26 =>
 RD Tryz.prog (Instr.loadAt 22 x26) w fun x27 =>
 RD Tryz.prog (Builtin.len_ #[22] 3 [x27].toArray) w fun x28 =>
 RD Tryz.prog (bin .sub 3 (.tmp 0) (.const undef) x28 (Value.int .i64 1)) w fun x29 =>
 J12 [x29] w)
 (RD Tryz.prog (bin .eql 3 (.tmp 0) (.const undef) x16 (Value.int .i64 7)) w fun x25 =>
 BR x25
 (RD Tryz.prog (Instr.fieldAt 35 x2 1) w fun x26 =>
 RD Tryz.prog (Instr.loadAt 22 x26) w fun x27 =>
 RD Tryz.prog (Builtin.len_ #[22] 3 [x27].toArray) w fun x28 =>
 RD Tryz.prog (bin .sub 3 (.tmp 0) (.const undef) x28 (Value.int .i64 1)) w fun x29 =>
 J12 [x29] w)
 (RD Tryz.prog (bin .eql 3 (.tmp 0) (.const undef) x16 (Value.int .i64 4)) w fun x31 =>
 BR x31
 (RD Tryz.prog (Instr.fieldAt 35 x2 2) w fun x33 =>
 RD Tryz.prog (Instr.loadAt 22 x33) w fun x34 =>
 RD Tryz.prog (Builtin.len_ #[22] 3 [x34].toArray) w fun x35 =>
 RD Tryz.prog (bin .sub 3 (.tmp 0) (.const undef) x35 (Value.int .i64 1)) w fun x36 =>
 J12 [x36] w)
 (RD Tryz.prog (bin .eql 3 (.tmp 0) (.const undef) x16 (Value.int .i64 5)) w fun x32 =>
 BR x32
 (RD Tryz.prog (Instr.fieldAt 35 x2 2) w fun x33 =>
 RD Tryz.prog (Instr.loadAt 22 x33) w fun x34 =>
 RD Tryz.prog (Builtin.len_ #[22] 3 [x34].toArray) w fun x35 =>
 RD Tryz.prog (bin .sub 3 (.tmp 0) (.const undef) x35 (Value.int .i64 1)) w fun x36 =>
 J12 [x36] w)
 (J12 [(Value.int .i64 0)] w)))))) (fun u12 w =>
 RD Tryz.prog (Instr.fieldAt 136 x5 0) w fun x37 =>
 RD Tryz.prog (Instr.loadAt 3 x37) w fun x38 =>
 CALL Tryz.prog 122 [x38, (Value.int .i64 1), (Value.int .i64 9)] w fun x39 w =>
 RD Tryz.prog (Op.unary .not x39) w fun x40 =>
 BR x40
 (R (Value.bool false) w)
 (RD Tryz.prog (Instr.fieldAt 136 x5 1) w fun x42 =>
 RD Tryz.prog (Instr.loadAt 3 x42) w fun x43 =>
 CALL Tryz.prog 122 [x43, (Value.int .i64 0), (u12 6)] w fun x45 w =>
 RD Tryz.prog (Op.unary .not x45) w fun x46 =>
 BR x46
 (R (Value.bool false) w)
 (JOIN [] (fun J25 =>
 RD Tryz.prog (Instr.fieldAt 136 x5 0) w fun x48 =>
 RD Tryz.prog (Instr.loadAt 3 x48) w fun x49 =>
 RD Tryz.prog (bin .eql 3 (.tmp 0) (.const undef) x49 (Value.int .i64 1)) w fun x50 =>
 BR x50
 (RD Tryz.prog (Instr.fieldAt 136 x5 2) w fun x56 =>
 RD Tryz.prog (Instr.loadAt 134 x56) w fun x57 =>
 CALL Tryz.prog 205 [x57] w fun x58 w =>
 RD Tryz.prog (Op.unary .not x58) w fun x59 =>
 BR x59
 (R (Value.bool false) w)
 (RD Tryz.prog (Instr.fieldAt 136 x5 2) w fun x60 =>
 RD Tryz.prog (Instr.loadAt 134 x60) w fun x61 =>
 CALL Tryz.prog 206 [x61] w fun x62 w =>
 LOOPI [8] [(Value.int .i64 0)] w fun u19 w next19 =>
 RD Tryz.prog (Builtin.len_ #[22] 3 [x62].toArray) w fun x65 =>
 RD Tryz.prog (bin .lss 3 (.tmp 0) (.tmp 0) (u19 8) x65) w fun x66 =>
 BR x66
 ((fun w => RD Tryz.prog (Instr.fieldAt 35 x2 0) w fun x69 =>
 RD Tryz.prog (Instr.loadAt 22 x69) w fun x70 =>
 RD Tryz.prog (Instr.indexAt 22 x62 (u19 8)) w fun x73 =>
 RD Tryz.prog (Instr.loadAt 9 x73) w fun x74 =>
 CALL Tryz.prog 204 [x70, x74] w fun x75 w =>
 RD Tryz.prog (bin .lss 3 (.tmp 0) (.const undef) x75 (Value.int .i64 0)) w fun x76 =>
 BR x76
 (R (Value.bool false) w)
 (RD Tryz.prog (bin .add 3 (.tmp 0) (.const undef) (u19 8) (Value.int .i64 1)) w fun x68 =>
 next19 [x68] w)) (World.drew1 w))
 (J25 [] w)))
 (RD Tryz.prog (Instr.fieldAt 136 x5 0) w fun x52 =>
 RD Tryz.prog (Instr.loadAt 3 x52) w fun x53 =>
 RD Tryz.prog (bin .eql 3 (.tmp 0) (.const undef) x53 (Value.int .i64 2)) w fun x54 =>
 BR x54
 (RD Tryz.prog (Instr.fieldAt 136 x5 2) w fun x56 =>
 RD Tryz.prog (Instr.loadAt 134 x56) w fun x57 =>
 CALL Tryz.prog 205 [x57] w fun x58 w =>
 RD Tryz.prog (Op.unary .not x58) w fun x59 =>
 BR x59
 (R (Value.bool false) w)
 (RD Tryz.prog (Instr.fieldAt 136 x5 2) w fun x60 =>
 RD Tryz.prog (Instr.loadAt 134 x60) w fun x61 =>
 CALL Tryz.prog 206 [x61] w fun x62 w =>
 LOOPI [8] [(Value.int .i64 0)] w fun u19 w next19 =>
 RD Tryz.prog (Builtin.len_ #[22] 3 [x62].toArray) w fun x65 =>
 RD Tryz.prog (bin .lss 3 (.tmp 0) (.tmp 0) (u19 8) x65) w fun x66 =>
 BR x66
 ((fun w => RD Tryz.prog (Instr.fieldAt 35 x2 0) w fun x69 =>
 RD Tryz.prog (Instr.loadAt 22 x69) w fun x70 =>
 RD Tryz.prog (Instr.indexAt 22 x62 (u19 8)) w fun x73 =>
 RD Tryz.prog (Instr.loadAt 9 x73) w fun x74 =>
 CALL Tryz.prog 204 [x70, x74] w fun x75 w =>
 RD Tryz.prog (bin .lss 3 (.tmp 0) (.const undef) x75 (Value.int .i64 0)) w fun x76 =>
 BR x76
 (R (Value.bool false) w)
 (RD Tryz.prog (bin .add 3 (.tmp 0) (.const undef) (u19 8) (Value.int .i64 1)) w fun x68 =>
 next19 [x68] w)) (World.drew1 w))
 (J25 [] w)))
 (RD Tryz.prog (Instr.fieldAt 136 x5 2) w fun x77 =>
 RD Tryz.prog (Instr.loadAt 134 x77) w fun x78 =>
 RD Tryz.prog (Instr.build 134 #[]) w fun x79 =>
 CALL Tryz.prog 207 [x78, x79] w fun x80 w =>
 RD Tryz.prog (Op.unary .not x80) w fun x81 =>
 BR x81
 (R (Value.bool false) w)
 (J25 [] w)))) (fun u25 w =>
 JOIN [] (fun J27 =>
 RD Tryz.prog (Instr.fieldAt 136 x5 0) w fun x82 =>
 RD Tryz.prog (Instr.loadAt 3 x82) w fun x83 =>
 RD Tryz.prog (bin .neq 3 (.tmp 0) (.const undef) x83 (Value.int .i64 2)) w fun x84 =>
 BR x84
 (RD Tryz.prog (Instr.fieldAt 136 x5 0) w fun x86 =>
 RD Tryz.prog (Instr.loadAt 3 x86) w fun x87 =>
 RD Tryz.prog (bin .neq 3 (.tmp 0) (.const undef) x87 (Value.int .i64 3)) w fun x88 =>
 BR x88
 (RD Tryz.prog (Instr.fieldAt 136 x5 3) w fun x90 =>
 RD Tryz.prog (Instr.loadAt 3 x90) w fun x91 =>
 RD Tryz.prog (bin .eql 3 (.tmp 0) (.const undef) x91 (Value.int .i64 0)) w fun x92 =>
 R x92 w)
 (J27 [] w))
 (J27 [] w)) (fun u27 w =>
 RD Tryz.prog (Instr.loadAt 35 x2) w fun x93 =>
 CALL Tryz.prog 175 [x93, a1] w fun x95 w =>
 (fun w => RD Tryz.prog (Instr.fieldAt 136 x5 3) w fun x96 =>
 RD Tryz.prog (Instr.loadAt 3 x96) w fun x97 =>
 RD Tryz.prog (Instr.fieldAt 35 x2 3) w fun x98 =>
 RD Tryz.prog (Instr.loadAt 23 x98) w fun x99 =>
 RD Tryz.prog (Instr.indexAt 23 x99 x95) w fun x101 =>
 RD Tryz.prog (Instr.loadAt 3 x101) w fun x102 =>
 RD Tryz.prog (Instr.loadAt 35 x2) w fun x103 =>
 (fun w_ => CALL Tryz.prog 116 [x103, x95] w_ fun x105 w =>
 Ext w_ w ∧
 CALL Tryz.prog 122 [x97, x102, x105] w fun x106 w =>
 R x106 w) w) (World.drew1 w))))))
def cfg139 : Cfg := { ext := extL, joins := [(12, 137438920768, [6]), (25, 4835703278177041722114448, []), (27, 9898684611004583682494169104, [])], loops := [(19, 151106504079791792062736, [8])], draws := [(21, [0, 1, 2, 3, 4, 5, 6, 7], 0), (28, [0, 1, 2, 3, 4, 5, 6, 7, 8, 9, 10, 11], 512)], pars := [] }
theorem F139_eq (a0 a1 : Value) (w : World) (R : Value → World → Prop) : vcF Tryz.prog cfg139 Tryz.f139 [a0, a1] w R = F139 a0 a1 w R := by kernel_rfl
theorem F139_call {a0 a1 : Value} {w : World} {R : Value → World → Prop} (h : F139 a0 a1 w R) : CALL Tryz.prog 139 [a0, a1] w R :=
  call_of (g := cfg139) ent mixed Tryz.func139 (Nat.le_of_ble_eq_true (by kernel_rfl)) (by kernel_rfl) (F139_eq a0 a1 w R ▸ h)
theorem l08Ins_ok {w : World} {v0 : Value} {W0 : World} {c : DCode} {j : Nat}  (h0 : Is W0 v0 c) (e0 : Ext W0 w) (hj : j < c.ins.length) (hE : ∀ i, i < c.entry.length → 0 ≤ en c i) (h8 : c.entry.length ≤ 8) (hp : 0 ≤ procOf c j) :
    CALL Tryz.prog 139 [v0, .int .i64 (j : Int)] w fun r w' => Ext w w' ∧ (r = .bool (decide (InsR c (insAt c j) (en c (procOf c j).toNat) (endOf c (procOf c j) + 1)))) := by
  refine F139_call ?_
  unfold F139
  have hpl := procOf_lt (c := c) (a := j)
  refine op_boxS ty35 rfl h0 e0 fun w1_ hx1_ hA2 hV2 => ?_
  refine rd_fld fd35_4 ?_
  refine rd_load ty33 (at_DCode_4 hA2) (Ext.refl w1_) fun v11 h11 => ?_
  refine rd_indexN u33 ty136 h11 (by omega) fun b13 o13 h13 => ?_
  refine rd_load ty136 h13 (Ext.refl w1_) fun v14 h14 => ?_
  rw [insAt_get] at h14
  obtain ⟨a, ha⟩ : ∃ a, a = insAt c j := ⟨_, rfl⟩
  rw [← ha] at h14 ⊢
  refine op_var zl136 rfl ty136 rfl h14 (Ext.refl w1_) fun w2_ hx2_ hA5 hV5 => ?_
  refine JOIN.mk (fun us w' => us = [.int .i64 (argMost c a.op - 1)] ∧ Ext w2_ w' ∧ (True)) ?_ ?_
  · refine rd_fld fd136_0 ?_
    refine rd_loadI ty3 (at_DIns_0 hA5) (Ext.refl w2_) fun hI16 => ?_
    refine rd_eql ?_
    refine br (fun c1 => ?_) (fun c1 => ?_)
    · refine rd_fld fd35_0 ?_
      refine rd_load ty22 (at_DCode_0 hA2) hx2_ fun v20 h20 => ?_
      have hln21 := is_len h20
      refine rd_len u22 h20 ?_
      refine rd_sub (by unfold I64; have := is_len h20; omega) ?_
      refine ⟨by unfold argMost; rw [if_pos c1], Ext.refl w2_, ?_⟩
      trivial
    · refine rd_eql ?_
      refine br (fun c2 => ?_) (fun c2 => ?_)
      · refine rd_fld fd35_1 ?_
        refine rd_load ty22 (at_DCode_1 hA2) hx2_ fun v27 h27 => ?_
        have hln28 := is_len h27
        refine rd_len u22 h27 ?_
        refine rd_sub (by unfold I64; have := is_len h27; omega) ?_
        refine ⟨by unfold argMost; rw [if_neg (by omega), if_neg (by omega), if_pos (by omega)], Ext.refl w2_, ?_⟩
        trivial
      · refine rd_eql ?_
        refine br (fun c3 => ?_) (fun c3 => ?_)
        · refine rd_fld fd35_1 ?_
          refine rd_load ty22 (at_DCode_1 hA2) hx2_ fun v27 h27 => ?_
          have hln28 := is_len h27
          refine rd_len u22 h27 ?_
          refine rd_sub (by unfold I64; have := is_len h27; omega) ?_
          refine ⟨by unfold argMost; rw [if_neg (by omega), if_neg (by omega), if_pos (by omega)], Ext.refl w2_, ?_⟩
          trivial
        · refine rd_eql ?_
          refine br (fun c4 => ?_) (fun c4 => ?_)
          · refine rd_fld fd35_2 ?_
            refine rd_load ty22 (at_DCode_2 hA2) hx2_ fun v34 h34 => ?_
            have hln35 := is_len h34
            refine rd_len u22 h34 ?_
            refine rd_sub (by unfold I64; have := is_len h34; omega) ?_
            refine ⟨by unfold argMost; rw [if_neg (by omega), if_pos (by omega)], Ext.refl w2_, ?_⟩
            trivial
          · refine rd_eql ?_
            refine br (fun c5 => ?_) (fun c5 => ?_)
            · refine rd_fld fd35_2 ?_
              refine rd_load ty22 (at_DCode_2 hA2) hx2_ fun v34 h34 => ?_
              have hln35 := is_len h34
              refine rd_len u22 h34 ?_
              refine rd_sub (by unfold I64; have := is_len h34; omega) ?_
              refine ⟨by unfold argMost; rw [if_neg (by omega), if_pos (by omega)], Ext.refl w2_, ?_⟩
              trivial
            · refine ⟨by unfold argMost; rw [if_neg (by omega), if_neg (by omega), if_neg (by omega)]; rfl, Ext.refl w2_, ?_⟩
              trivial
  · rintro uj12 w3_ ⟨hu, hx3_, hinv⟩
    simp only [List.map_cons, List.map_nil, List.cons.injEq, and_true] at hu
    try rw [hu]
    try clear hu
    refine rd_fld fd136_0 ?_
    refine rd_loadI ty3 (at_DIns_0 hA5) hx3_ fun hI38 => ?_
    refine (l01In_ok ).mono ?_
    rintro _ w4_ ⟨hx4_, rfl⟩
    refine rd_nodec ?_
    refine br (fun c6 => ?_) (fun c6 => ?_)
    · refine ⟨(hx1_.trans (hx2_.trans (hx3_.trans hx4_))), ?_⟩
      have : ¬ InsR c a (en c (procOf c j).toNat) (endOf c (procOf c j) + 1) := fun h => c6 h.1
      simp only [this, decide_false]
    · refine rd_fld fd136_1 ?_
      refine rd_loadI ty3 (at_DIns_1 hA5) (hx3_.trans hx4_) fun hI43 => ?_
      refine (l01In_ok ).mono ?_
      rintro _ w5_ ⟨hx5_, rfl⟩
      refine rd_nodec ?_
      refine br (fun c7 => ?_) (fun c7 => ?_)
      · refine ⟨(hx1_.trans (hx2_.trans (hx3_.trans (hx4_.trans hx5_)))), ?_⟩
        have : ¬ InsR c a (en c (procOf c j).toNat) (endOf c (procOf c j) + 1) := fun h => c7 (by have := h.2.1; omega)
        simp only [this, decide_false]
      · refine JOIN.mk (fun us w' => us = [] ∧ Ext w5_ w' ∧ (if a.op = 1 ∨ a.op = 2 then termOk 6 a.term = true ∧ (∀ s ∈ readsOf a.term, s ∈ c.globals) else a.term = term0)) ?_ ?_
        · refine rd_fld fd136_0 ?_
          refine rd_loadI ty3 (at_DIns_0 hA5) (hx3_.trans (hx4_.trans hx5_)) fun hI49 => ?_
          refine rd_eql ?_
          refine br (fun c8 => ?_) (fun c8 => ?_)
          · refine rd_fld fd136_2 ?_
            refine rd_load ty134 (at_DIns_2 hA5) (hx3_.trans (hx4_.trans hx5_)) fun v57 h57 => ?_
            refine (specTermOk_ok h57 (hx3_.trans (hx4_.trans hx5_))).mono ?_
            rintro _ w7_ ⟨hx7_, rfl⟩
            refine rd_not ?_
            refine br_b (fun c9 => ?_) (fun c9 => ?_)
            · refine ⟨(hx1_.trans (hx2_.trans (hx3_.trans (hx4_.trans (hx5_.trans hx7_))))), ?_⟩
              have : ¬ InsR c a (en c (procOf c j).toNat) (endOf c (procOf c j) + 1) := fun h => by have := h.2.2.1; rw [if_pos (.inl c8)] at this; rw [this.1] at c9; cases c9
              simp only [this, decide_false]
            · refine rd_fld fd136_2 ?_
              refine rd_load ty134 (at_DIns_2 hA5) (hx3_.trans (hx4_.trans (hx5_.trans hx7_))) fun v61 h61 => ?_
              refine (specReadsOf_ok h61 (hx3_.trans (hx4_.trans (hx5_.trans hx7_)))).mono ?_
              rintro r62 w8_ ⟨hx8_, h62⟩
              refine loopC ((readsOf a.term).length) (fun k us w' => us = [.int .i64 (k : Int)] ∧ Ext w8_ w' ∧ (∀ s ∈ (readsOf a.term).take k, s ∈ c.globals)) (0) (by omega) ⟨by simp, Ext.refl w8_, by simp⟩ ?_
              rintro k m19 uu19 w9_ hk19 ⟨hu, hx9_, hinv⟩
              simp only [List.map_cons, List.map_nil, List.cons.injEq, and_true] at hu
              try rw [hu]
              try clear hu
              have hln65 := is_len h62
              refine rd_len u22 h62 ?_
              refine rd_lss ?_
              refine br (fun c10 => ?_) (fun c10 => ?_)
              · have hx10_ := ext_drew w9_
                refine rd_fld fd35_0 ?_
                refine rd_load ty22 (at_DCode_0 hA2) (hx2_.trans (hx3_.trans (hx4_.trans (hx5_.trans (hx7_.trans (hx8_.trans (hx9_.trans hx10_))))))) fun v70 h70 => ?_
                refine rd_indexN u22 ty9 h62 (by omega) fun b73 o73 h73 => ?_
                refine rd_loadS ty9 h73 (hx9_.trans hx10_) fun hS74 => ?_
                refine (specPlaceOf_ok h70 (hx2_.trans (hx3_.trans (hx4_.trans (hx5_.trans (hx7_.trans (hx8_.trans (hx9_.trans hx10_)))))))).mono ?_
                rintro _ w11_ ⟨hx11_, rfl⟩
                refine rd_lss ?_
                refine br (fun c11 => ?_) (fun c11 => ?_)
                · refine ⟨(hx1_.trans (hx2_.trans (hx3_.trans (hx4_.trans (hx5_.trans (hx7_.trans (hx8_.trans (hx9_.trans (hx10_.trans hx11_))))))))), ?_⟩
                  have : ¬ InsR c a (en c (procOf c j).toNat) (endOf c (procOf c j) + 1) := fun h => by
                    have := h.2.2.1; rw [if_pos (.inl c8)] at this
                    have := plc_iff.2 (this.2 _ (List.getElem_mem (n := k) (by omega))); omega
                  simp only [this, decide_false]
                · refine rd_inc (by omega) ?_
                  refine ⟨m19 - 1, by omega, k + 1, by omega, by simp, (hx9_.trans (hx10_.trans hx11_)), ?_⟩
                  intro s hs
                  rw [List.take_succ_eq_append_getElem (by omega)] at hs
                  rcases List.mem_append.1 hs with hs | hs
                  · exact hinv s hs
                  · simp only [List.mem_cons, List.not_mem_nil, or_false] at hs
                    subst hs
                    exact plc_iff.1 (by omega)
              · refine ⟨by simp, (hx7_.trans (hx8_.trans hx9_)), ?_⟩
                rw [if_pos (.inl c8)]
                rw [List.take_of_length_le (by omega)] at hinv
                exact ⟨by simpa using c9, hinv⟩
          · refine rd_fld fd136_0 ?_
            refine rd_loadI ty3 (at_DIns_0 hA5) (hx3_.trans (hx4_.trans hx5_)) fun hI53 => ?_
            refine rd_eql ?_
            refine br (fun c12 => ?_) (fun c12 => ?_)
            · refine rd_fld fd136_2 ?_
              refine rd_load ty134 (at_DIns_2 hA5) (hx3_.trans (hx4_.trans hx5_)) fun v57 h57 => ?_
              refine (specTermOk_ok h57 (hx3_.trans (hx4_.trans hx5_))).mono ?_
              rintro _ w12_ ⟨hx12_, rfl⟩
              refine rd_not ?_
              refine br_b (fun c13 => ?_) (fun c13 => ?_)
              · refine ⟨(hx1_.trans (hx2_.trans (hx3_.trans (hx4_.trans (hx5_.trans hx12_))))), ?_⟩
                have : ¬ InsR c a (en c (procOf c j).toNat) (endOf c (procOf c j) + 1) := fun h => by have := h.2.2.1; rw [if_pos (.inr c12)] at this; rw [this.1] at c13; cases c13
                simp only [this, decide_false]
              · refine rd_fld fd136_2 ?_
                refine rd_load ty134 (at_DIns_2 hA5) (hx3_.trans (hx4_.trans (hx5_.trans hx12_))) fun v61 h61 => ?_
                refine (specReadsOf_ok h61 (hx3_.trans (hx4_.trans (hx5_.trans hx12_)))).mono ?_
                rintro r62 w13_ ⟨hx13_, h62⟩
                refine loopC ((readsOf a.term).length) (fun k us w' => us = [.int .i64 (k : Int)] ∧ Ext w13_ w' ∧ (∀ s ∈ (readsOf a.term).take k, s ∈ c.globals)) (0) (by omega) ⟨by simp, Ext.refl w13_, by simp⟩ ?_
                rintro k m19 uu19 w14_ hk19 ⟨hu, hx14_, hinv⟩
                simp only [List.map_cons, List.map_nil, List.cons.injEq, and_true] at hu
                try rw [hu]
                try clear hu
                have hln65 := is_len h62
                refine rd_len u22 h62 ?_
                refine rd_lss ?_
                refine br (fun c14 => ?_) (fun c14 => ?_)
                · have hx15_ := ext_drew w14_
                  refine rd_fld fd35_0 ?_
                  refine rd_load ty22 (at_DCode_0 hA2) (hx2_.trans (hx3_.trans (hx4_.trans (hx5_.trans (hx12_.trans (hx13_.trans (hx14_.trans hx15_))))))) fun v70 h70 => ?_
                  refine rd_indexN u22 ty9 h62 (by omega) fun b73 o73 h73 => ?_
                  refine rd_loadS ty9 h73 (hx14_.trans hx15_) fun hS74 => ?_
                  refine (specPlaceOf_ok h70 (hx2_.trans (hx3_.trans (hx4_.trans (hx5_.trans (hx12_.trans (hx13_.trans (hx14_.trans hx15_)))))))).mono ?_
                  rintro _ w16_ ⟨hx16_, rfl⟩
                  refine rd_lss ?_
                  refine br (fun c15 => ?_) (fun c15 => ?_)
                  · refine ⟨(hx1_.trans (hx2_.trans (hx3_.trans (hx4_.trans (hx5_.trans (hx12_.trans (hx13_.trans (hx14_.trans (hx15_.trans hx16_))))))))), ?_⟩
                    have : ¬ InsR c a (en c (procOf c j).toNat) (endOf c (procOf c j) + 1) := fun h => by
                      have := h.2.2.1; rw [if_pos (.inr c12)] at this
                      have := plc_iff.2 (this.2 _ (List.getElem_mem (n := k) (by omega))); omega
                    simp only [this, decide_false]
                  · refine rd_inc (by omega) ?_
                    refine ⟨m19 - 1, by omega, k + 1, by omega, by simp, (hx14_.trans (hx15_.trans hx16_)), ?_⟩
                    intro s hs
                    rw [List.take_succ_eq_append_getElem (by omega)] at hs
                    rcases List.mem_append.1 hs with hs | hs
                    · exact hinv s hs
                    · simp only [List.mem_cons, List.not_mem_nil, or_false] at hs
                      subst hs
                      exact plc_iff.1 (by omega)
                · refine ⟨by simp, (hx12_.trans (hx13_.trans hx14_)), ?_⟩
                  rw [if_pos (.inr c12)]
                  rw [List.take_of_length_le (by omega)] at hinv
                  exact ⟨by simpa using c13, hinv⟩
            · refine rd_fld fd136_2 ?_
              refine rd_load ty134 (at_DIns_2 hA5) (hx3_.trans (hx4_.trans hx5_)) fun v78 h78 => ?_
              refine rd_buildZ (α := DTerm) us134 zl134 (by kernel_rfl) rfl fun v79 h79 => ?_
              refine (sameTerm0_ok h78 (hx3_.trans (hx4_.trans hx5_)) h79 (Ext.refl w5_) rfl).mono ?_
              rintro _ w17_ ⟨hx17_, rfl⟩
              refine rd_nodec ?_
              refine br (fun c16 => ?_) (fun c16 => ?_)
              · refine ⟨(hx1_.trans (hx2_.trans (hx3_.trans (hx4_.trans (hx5_.trans hx17_))))), ?_⟩
                have : ¬ InsR c a (en c (procOf c j).toNat) (endOf c (procOf c j) + 1) := fun h => by have := h.2.2.1; rw [if_neg (by omega)] at this; exact c16 this
                simp only [this, decide_false]
              · refine ⟨by simp, hx17_, ?_⟩
                rw [if_neg (by omega)]
                exact Decidable.not_not.1 c16
        · rintro uj25 w6_ ⟨hu, hx17_, hT⟩
          simp only [List.map_cons, List.map_nil, List.cons.injEq, and_true] at hu
          clear hu
          refine JOIN.mk (fun us w' => us = [] ∧ Ext w6_ w' ∧ (a.op = 2 ∨ a.op = 3)) ?_ ?_
          · refine rd_fld fd136_0 ?_
            refine rd_loadI ty3 (at_DIns_0 hA5) (hx3_.trans (hx4_.trans (hx5_.trans hx17_))) fun hI83 => ?_
            refine rd_neq ?_
            refine br (fun c17 => ?_) (fun c17 => ?_)
            · refine rd_fld fd136_0 ?_
              refine rd_loadI ty3 (at_DIns_0 hA5) (hx3_.trans (hx4_.trans (hx5_.trans hx17_))) fun hI87 => ?_
              refine rd_neq ?_
              refine br (fun c18 => ?_) (fun c18 => ?_)
              · refine rd_fld fd136_3 ?_
                refine rd_loadI ty3 (at_DIns_3 hA5) (hx3_.trans (hx4_.trans (hx5_.trans hx17_))) fun hI91 => ?_
                refine rd_eql ?_
                refine ⟨(hx1_.trans (hx2_.trans (hx3_.trans (hx4_.trans (hx5_.trans hx17_))))), ?_⟩
                congr 1
                rw [decide_eq_decide]
                constructor
                · exact fun h => ⟨Decidable.not_not.1 c6, by omega, hT, by rw [if_neg (by omega)]; exact h⟩
                · intro h; have := h.2.2.2; rw [if_neg (by omega)] at this; exact this
              · refine ⟨by simp, Ext.refl w6_, ?_⟩
                omega
            · refine ⟨by simp, Ext.refl w6_, ?_⟩
              omega
          · rintro uj27 w18_ ⟨hu, hx18_, hop⟩
            simp only [List.map_cons, List.map_nil, List.cons.injEq, and_true] at hu
            clear hu
            refine rd_var hV2 (hx2_.trans (hx3_.trans (hx4_.trans (hx5_.trans (hx17_.trans hx18_))))) ?_
            refine (l08Proc_ok h0 (e0.trans (hx1_.trans (hx2_.trans (hx3_.trans (hx4_.trans (hx5_.trans (hx17_.trans hx18_)))))))).mono ?_
            rintro _ w19_ ⟨hx19_, rfl⟩
            have hx20_ := ext_drew w19_
            refine rd_fld fd136_3 ?_
            refine rd_loadI ty3 (at_DIns_3 hA5) (hx3_.trans (hx4_.trans (hx5_.trans (hx17_.trans (hx18_.trans (hx19_.trans hx20_)))))) fun hI97 => ?_
            refine rd_fld fd35_3 ?_
            refine rd_load ty23 (at_DCode_3 hA2) (hx2_.trans (hx3_.trans (hx4_.trans (hx5_.trans (hx17_.trans (hx18_.trans (hx19_.trans hx20_))))))) fun v99 h99 => ?_
            refine rd_index u23 ty3 h99 (by omega) (by omega) fun b101 o101 h101 => ?_
            refine rd_loadI ty3 h101 (hx2_.trans (hx3_.trans (hx4_.trans (hx5_.trans (hx17_.trans (hx18_.trans (hx19_.trans hx20_))))))) fun hI102 => ?_
            refine rd_var hV2 (hx2_.trans (hx3_.trans (hx4_.trans (hx5_.trans (hx17_.trans (hx18_.trans (hx19_.trans hx20_))))))) ?_
            refine (l08End_ok h0 (e0.trans (hx1_.trans (hx2_.trans (hx3_.trans (hx4_.trans (hx5_.trans (hx17_.trans (hx18_.trans (hx19_.trans hx20_))))))))) (by omega) (by omega) (by assumption)).mono ?_
            rintro _ w21_ ⟨hx21_, rfl⟩
            refine ⟨hx21_, ?_⟩
            refine (l01In_ok ).mono ?_
            rintro _ w22_ ⟨hx22_, rfl⟩
            refine ⟨(hx1_.trans (hx2_.trans (hx3_.trans (hx4_.trans (hx5_.trans (hx17_.trans (hx18_.trans (hx19_.trans (hx20_.trans (hx21_.trans hx22_)))))))))), ?_⟩
            congr 1
            rw [decide_eq_decide, en_get]
            constructor
            · exact fun h => ⟨Decidable.not_not.1 c6, by omega, hT, by rw [if_pos hop]; omega⟩
            · intro h; have := h.2.2.2; rw [if_pos hop] at this; omega
def CodeR (c : DCode) : Prop := NamesR c ∧ EntS c ∧ ∀ j, j < c.ins.length → InsR c (insAt c j) (en c (procOf c j).toNat) (endOf c (procOf c j) + 1)
instance (c : DCode) : Decidable (CodeR c) := by unfold CodeR; infer_instance
theorem EntS.nonneg {c : DCode} (h : EntS c) : ∀ i, i < c.entry.length → 0 ≤ en c i := ent_nonneg h.2.2.1
theorem NamesR.procs8 {c : DCode} (h : NamesR c) : c.procs.length ≤ 8 ∧ 0 < c.procs.length := by
  have h1 := h.2.2.1
  simp only [Bool.and_eq_true, decide_eq_true_eq] at h1
  have h2 := List.length_pos_of_mem h.2.2.2.2.2.2
  omega
theorem prc_nonneg {c : DCode} {a : Int} (h0 : en c 0 ≤ a) : ∀ {n : Nat}, 0 < n → 0 ≤ prc c a n
  | 1, _ => by rw [prc, if_pos h0]; omega
  | n + 2, _ => by
    rw [prc]
    split
    · omega
    · exact prc_nonneg h0 (by omega)
theorem procOf_nonneg {c : DCode} (hn : NamesR c) (h : EntS c) {a : Int} (ha : 0 ≤ a) : 0 ≤ procOf c a := by
  have h1 := hn.procs8
  have h2 := h.1
  exact prc_nonneg (by have := (h.2.2.1 0 (by omega)).1 rfl; omega) (by omega)
def F73 (a0 : Value) (w : World) (R : Value → World → Prop) : Prop :=
 OP Tryz.prog (Instr.box 35 a0) w fun x1 w =>
 RD Tryz.prog (Instr.loadAt 35 x1) w fun x4 =>
 CALL Tryz.prog 138 [x4] w fun x5 w =>
 RD Tryz.prog (Op.unary .not x5) w fun x6 =>
 BR x6
 (R (Value.bool false) w)
 (LOOPI [3] [(Value.int .i64 0)] w fun u4 w next4 =>
 RD Tryz.prog (Instr.fieldAt 35 x1 4) w fun x8 =>
 RD Tryz.prog (Instr.loadAt 33 x8) w fun x9 =>
 RD Tryz.prog (Builtin.len_ #[33] 3 [x9].toArray) w fun x10 =>
 RD Tryz.prog (bin .lss 3 (.tmp 0) (.tmp 0) (u4 3) x10) w fun x11 =>
 BR x11
 (RD Tryz.prog (Instr.loadAt 35 x1) w fun x14 =>
 CALL Tryz.prog 139 [x14, (u4 3)] w fun x16 w =>
 RD Tryz.prog (Op.unary .not x16) w fun x17 =>
 BR x17
 (R (Value.bool false) w)
 (RD Tryz.prog (bin .add 3 (.tmp 0) (.const undef) (u4 3) (Value.int .i64 1)) w fun x13 =>
 next4 [x13] w))
 (R (Value.bool true) w))
def cfg73 : Cfg := { ext := extL, joins := [], loops := [(4, 262028, [3])], draws := [], pars := [] }
theorem F73_eq (a0 : Value) (w : World) (R : Value → World → Prop) : vcF Tryz.prog cfg73 Tryz.f73 [a0] w R = F73 a0 w R := by kernel_rfl
theorem F73_call {a0 : Value} {w : World} {R : Value → World → Prop} (h : F73 a0 w R) : CALL Tryz.prog 73 [a0] w R :=
  call_of (g := cfg73) ent mixed Tryz.func73 (Nat.le_of_ble_eq_true (by kernel_rfl)) (by kernel_rfl) (F73_eq a0 w R ▸ h)
theorem specCodeOk_ok {w : World} {v0 : Value} {W0 : World} {c : DCode}  (h0 : Is W0 v0 c) (e0 : Ext W0 w)  :
    CALL Tryz.prog 73 [v0] w fun r w' => Ext w w' ∧ (r = .bool (decide (CodeR c))) := by
  refine F73_call ?_
  unfold F73
  refine op_boxS ty35 rfl h0 e0 fun w1_ hx1_ hA1 hV1 => ?_
  refine rd_var hV1 (Ext.refl w1_) ?_
  refine (l08Heads_ok h0 (e0.trans hx1_)).mono ?_
  rintro _ w2_ ⟨hx2_, rfl⟩
  skip
  refine rd_nodec ?_
  refine br (fun c1 => ?_) (fun c1 => ?_)
  · refine ⟨(hx1_.trans hx2_), ?_⟩
    have : ¬ CodeR c := fun h => c1 ⟨h.1, h.2.1⟩
    simp only [this, decide_false]
  · refine loopC (c.ins.length) (fun k us w' => us = [.int .i64 (k : Int)] ∧ Ext w2_ w' ∧ (∀ j, j < k → InsR c (insAt c j) (en c (procOf c j).toNat) (endOf c (procOf c j) + 1))) (0) (by omega) ⟨by simp, Ext.refl w2_, fun i h => by omega⟩ ?_
    rintro k m4 uu4 w3_ hk4 ⟨hu, hx3_, hinv⟩
    simp only [List.map_cons, List.map_nil, List.cons.injEq, and_true] at hu
    try rw [hu]
    try clear hu
    replace c1 := Decidable.not_not.1 c1
    refine rd_fld fd35_4 ?_
    refine rd_load ty33 (at_DCode_4 hA1) (hx2_.trans hx3_) fun v9 h9 => ?_
    have hln10 := is_len h9
    refine rd_len u33 h9 ?_
    refine rd_lss ?_
    refine br (fun c2 => ?_) (fun c2 => ?_)
    · refine rd_var hV1 (hx2_.trans hx3_) ?_
      refine (l08Ins_ok h0 (e0.trans (hx1_.trans (hx2_.trans hx3_))) (by omega) c1.2.nonneg (by have := c1.1.procs8; have := c1.2.1; omega) (procOf_nonneg c1.1 c1.2 (by omega))).mono ?_
      rintro _ w4_ ⟨hx4_, rfl⟩
      refine rd_nodec ?_
      refine br (fun c3 => ?_) (fun c3 => ?_)
      · refine ⟨(hx1_.trans (hx2_.trans (hx3_.trans hx4_))), ?_⟩
        have : ¬ CodeR c := fun h => c3 (h.2.2 k (by omega))
        simp only [this, decide_false]
      · refine rd_inc (by omega) ?_
        refine ⟨m4 - 1, by omega, k + 1, by omega, by simp, (hx3_.trans hx4_), ?_⟩
        exact all_succ hinv (Decidable.not_not.1 c3)
    · refine ⟨(hx1_.trans (hx2_.trans hx3_)), ?_⟩
      have : CodeR c := ⟨c1.1, c1.2, fun j hj => hinv j (by omega)⟩
      simp only [this, decide_true]
def F191 (a0 : Value) (w : World) (R : Value → World → Prop) : Prop :=
 OP Tryz.prog (Instr.box 35 a0) w fun x1 w =>
 RD Tryz.prog (Instr.fieldAt 35 x1 0) w fun x3 =>
 RD Tryz.prog (Instr.loadAt 22 x3) w fun x4 =>
 CALL Tryz.prog 237 [x4, (Value.int .i64 6)] w fun x5 w =>
 RD Tryz.prog (Op.unary .not x5) w fun x6 =>
 BR x6
 (R (Value.bool false) w)
 (RD Tryz.prog (Instr.fieldAt 35 x1 1) w fun x8 =>
 RD Tryz.prog (Instr.loadAt 22 x8) w fun x9 =>
 CALL Tryz.prog 237 [x9, (Value.int .i64 6)] w fun x10 w =>
 RD Tryz.prog (Op.unary .not x10) w fun x11 =>
 BR x11
 (R (Value.bool false) w)
 (RD Tryz.prog (Instr.fieldAt 35 x1 2) w fun x14 =>
 RD Tryz.prog (Instr.loadAt 22 x14) w fun x15 =>
 CALL Tryz.prog 237 [x15, (Value.int .i64 8)] w fun x16 w =>
 RD Tryz.prog (Op.unary .not x16) w fun x17 =>
 BR x17
 (R (Value.bool false) w)
 (RD Tryz.prog (Instr.fieldAt 35 x1 0) w fun x19 =>
 RD Tryz.prog (Instr.loadAt 22 x19) w fun x20 =>
 CALL Tryz.prog 238 [x20] w fun x21 w =>
 BR x21
 (R (Value.bool false) w)
 (RD Tryz.prog (Instr.fieldAt 35 x1 1) w fun x23 =>
 RD Tryz.prog (Instr.loadAt 22 x23) w fun x24 =>
 CALL Tryz.prog 238 [x24] w fun x25 w =>
 BR x25
 (R (Value.bool false) w)
 (RD Tryz.prog (Instr.fieldAt 35 x1 2) w fun x28 =>
 RD Tryz.prog (Instr.loadAt 22 x28) w fun x29 =>
 CALL Tryz.prog 238 [x29] w fun x30 w =>
 BR x30
 (R (Value.bool false) w)
 (RD Tryz.prog (Instr.fieldAt 35 x1 2) w fun x32 =>
 RD Tryz.prog (Instr.loadAt 22 x32) w fun x33 =>
 CALL Tryz.prog 226 [x33, (Value.string (ByteArray.mk #[109, 97, 105, 110]))] w fun x34 w =>
 R x34 w))))))
def cfg191 : Cfg := { ext := extL, joins := [], loops := [], draws := [], pars := [] }
theorem F191_eq (a0 : Value) (w : World) (R : Value → World → Prop) : vcF Tryz.prog cfg191 Tryz.f191 [a0] w R = F191 a0 w R := by kernel_rfl
theorem F191_call {a0 : Value} {w : World} {R : Value → World → Prop} (h : F191 a0 w R) : CALL Tryz.prog 191 [a0] w R :=
  call_of (g := cfg191) ent mixed Tryz.func191 (Nat.le_of_ble_eq_true (by kernel_rfl)) (by kernel_rfl) (F191_eq a0 w R ▸ h)
theorem namesRight_ok {w : World} {v0 : Value} {W0 : World} {c : DCode}  (h0 : Is W0 v0 c) (e0 : Ext W0 w)  :
    CALL Tryz.prog 191 [v0] w fun r w' => Ext w w' ∧ (r = .bool (decide (NamesR c))) := by
  refine F191_call ?_
  unfold F191
  refine op_boxS ty35 rfl h0 e0 fun w1_ hx1_ hA1 hV1 => ?_
  refine rd_fld fd35_0 ?_
  refine rd_load ty22 (at_DCode_0 hA1) (Ext.refl w1_) fun v4 h4 => ?_
  refine (areNames_ok h4 (Ext.refl w1_)).mono ?_
  rintro _ w2_ ⟨hx2_, rfl⟩
  refine rd_not ?_
  refine br_b (fun c1 => ?_) (fun c1 => ?_)
  · refine ⟨(hx1_.trans hx2_), ?_⟩
    have : ¬ NamesR c := fun h => by rw [h.1] at c1; cases c1
    simp only [this, decide_false]
  · refine rd_fld fd35_1 ?_
    refine rd_load ty22 (at_DCode_1 hA1) hx2_ fun v9 h9 => ?_
    refine (areNames_ok h9 hx2_).mono ?_
    rintro _ w3_ ⟨hx3_, rfl⟩
    refine rd_not ?_
    refine br_b (fun c2 => ?_) (fun c2 => ?_)
    · refine ⟨(hx1_.trans (hx2_.trans hx3_)), ?_⟩
      have : ¬ NamesR c := fun h => by rw [h.2.1] at c2; cases c2
      simp only [this, decide_false]
    · refine rd_fld fd35_2 ?_
      refine rd_load ty22 (at_DCode_2 hA1) (hx2_.trans hx3_) fun v15 h15 => ?_
      refine (areNames_ok h15 (hx2_.trans hx3_)).mono ?_
      rintro _ w4_ ⟨hx4_, rfl⟩
      refine rd_not ?_
      refine br_b (fun c3 => ?_) (fun c3 => ?_)
      · refine ⟨(hx1_.trans (hx2_.trans (hx3_.trans hx4_))), ?_⟩
        have : ¬ NamesR c := fun h => by rw [h.2.2.1] at c3; cases c3
        simp only [this, decide_false]
      · refine rd_fld fd35_0 ?_
        refine rd_load ty22 (at_DCode_0 hA1) (hx2_.trans (hx3_.trans hx4_)) fun v20 h20 => ?_
        refine (hasTwice_ok h20 (hx2_.trans (hx3_.trans hx4_))).mono ?_
        rintro _ w5_ ⟨hx5_, rfl⟩
        refine br (fun c4 => ?_) (fun c4 => ?_)
        · refine ⟨(hx1_.trans (hx2_.trans (hx3_.trans (hx4_.trans hx5_)))), ?_⟩
          have : ¬ NamesR c := fun h => c4 h.2.2.2.1
          simp only [this, decide_false]
        · refine rd_fld fd35_1 ?_
          refine rd_load ty22 (at_DCode_1 hA1) (hx2_.trans (hx3_.trans (hx4_.trans hx5_))) fun v24 h24 => ?_
          refine (hasTwice_ok h24 (hx2_.trans (hx3_.trans (hx4_.trans hx5_)))).mono ?_
          rintro _ w6_ ⟨hx6_, rfl⟩
          refine br (fun c5 => ?_) (fun c5 => ?_)
          · refine ⟨(hx1_.trans (hx2_.trans (hx3_.trans (hx4_.trans (hx5_.trans hx6_))))), ?_⟩
            have : ¬ NamesR c := fun h => c5 h.2.2.2.2.1
            simp only [this, decide_false]
          · refine rd_fld fd35_2 ?_
            refine rd_load ty22 (at_DCode_2 hA1) (hx2_.trans (hx3_.trans (hx4_.trans (hx5_.trans hx6_)))) fun v29 h29 => ?_
            refine (hasTwice_ok h29 (hx2_.trans (hx3_.trans (hx4_.trans (hx5_.trans hx6_))))).mono ?_
            rintro _ w7_ ⟨hx7_, rfl⟩
            refine br (fun c6 => ?_) (fun c6 => ?_)
            · refine ⟨(hx1_.trans (hx2_.trans (hx3_.trans (hx4_.trans (hx5_.trans (hx6_.trans hx7_)))))), ?_⟩
              have : ¬ NamesR c := fun h => c6 h.2.2.2.2.2.1
              simp only [this, decide_false]
            · refine rd_fld fd35_2 ?_
              refine rd_load ty22 (at_DCode_2 hA1) (hx2_.trans (hx3_.trans (hx4_.trans (hx5_.trans (hx6_.trans hx7_))))) fun v33 h33 => ?_
              refine (containsStr_ok h33 (hx2_.trans (hx3_.trans (hx4_.trans (hx5_.trans (hx6_.trans hx7_)))))).mono ?_
              rintro _ w8_ ⟨hx8_, rfl⟩
              refine ⟨(hx1_.trans (hx2_.trans (hx3_.trans (hx4_.trans (hx5_.trans (hx6_.trans (hx7_.trans hx8_))))))), ?_⟩
              congr 1
              rw [decide_eq_decide]
              exact ⟨fun h => ⟨by simpa using c1, by simpa using c2, by simpa using c3, Decidable.not_not.1 c4, Decidable.not_not.1 c5, Decidable.not_not.1 c6, h⟩, fun h => h.2.2.2.2.2.2⟩
def ends (c : DCode) : Nat → Nat
  | 0 => 0
  | k + 1 => ends c k + if (insAt c k).op = 9 then 1 else 0
theorem ends_le (c : DCode) : ∀ k, ends c k ≤ k
  | 0 => Nat.le_refl _
  | k + 1 => by have := ends_le c k; rw [ends]; split <;> omega
def EntI (c : DCode) : Prop := c.ins.length ≤ 1500 ∧ c.entry.length = c.procs.length ∧ en c 0 = 0 ∧ ends c c.ins.length = c.entry.length ∧
  ∀ i, i < c.entry.length → en c i < endB c i ∧ endB c i ≤ c.ins.length ∧ (insAt c (endB c i - 1).toNat).op = 9
instance (c : DCode) : Decidable (EntI c) := by unfold EntI; infer_instance
theorem entI_nonneg {c : DCode} (h0 : en c 0 = 0) : ∀ {q : Nat}, q < c.entry.length → (∀ i, i < q → en c i < endB c i) → 0 ≤ en c q
  | 0, _, _ => by omega
  | q + 1, hq, h => by
    have h1 := entI_nonneg h0 (q := q) (by omega) fun i hi => h i (by omega)
    have h2 := h q (by omega)
    unfold endB at h2
    rw [if_pos hq] at h2
    omega
def F192 (a0 : Value) (w : World) (R : Value → World → Prop) : Prop :=
 OP Tryz.prog (Instr.box 35 a0) w fun x1 w =>
 RD Tryz.prog (Instr.fieldAt 35 x1 4) w fun x9 =>
 RD Tryz.prog (Instr.loadAt 33 x9) w fun x10 =>
 RD Tryz.prog (Builtin.len_ #[33] 3 [x10].toArray) w fun x11 =>
 RD Tryz.prog (bin .gtr 3 (.tmp 0) (.const undef) x11 (Value.int .i64 1500)) w fun x12 =>
 BR x12
 (R (Value.bool false) w)
 (RD Tryz.prog (Instr.fieldAt 35 x1 3) w fun x14 =>
 RD Tryz.prog (Instr.loadAt 23 x14) w fun x15 =>
 RD Tryz.prog (Builtin.len_ #[23] 3 [x15].toArray) w fun x16 =>
 RD Tryz.prog (Instr.fieldAt 35 x1 2) w fun x17 =>
 RD Tryz.prog (Instr.loadAt 22 x17) w fun x18 =>
 RD Tryz.prog (Builtin.len_ #[22] 3 [x18].toArray) w fun x19 =>
 RD Tryz.prog (bin .neq 3 (.tmp 0) (.tmp 0) x16 x19) w fun x20 =>
 BR x20
 (R (Value.bool false) w)
 (RD Tryz.prog (Instr.fieldAt 35 x1 3) w fun x23 =>
 RD Tryz.prog (Instr.loadAt 23 x23) w fun x24 =>
 RD Tryz.prog (Instr.indexAt 23 x24 (Value.int .i64 0)) w fun x25 =>
 RD Tryz.prog (Instr.loadAt 3 x25) w fun x26 =>
 RD Tryz.prog (bin .neq 3 (.tmp 0) (.const undef) x26 (Value.int .i64 0)) w fun x27 =>
 BR x27
 (R (Value.bool false) w)
 (RD Tryz.prog (Instr.fieldAt 35 x1 4) w fun x29 =>
 RD Tryz.prog (Instr.loadAt 33 x29) w fun x30 =>
 RD Tryz.prog (Builtin.len_ #[33] 3 [x30].toArray) w fun x31 =>
 LOOPI [3, 32] [(Value.int .i64 0), (Value.int .i64 0)] w fun u5 w next5 =>
 RD Tryz.prog (bin .lss 3 (.tmp 0) (.tmp 0) (u5 32) x31) w fun x33 =>
 BR x33
 (RD Tryz.prog (Instr.indexAt 33 x30 (u5 32)) w fun x34 =>
 RD Tryz.prog (Instr.loadAt 136 x34) w fun x35 =>
 OP Tryz.prog (Instr.alloc 136 true (.tuple #[])) w fun x5 w =>
 OPU Tryz.prog (Instr.storeAt 136 x5 x35) w fun w =>
 RD Tryz.prog (Instr.fieldAt 136 x5 0) w fun x36 =>
 RD Tryz.prog (Instr.loadAt 3 x36) w fun x37 =>
 RD Tryz.prog (bin .eql 3 (.tmp 0) (.const undef) x37 (Value.int .i64 9)) w fun x38 =>
 BR x38
 (RD Tryz.prog (bin .add 3 (.tmp 0) (.const undef) (u5 3) (Value.int .i64 1)) w fun x40 =>
 RD Tryz.prog (bin .add 3 (.tmp 0) (.const undef) (u5 32) (Value.int .i64 1)) w fun x41 =>
 next5 [x40, x41] w)
 (RD Tryz.prog (bin .add 3 (.tmp 0) (.const undef) (u5 32) (Value.int .i64 1)) w fun x41 =>
 next5 [(u5 3), x41] w))
 (RD Tryz.prog (Instr.fieldAt 35 x1 3) w fun x43 =>
 RD Tryz.prog (Instr.loadAt 23 x43) w fun x44 =>
 RD Tryz.prog (Builtin.len_ #[23] 3 [x44].toArray) w fun x45 =>
 RD Tryz.prog (bin .neq 3 (.tmp 0) (.tmp 0) (u5 3) x45) w fun x46 =>
 BR x46
 (R (Value.bool false) w)
 (RD Tryz.prog (Instr.fieldAt 35 x1 3) w fun x47 =>
 RD Tryz.prog (Instr.loadAt 23 x47) w fun x48 =>
 RD Tryz.prog (Builtin.len_ #[23] 3 [x48].toArray) w fun x49 =>
 LOOPI [50] [(Value.int .i64 0)] w fun u13 w next13 =>
 RD Tryz.prog (bin .lss 3 (.tmp 0) (.tmp 0) (u13 50) x49) w fun x51 =>
 BR x51
 ((fun w => RD Tryz.prog (Instr.fieldAt 35 x1 3) w fun x53 =>
 RD Tryz.prog (Instr.loadAt 23 x53) w fun x54 =>
 RD Tryz.prog (Instr.indexAt 23 x54 (u13 50)) w fun x56 =>
 RD Tryz.prog (Instr.loadAt 3 x56) w fun x57 =>
 RD Tryz.prog (Instr.fieldAt 35 x1 4) w fun x58 =>
 RD Tryz.prog (Instr.loadAt 33 x58) w fun x59 =>
 RD Tryz.prog (Builtin.len_ #[33] 3 [x59].toArray) w fun x60 =>
 JOIN [8] (fun J18 =>
 RD Tryz.prog (bin .add 3 (.tmp 0) (.const undef) (u13 50) (Value.int .i64 1)) w fun x62 =>
 RD Tryz.prog (Instr.fieldAt 35 x1 3) w fun x63 =>
 RD Tryz.prog (Instr.loadAt 23 x63) w fun x64 =>
 RD Tryz.prog (Builtin.len_ #[23] 3 [x64].toArray) w fun x65 =>
 RD Tryz.prog (bin .lss 3 (.tmp 0) (.tmp 0) x62 x65) w fun x66 =>
 BR x66
 (RD Tryz.prog (Instr.fieldAt 35 x1 3) w fun x67 =>
 RD Tryz.prog (Instr.loadAt 23 x67) w fun x68 =>
 RD Tryz.prog (bin .add 3 (.tmp 0) (.const undef) (u13 50) (Value.int .i64 1)) w fun x70 =>
 RD Tryz.prog (Instr.indexAt 23 x68 x70) w fun x71 =>
 RD Tryz.prog (Instr.loadAt 3 x71) w fun x72 =>
 J18 [x72] w)
 (J18 [x60] w)) (fun u18 w =>
 RD Tryz.prog (bin .leq 3 (.tmp 0) (.tmp 0) (u18 8) x57) w fun x75 =>
 BR x75
 (R (Value.bool false) w)
 (RD Tryz.prog (Instr.fieldAt 35 x1 4) w fun x78 =>
 RD Tryz.prog (Instr.loadAt 33 x78) w fun x79 =>
 RD Tryz.prog (Builtin.len_ #[33] 3 [x79].toArray) w fun x80 =>
 RD Tryz.prog (bin .gtr 3 (.tmp 0) (.tmp 0) (u18 8) x80) w fun x81 =>
 BR x81
 (R (Value.bool false) w)
 (RD Tryz.prog (Instr.fieldAt 35 x1 4) w fun x84 =>
 RD Tryz.prog (Instr.loadAt 33 x84) w fun x85 =>
 RD Tryz.prog (bin .sub 3 (.tmp 0) (.const undef) (u18 8) (Value.int .i64 1)) w fun x87 =>
 RD Tryz.prog (Instr.indexAt 33 x85 x87) w fun x88 =>
 RD Tryz.prog (Instr.fieldAt 136 x88 0) w fun x89 =>
 RD Tryz.prog (Instr.loadAt 3 x89) w fun x90 =>
 RD Tryz.prog (bin .neq 3 (.tmp 0) (.const undef) x90 (Value.int .i64 9)) w fun x91 =>
 BR x91
 (R (Value.bool false) w)
 (RD Tryz.prog (bin .add 3 (.tmp 0) (.const undef) (u13 50) (Value.int .i64 1)) w fun x93 =>
 next13 [x93] w))))) (World.drew1 w))
 (R (Value.bool true) w))))))
def cfg192 : Cfg := { ext := extL, joins := [(18, 9442427122730076733696, [8])], loops := [(5, 4393751543848, [3, 32]), (13, 19807040628564958498479145412, [50])], draws := [(15, [0, 1, 2, 3, 4, 5, 6, 7, 8, 9], 0)], pars := [] }
theorem F192_eq (a0 : Value) (w : World) (R : Value → World → Prop) : vcF Tryz.prog cfg192 Tryz.f192 [a0] w R = F192 a0 w R := by kernel_rfl
theorem F192_call {a0 : Value} {w : World} {R : Value → World → Prop} (h : F192 a0 w R) : CALL Tryz.prog 192 [a0] w R :=
  call_of (g := cfg192) ent mixed Tryz.func192 (Nat.le_of_ble_eq_true (by kernel_rfl)) (by kernel_rfl) (F192_eq a0 w R ▸ h)
theorem entriesRight_ok {w : World} {v0 : Value} {W0 : World} {c : DCode}  (h0 : Is W0 v0 c) (e0 : Ext W0 w) (hp : 0 < c.procs.length) :
    CALL Tryz.prog 192 [v0] w fun r w' => Ext w w' ∧ (r = .bool (decide (EntI c))) := by
  refine F192_call ?_
  unfold F192
  refine op_boxS ty35 rfl h0 e0 fun w1_ hx1_ hA1 hV1 => ?_
  refine rd_fld fd35_4 ?_
  refine rd_load ty33 (at_DCode_4 hA1) (Ext.refl w1_) fun v10 h10 => ?_
  have hln11 := is_len h10
  refine rd_len u33 h10 ?_
  refine rd_gtr ?_
  refine br (fun c1 => ?_) (fun c1 => ?_)
  · refine ⟨hx1_, ?_⟩
    have : ¬ EntI c := fun h => by have := h.1; omega
    simp only [this, decide_false]
  · refine rd_fld fd35_3 ?_
    refine rd_load ty23 (at_DCode_3 hA1) (Ext.refl w1_) fun v15 h15 => ?_
    have hln16 := is_len h15
    refine rd_len u23 h15 ?_
    refine rd_fld fd35_2 ?_
    refine rd_load ty22 (at_DCode_2 hA1) (Ext.refl w1_) fun v18 h18 => ?_
    have hln19 := is_len h18
    refine rd_len u22 h18 ?_
    refine rd_neq ?_
    refine br (fun c2 => ?_) (fun c2 => ?_)
    · refine ⟨hx1_, ?_⟩
      have : ¬ EntI c := fun h => by have := h.2.1; omega
      simp only [this, decide_false]
    · refine rd_fld fd35_3 ?_
      refine rd_load ty23 (at_DCode_3 hA1) (Ext.refl w1_) fun v24 h24 => ?_
      refine rd_index u23 ty3 h24 (by omega) (by omega) fun b25 o25 h25 => ?_
      refine rd_loadI ty3 h25 (Ext.refl w1_) fun hI26 => ?_
      refine rd_neq ?_
      refine br (fun c3 => ?_) (fun c3 => ?_)
      · refine ⟨hx1_, ?_⟩
        rw [en_get] at c3
        have : ¬ EntI c := fun h => c3 h.2.2.1
        simp only [this, decide_false]
      · refine rd_fld fd35_4 ?_
        refine rd_load ty33 (at_DCode_4 hA1) (Ext.refl w1_) fun v30 h30 => ?_
        have hln31 := is_len h30
        refine rd_len u33 h30 ?_
        refine loopC (c.ins.length) (fun k us w' => us = [.int .i64 (ends c k : Int), .int .i64 (k : Int)] ∧ Ext w1_ w' ∧ (True)) (0) (by omega) ⟨rfl, Ext.refl w1_, trivial⟩ ?_
        rintro k m5 uu5 w2_ hk5 ⟨hu, hx2_, hinv⟩
        simp only [List.map_cons, List.map_nil, List.cons.injEq, and_true] at hu
        obtain ⟨hu0, hu1⟩ := hu
        try rw [hu0]
        try rw [hu1]
        try clear hu0 hu1
        have hel := ends_le c k
        refine rd_lss ?_
        refine br (fun c4 => ?_) (fun c4 => ?_)
        · refine rd_indexN u33 ty136 h30 (by omega) fun b34 o34 h34 => ?_
          refine rd_load ty136 h34 hx2_ fun v35 h35 => ?_
          rw [insAt_get] at h35
          refine op_var zl136 rfl ty136 rfl h35 hx2_ fun w3_ hx3_ hA5 hV5 => ?_
          refine rd_fld fd136_0 ?_
          refine rd_loadI ty3 (at_DIns_0 hA5) (Ext.refl w3_) fun hI37 => ?_
          refine rd_eql ?_
          refine br (fun c5 => ?_) (fun c5 => ?_)
          · refine rd_inc (by omega) ?_
            refine rd_inc (by omega) ?_
            refine ⟨m5 - 1, by omega, k + 1, by omega, by rw [ends, if_pos c5], (hx2_.trans hx3_), ?_⟩
            trivial
          · refine rd_inc (by omega) ?_
            refine ⟨m5 - 1, by omega, k + 1, by omega, by rw [ends, if_neg c5]; rfl, (hx2_.trans hx3_), ?_⟩
            trivial
        · refine rd_fld fd35_3 ?_
          refine rd_load ty23 (at_DCode_3 hA1) hx2_ fun v44 h44 => ?_
          have hln45 := is_len h44
          refine rd_len u23 h44 ?_
          refine rd_neq ?_
          refine br (fun c6 => ?_) (fun c6 => ?_)
          · refine ⟨(hx1_.trans hx2_), ?_⟩
            have : ¬ EntI c := fun h => c6 (by rw [show k = c.ins.length by omega, h.2.2.2.1])
            simp only [this, decide_false]
          · refine rd_fld fd35_3 ?_
            refine rd_load ty23 (at_DCode_3 hA1) hx2_ fun v48 h48 => ?_
            have hln49 := is_len h48
            refine rd_len u23 h48 ?_
            refine loopC (c.entry.length) (fun q us w' => us = [.int .i64 (q : Int)] ∧ Ext w2_ w' ∧ (∀ i, i < q → en c i < endB c i ∧ endB c i ≤ c.ins.length ∧ (insAt c (endB c i - 1).toNat).op = 9)) (0) (by omega) ⟨by simp, Ext.refl w2_, fun i h => by omega⟩ ?_
            rintro q m13 uu13 w4_ hk13 ⟨hu, hx4_, hent⟩
            simp only [List.map_cons, List.map_nil, List.cons.injEq, and_true] at hu
            try rw [hu]
            try clear hu
            refine rd_lss ?_
            refine br (fun c7 => ?_) (fun c7 => ?_)
            · have hx5_ := ext_drew w4_
              refine rd_fld fd35_3 ?_
              refine rd_load ty23 (at_DCode_3 hA1) (hx2_.trans (hx4_.trans hx5_)) fun v54 h54 => ?_
              refine rd_indexN u23 ty3 h54 (by omega) fun b56 o56 h56 => ?_
              refine rd_loadI ty3 h56 (hx2_.trans (hx4_.trans hx5_)) fun hI57 => ?_
              refine rd_fld fd35_4 ?_
              refine rd_load ty33 (at_DCode_4 hA1) (hx2_.trans (hx4_.trans hx5_)) fun v59 h59 => ?_
              have hln60 := is_len h59
              refine rd_len u33 h59 ?_
              refine JOIN.mk (fun us w' => us = [.int .i64 (endB c q)] ∧ Ext (World.drew1 w4_) w' ∧ (True)) ?_ ?_
              · refine rd_inc (by omega) ?_
                refine rd_fld fd35_3 ?_
                refine rd_load ty23 (at_DCode_3 hA1) (hx2_.trans (hx4_.trans hx5_)) fun v64 h64 => ?_
                have hln65 := is_len h64
                refine rd_len u23 h64 ?_
                refine rd_lss ?_
                refine br (fun c8 => ?_) (fun c8 => ?_)
                · refine rd_fld fd35_3 ?_
                  refine rd_load ty23 (at_DCode_3 hA1) (hx2_.trans (hx4_.trans hx5_)) fun v68 h68 => ?_
                  refine rd_inc (by omega) ?_
                  refine rd_indexN u23 ty3 h68 (by omega) fun b71 o71 h71 => ?_
                  refine rd_loadI ty3 h71 (hx2_.trans (hx4_.trans hx5_)) fun hI72 => ?_
                  refine ⟨by unfold endB; rw [if_pos (by omega), en_get], Ext.refl (World.drew1 w4_), ?_⟩
                  trivial
                · refine ⟨by unfold endB; rw [if_neg (by omega)], Ext.refl (World.drew1 w4_), ?_⟩
                  trivial
              · rintro uj18 w6_ ⟨hu, hx6_, hinv⟩
                simp only [List.map_cons, List.map_nil, List.cons.injEq, and_true] at hu
                try rw [hu]
                try clear hu
                refine rd_leq ?_
                refine br (fun c9 => ?_) (fun c9 => ?_)
                · refine ⟨(hx1_.trans (hx2_.trans (hx4_.trans (hx5_.trans hx6_)))), ?_⟩
                  rw [en_get] at c9
                  have : ¬ EntI c := fun h => by have := (h.2.2.2.2 q (by omega)).1; omega
                  simp only [this, decide_false]
                · refine rd_fld fd35_4 ?_
                  refine rd_load ty33 (at_DCode_4 hA1) (hx2_.trans (hx4_.trans (hx5_.trans hx6_))) fun v79 h79 => ?_
                  have hln80 := is_len h79
                  refine rd_len u33 h79 ?_
                  refine rd_gtr ?_
                  refine br (fun c10 => ?_) (fun c10 => ?_)
                  · refine ⟨(hx1_.trans (hx2_.trans (hx4_.trans (hx5_.trans hx6_)))), ?_⟩
                    have : ¬ EntI c := fun h => by have := (h.2.2.2.2 q (by omega)).2.1; omega
                    simp only [this, decide_false]
                  · refine rd_fld fd35_4 ?_
                    refine rd_load ty33 (at_DCode_4 hA1) (hx2_.trans (hx4_.trans (hx5_.trans hx6_))) fun v85 h85 => ?_
                    rw [en_get] at c3 c9
                    have hq0 := entI_nonneg (Decidable.not_not.1 c3) (q := q) (by omega) fun i hi => (hent i hi).1
                    refine rd_sub (by unfold I64; omega) ?_
                    refine rd_index u33 ty136 h85 (by omega) (by omega) fun b88 o88 h88 => ?_
                    refine rd_fld fd136_0 ?_
                    refine rd_loadI ty3 (at_DIns_0 h88) (hx2_.trans (hx4_.trans (hx5_.trans hx6_))) fun hI90 => ?_
                    refine rd_neq ?_
                    refine br (fun c11 => ?_) (fun c11 => ?_)
                    · refine ⟨(hx1_.trans (hx2_.trans (hx4_.trans (hx5_.trans hx6_)))), ?_⟩
                      rw [insAt_get] at c11
                      have : ¬ EntI c := fun h => c11 (h.2.2.2.2 q (by omega)).2.2
                      simp only [this, decide_false]
                    · refine rd_inc (by omega) ?_
                      refine ⟨m13 - 1, by omega, q + 1, by omega, by simp, (hx4_.trans (hx5_.trans hx6_)), ?_⟩
                      rw [insAt_get] at c11
                      exact all_succ hent ⟨by omega, by omega, Decidable.not_not.1 c11⟩
            · refine ⟨(hx1_.trans (hx2_.trans hx4_)), ?_⟩
              rw [en_get] at c3
              have : EntI c := ⟨by omega, by omega, Decidable.not_not.1 c3, by rw [show c.ins.length = k by omega]; omega, fun i hi => hent i (by omega)⟩
              simp only [this, decide_true]
def F239 (a0 a1 : Value) (w : World) (R : Value → World → Prop) : Prop :=
 OP Tryz.prog (Instr.box 35 a0) w fun x2 w =>
 RD Tryz.prog (bin .eql 3 (.tmp 0) (.const undef) a1 (Value.int .i64 1)) w fun x7 =>
 BR x7
 (RD Tryz.prog (Instr.fieldAt 35 x2 0) w fun x8 =>
 RD Tryz.prog (Instr.loadAt 22 x8) w fun x9 =>
 RD Tryz.prog (Builtin.len_ #[22] 3 [x9].toArray) w fun x10 =>
 R x10 w)
 (RD Tryz.prog (bin .eql 3 (.tmp 0) (.const undef) a1 (Value.int .i64 4)) w fun x12 =>
 BR x12
 (RD Tryz.prog (Instr.fieldAt 35 x2 2) w fun x14 =>
 RD Tryz.prog (Instr.loadAt 22 x14) w fun x15 =>
 RD Tryz.prog (Builtin.len_ #[22] 3 [x15].toArray) w fun x16 =>
 R x16 w)
 (RD Tryz.prog (bin .eql 3 (.tmp 0) (.const undef) a1 (Value.int .i64 5)) w fun x13 =>
 BR x13
 (RD Tryz.prog (Instr.fieldAt 35 x2 2) w fun x14 =>
 RD Tryz.prog (Instr.loadAt 22 x14) w fun x15 =>
 RD Tryz.prog (Builtin.len_ #[22] 3 [x15].toArray) w fun x16 =>
 R x16 w)
 (RD Tryz.prog (bin .eql 3 (.tmp 0) (.const undef) a1 (Value.int .i64 6)) w fun x18 =>
 BR x18
 (RD Tryz.prog (Instr.fieldAt 35 x2 1) w fun x20 =>
 RD Tryz.prog (Instr.loadAt 22 x20) w fun x21 =>
 RD Tryz.prog (Builtin.len_ #[22] 3 [x21].toArray) w fun x22 =>
 R x22 w)
 (RD Tryz.prog (bin .eql 3 (.tmp 0) (.const undef) a1 (Value.int .i64 7)) w fun x19 =>
 BR x19
 (RD Tryz.prog (Instr.fieldAt 35 x2 1) w fun x20 =>
 RD Tryz.prog (Instr.loadAt 22 x20) w fun x21 =>
 RD Tryz.prog (Builtin.len_ #[22] 3 [x21].toArray) w fun x22 =>
 R x22 w)
 (R (Value.int .i64 1) w)))))
def cfg239 : Cfg := { ext := extL, joins := [], loops := [], draws := [], pars := [] }
theorem F239_eq (a0 a1 : Value) (w : World) (R : Value → World → Prop) : vcF Tryz.prog cfg239 Tryz.f239 [a0, a1] w R = F239 a0 a1 w R := by kernel_rfl
theorem F239_call {a0 a1 : Value} {w : World} {R : Value → World → Prop} (h : F239 a0 a1 w R) : CALL Tryz.prog 239 [a0, a1] w R :=
  call_of (g := cfg239) ent mixed Tryz.func239 (Nat.le_of_ble_eq_true (by kernel_rfl)) (by kernel_rfl) (F239_eq a0 a1 w R ▸ h)
theorem argMost_ok {w : World} {v0 : Value} {W0 : World} {c : DCode} {op : Int}  (h0 : Is W0 v0 c) (e0 : Ext W0 w)  :
    CALL Tryz.prog 239 [v0, .int .i64 op] w fun r w' => Ext w w' ∧ (r = .int .i64 (argMost c op)) := by
  refine F239_call ?_
  unfold F239
  refine op_boxS ty35 rfl h0 e0 fun w1_ hx1_ hA2 hV2 => ?_
  refine rd_eql ?_
  refine br (fun c1 => ?_) (fun c1 => ?_)
  · refine rd_fld fd35_0 ?_
    refine rd_load ty22 (at_DCode_0 hA2) (Ext.refl w1_) fun v9 h9 => ?_
    have hln10 := is_len h9
    refine rd_len u22 h9 ?_
    refine ⟨hx1_, ?_⟩
    unfold argMost; rw [if_pos c1]
  · refine rd_eql ?_
    refine br (fun c2 => ?_) (fun c2 => ?_)
    · refine rd_fld fd35_2 ?_
      refine rd_load ty22 (at_DCode_2 hA2) (Ext.refl w1_) fun v15 h15 => ?_
      have hln16 := is_len h15
      refine rd_len u22 h15 ?_
      refine ⟨hx1_, ?_⟩
      unfold argMost; rw [if_neg (by omega), if_pos (by omega)]
    · refine rd_eql ?_
      refine br (fun c3 => ?_) (fun c3 => ?_)
      · refine rd_fld fd35_2 ?_
        refine rd_load ty22 (at_DCode_2 hA2) (Ext.refl w1_) fun v15 h15 => ?_
        have hln16 := is_len h15
        refine rd_len u22 h15 ?_
        refine ⟨hx1_, ?_⟩
        unfold argMost; rw [if_neg (by omega), if_pos (by omega)]
      · refine rd_eql ?_
        refine br (fun c4 => ?_) (fun c4 => ?_)
        · refine rd_fld fd35_1 ?_
          refine rd_load ty22 (at_DCode_1 hA2) (Ext.refl w1_) fun v21 h21 => ?_
          have hln22 := is_len h21
          refine rd_len u22 h21 ?_
          refine ⟨hx1_, ?_⟩
          unfold argMost; rw [if_neg (by omega), if_neg (by omega), if_pos (by omega)]
        · refine rd_eql ?_
          refine br (fun c5 => ?_) (fun c5 => ?_)
          · refine rd_fld fd35_1 ?_
            refine rd_load ty22 (at_DCode_1 hA2) (Ext.refl w1_) fun v21 h21 => ?_
            have hln22 := is_len h21
            refine rd_len u22 h21 ?_
            refine ⟨hx1_, ?_⟩
            unfold argMost; rw [if_neg (by omega), if_neg (by omega), if_pos (by omega)]
          · refine ⟨hx1_, ?_⟩
            unfold argMost; rw [if_neg (by omega), if_neg (by omega), if_neg (by omega)]
def F193 (a0 a1 a2 a3 : Value) (w : World) (R : Value → World → Prop) : Prop :=
 OP Tryz.prog (Instr.box 35 a0) w fun x4 w =>
 OP Tryz.prog (Instr.box 136 a1) w fun x5 w =>
 (fun w => RD Tryz.prog (Instr.fieldAt 136 x5 0) w fun x11 =>
 RD Tryz.prog (Instr.loadAt 3 x11) w fun x12 =>
 RD Tryz.prog (bin .lss 3 (.tmp 0) (.const undef) x12 (Value.int .i64 1)) w fun x13 =>
 BR x13
 (R (Value.bool false) w)
 (RD Tryz.prog (Instr.fieldAt 136 x5 0) w fun x15 =>
 RD Tryz.prog (Instr.loadAt 3 x15) w fun x16 =>
 RD Tryz.prog (bin .gtr 3 (.tmp 0) (.const undef) x16 (Value.int .i64 9)) w fun x17 =>
 BR x17
 (R (Value.bool false) w)
 (RD Tryz.prog (Instr.fieldAt 136 x5 1) w fun x20 =>
 RD Tryz.prog (Instr.loadAt 3 x20) w fun x21 =>
 RD Tryz.prog (bin .lss 3 (.tmp 0) (.const undef) x21 (Value.int .i64 0)) w fun x22 =>
 BR x22
 (R (Value.bool false) w)
 (RD Tryz.prog (Instr.fieldAt 136 x5 1) w fun x25 =>
 RD Tryz.prog (Instr.loadAt 3 x25) w fun x26 =>
 RD Tryz.prog (Instr.loadAt 35 x4) w fun x27 =>
 RD Tryz.prog (Instr.fieldAt 136 x5 0) w fun x28 =>
 RD Tryz.prog (Instr.loadAt 3 x28) w fun x29 =>
 (fun w_ => CALL Tryz.prog 239 [x27, x29] w_ fun x30 w =>
 Ext w_ w ∧
 RD Tryz.prog (bin .geq 3 (.tmp 0) (.tmp 0) x26 x30) w fun x31 =>
 BR x31
 (R (Value.bool false) w)
 (JOIN [] (fun J14 =>
 RD Tryz.prog (Instr.fieldAt 136 x5 0) w fun x33 =>
 RD Tryz.prog (Instr.loadAt 3 x33) w fun x34 =>
 RD Tryz.prog (bin .eql 3 (.tmp 0) (.const undef) x34 (Value.int .i64 1)) w fun x35 =>
 BR x35
 (RD Tryz.prog (Instr.fieldAt 136 x5 2) w fun x41 =>
 RD Tryz.prog (Instr.loadAt 134 x41) w fun x42 =>
 CALL Tryz.prog 240 [x42] w fun x43 w =>
 RD Tryz.prog (Op.unary .not x43) w fun x44 =>
 BR x44
 (R (Value.bool false) w)
 (RD Tryz.prog (Instr.fieldAt 136 x5 2) w fun x45 =>
 RD Tryz.prog (Instr.loadAt 134 x45) w fun x46 =>
 CALL Tryz.prog 225 [x46] w fun x47 w =>
 RD Tryz.prog (Builtin.len_ #[22] 3 [x47].toArray) w fun x48 =>
 LOOPI [49] [(Value.int .i64 0)] w fun u7 w next7 =>
 RD Tryz.prog (bin .lss 3 (.tmp 0) (.tmp 0) (u7 49) x48) w fun x50 =>
 BR x50
 (RD Tryz.prog (Instr.indexAt 22 x47 (u7 49)) w fun x51 =>
 RD Tryz.prog (Instr.loadAt 9 x51) w fun x52 =>
 RD Tryz.prog (Instr.fieldAt 35 x4 0) w fun x53 =>
 RD Tryz.prog (Instr.loadAt 22 x53) w fun x54 =>
 CALL Tryz.prog 226 [x54, x52] w fun x56 w =>
 RD Tryz.prog (Op.unary .not x56) w fun x57 =>
 BR x57
 (R (Value.bool false) w)
 (RD Tryz.prog (bin .add 3 (.tmp 0) (.const undef) (u7 49) (Value.int .i64 1)) w fun x58 =>
 next7 [x58] w))
 (J14 [] w)))
 (RD Tryz.prog (Instr.fieldAt 136 x5 0) w fun x37 =>
 RD Tryz.prog (Instr.loadAt 3 x37) w fun x38 =>
 RD Tryz.prog (bin .eql 3 (.tmp 0) (.const undef) x38 (Value.int .i64 2)) w fun x39 =>
 BR x39
 (RD Tryz.prog (Instr.fieldAt 136 x5 2) w fun x41 =>
 RD Tryz.prog (Instr.loadAt 134 x41) w fun x42 =>
 CALL Tryz.prog 240 [x42] w fun x43 w =>
 RD Tryz.prog (Op.unary .not x43) w fun x44 =>
 BR x44
 (R (Value.bool false) w)
 (RD Tryz.prog (Instr.fieldAt 136 x5 2) w fun x45 =>
 RD Tryz.prog (Instr.loadAt 134 x45) w fun x46 =>
 CALL Tryz.prog 225 [x46] w fun x47 w =>
 RD Tryz.prog (Builtin.len_ #[22] 3 [x47].toArray) w fun x48 =>
 LOOPI [49] [(Value.int .i64 0)] w fun u7 w next7 =>
 RD Tryz.prog (bin .lss 3 (.tmp 0) (.tmp 0) (u7 49) x48) w fun x50 =>
 BR x50
 (RD Tryz.prog (Instr.indexAt 22 x47 (u7 49)) w fun x51 =>
 RD Tryz.prog (Instr.loadAt 9 x51) w fun x52 =>
 RD Tryz.prog (Instr.fieldAt 35 x4 0) w fun x53 =>
 RD Tryz.prog (Instr.loadAt 22 x53) w fun x54 =>
 CALL Tryz.prog 226 [x54, x52] w fun x56 w =>
 RD Tryz.prog (Op.unary .not x56) w fun x57 =>
 BR x57
 (R (Value.bool false) w)
 (RD Tryz.prog (bin .add 3 (.tmp 0) (.const undef) (u7 49) (Value.int .i64 1)) w fun x58 =>
 next7 [x58] w))
 (J14 [] w)))
 (RD Tryz.prog (Instr.fieldAt 136 x5 2) w fun x59 =>
 RD Tryz.prog (Instr.loadAt 134 x59) w fun x60 =>
 CALL Tryz.prog 241 [x60] w fun x61 w =>
 RD Tryz.prog (Op.unary .not x61) w fun x62 =>
 BR x62
 (R (Value.bool false) w)
 (J14 [] w)))) (fun u14 w =>
 RD Tryz.prog (Instr.fieldAt 136 x5 0) w fun x63 =>
 RD Tryz.prog (Instr.loadAt 3 x63) w fun x64 =>
 RD Tryz.prog (bin .eql 3 (.tmp 0) (.const undef) x64 (Value.int .i64 2)) w fun x65 =>
 BR x65
 (RD Tryz.prog (Instr.fieldAt 136 x5 3) w fun x71 =>
 RD Tryz.prog (Instr.loadAt 3 x71) w fun x72 =>
 RD Tryz.prog (bin .geq 3 (.tmp 0) (.tmp 0) x72 a2) w fun x74 =>
 BR x74
 (RD Tryz.prog (Instr.fieldAt 136 x5 3) w fun x76 =>
 RD Tryz.prog (Instr.loadAt 3 x76) w fun x77 =>
 RD Tryz.prog (bin .lss 3 (.tmp 0) (.tmp 0) x77 a3) w fun x79 =>
 R x79 w)
 (R (Value.bool false) w))
 (RD Tryz.prog (Instr.fieldAt 136 x5 0) w fun x67 =>
 RD Tryz.prog (Instr.loadAt 3 x67) w fun x68 =>
 RD Tryz.prog (bin .eql 3 (.tmp 0) (.const undef) x68 (Value.int .i64 3)) w fun x69 =>
 BR x69
 (RD Tryz.prog (Instr.fieldAt 136 x5 3) w fun x71 =>
 RD Tryz.prog (Instr.loadAt 3 x71) w fun x72 =>
 RD Tryz.prog (bin .geq 3 (.tmp 0) (.tmp 0) x72 a2) w fun x74 =>
 BR x74
 (RD Tryz.prog (Instr.fieldAt 136 x5 3) w fun x76 =>
 RD Tryz.prog (Instr.loadAt 3 x76) w fun x77 =>
 RD Tryz.prog (bin .lss 3 (.tmp 0) (.tmp 0) x77 a3) w fun x79 =>
 R x79 w)
 (R (Value.bool false) w))
 (RD Tryz.prog (Instr.fieldAt 136 x5 3) w fun x81 =>
 RD Tryz.prog (Instr.loadAt 3 x81) w fun x82 =>
 RD Tryz.prog (bin .eql 3 (.tmp 0) (.const undef) x82 (Value.int .i64 0)) w fun x83 =>
 R x83 w))))) w)))) (World.drew1 w)
def cfg193 : Cfg := { ext := extL, joins := [(14, 9223372028264842496, [])], loops := [(7, 575897802350003456, [49])], draws := [(1, [0, 1, 2, 3, 4, 5, 6, 7, 8, 9, 10, 11, 12, 13, 14, 15, 16, 17, 18, 19, 20, 21], 524288)], pars := [] }
theorem F193_eq (a0 a1 a2 a3 : Value) (w : World) (R : Value → World → Prop) : vcF Tryz.prog cfg193 Tryz.f193 [a0, a1, a2, a3] w R = F193 a0 a1 a2 a3 w R := by kernel_rfl
theorem F193_call {a0 a1 a2 a3 : Value} {w : World} {R : Value → World → Prop} (h : F193 a0 a1 a2 a3 w R) : CALL Tryz.prog 193 [a0, a1, a2, a3] w R :=
  call_of (g := cfg193) ent mixed Tryz.func193 (Nat.le_of_ble_eq_true (by kernel_rfl)) (by kernel_rfl) (F193_eq a0 a1 a2 a3 w R ▸ h)
theorem insRight_ok {w : World} {v0 : Value} {W0 : World} {c : DCode} {v1 : Value} {W1 : World} {a : DIns} {b : Int} {e : Int}  (h0 : Is W0 v0 c) (e0 : Ext W0 w) (h1 : Is W1 v1 a) (e1 : Ext W1 w)  :
    CALL Tryz.prog 193 [v0, v1, .int .i64 b, .int .i64 e] w fun r w' => Ext w w' ∧ (r = .bool (decide (InsR c a b e))) := by
  refine F193_call ?_
  unfold F193
  refine op_boxS ty35 rfl h0 e0 fun w1_ hx1_ hA4 hV4 => ?_
  refine op_boxS ty136 rfl h1 (e1.trans hx1_) fun w2_ hx2_ hA5 hV5 => ?_
  have hx3_ := ext_drew w2_
  refine rd_fld fd136_0 ?_
  refine rd_loadI ty3 (at_DIns_0 hA5) hx3_ fun hI12 => ?_
  refine rd_lss ?_
  refine br (fun c1 => ?_) (fun c1 => ?_)
  · refine ⟨(hx1_.trans (hx2_.trans hx3_)), ?_⟩
    have : ¬ InsR c a b e := fun h => by have := h.1; omega
    simp only [this, decide_false]
  · refine rd_fld fd136_0 ?_
    refine rd_loadI ty3 (at_DIns_0 hA5) hx3_ fun hI16 => ?_
    refine rd_gtr ?_
    refine br (fun c2 => ?_) (fun c2 => ?_)
    · refine ⟨(hx1_.trans (hx2_.trans hx3_)), ?_⟩
      have : ¬ InsR c a b e := fun h => by have := h.1; omega
      simp only [this, decide_false]
    · refine rd_fld fd136_1 ?_
      refine rd_loadI ty3 (at_DIns_1 hA5) hx3_ fun hI21 => ?_
      refine rd_lss ?_
      refine br (fun c3 => ?_) (fun c3 => ?_)
      · refine ⟨(hx1_.trans (hx2_.trans hx3_)), ?_⟩
        have : ¬ InsR c a b e := fun h => by have := h.2.1; omega
        simp only [this, decide_false]
      · refine rd_fld fd136_1 ?_
        refine rd_loadI ty3 (at_DIns_1 hA5) hx3_ fun hI26 => ?_
        refine rd_var hV4 (hx2_.trans hx3_) ?_
        refine rd_fld fd136_0 ?_
        refine rd_loadI ty3 (at_DIns_0 hA5) hx3_ fun hI29 => ?_
        refine (argMost_ok h0 (e0.trans (hx1_.trans (hx2_.trans hx3_)))).mono ?_
        rintro _ w4_ ⟨hx4_, rfl⟩
        refine ⟨hx4_, ?_⟩
        refine rd_geq ?_
        refine br (fun c4 => ?_) (fun c4 => ?_)
        · refine ⟨(hx1_.trans (hx2_.trans (hx3_.trans hx4_))), ?_⟩
          have : ¬ InsR c a b e := fun h => by have := h.2.1; omega
          simp only [this, decide_false]
        · refine JOIN.mk (fun us w' => us = [] ∧ Ext w4_ w' ∧ (if a.op = 1 ∨ a.op = 2 then termOk 6 a.term = true ∧ (∀ s ∈ readsOf a.term, s ∈ c.globals) else a.term = term0)) ?_ ?_
          · refine rd_fld fd136_0 ?_
            refine rd_loadI ty3 (at_DIns_0 hA5) (hx3_.trans hx4_) fun hI34 => ?_
            refine rd_eql ?_
            refine br (fun c5 => ?_) (fun c5 => ?_)
            · refine rd_fld fd136_2 ?_
              refine rd_load ty134 (at_DIns_2 hA5) (hx3_.trans hx4_) fun v42 h42 => ?_
              refine (implTermOk_ok h42 (hx3_.trans hx4_)).mono ?_
              rintro _ w6_ ⟨hx6_, rfl⟩
              refine rd_not ?_
              refine br_b (fun c6 => ?_) (fun c6 => ?_)
              · refine ⟨(hx1_.trans (hx2_.trans (hx3_.trans (hx4_.trans hx6_)))), ?_⟩
                have : ¬ InsR c a b e := fun h => by have := h.2.2.1; rw [if_pos (.inl c5)] at this; rw [this.1] at c6; cases c6
                simp only [this, decide_false]
              · refine rd_fld fd136_2 ?_
                refine rd_load ty134 (at_DIns_2 hA5) (hx3_.trans (hx4_.trans hx6_)) fun v46 h46 => ?_
                refine (implReadsOf_ok h46 (hx3_.trans (hx4_.trans hx6_))).mono ?_
                rintro r47 w7_ ⟨hx7_, h47⟩
                have hln48 := is_len h47
                refine rd_len u22 h47 ?_
                refine loopC ((readsOf a.term).length) (fun k us w' => us = [.int .i64 (k : Int)] ∧ Ext w7_ w' ∧ (∀ s ∈ (readsOf a.term).take k, s ∈ c.globals)) (0) (by omega) ⟨by simp, Ext.refl w7_, by simp⟩ ?_
                rintro k m7 uu7 w8_ hk7 ⟨hu, hx8_, hinv⟩
                simp only [List.map_cons, List.map_nil, List.cons.injEq, and_true] at hu
                try rw [hu]
                try clear hu
                refine rd_lss ?_
                refine br (fun c7 => ?_) (fun c7 => ?_)
                · refine rd_indexN u22 ty9 h47 (by omega) fun b51 o51 h51 => ?_
                  refine rd_loadS ty9 h51 hx8_ fun hS52 => ?_
                  refine rd_fld fd35_0 ?_
                  refine rd_load ty22 (at_DCode_0 hA4) (hx2_.trans (hx3_.trans (hx4_.trans (hx6_.trans (hx7_.trans hx8_))))) fun v54 h54 => ?_
                  refine (containsStr_ok h54 (hx2_.trans (hx3_.trans (hx4_.trans (hx6_.trans (hx7_.trans hx8_)))))).mono ?_
                  rintro _ w9_ ⟨hx9_, rfl⟩
                  refine rd_nodec ?_
                  refine br (fun c8 => ?_) (fun c8 => ?_)
                  · refine ⟨(hx1_.trans (hx2_.trans (hx3_.trans (hx4_.trans (hx6_.trans (hx7_.trans (hx8_.trans hx9_))))))), ?_⟩
                    have : ¬ InsR c a b e := fun h => by
                      have := h.2.2.1; rw [if_pos (.inl c5)] at this
                      exact c8 (this.2 _ (List.getElem_mem (n := k) (by omega)))
                    simp only [this, decide_false]
                  · refine rd_inc (by omega) ?_
                    refine ⟨m7 - 1, by omega, k + 1, by omega, by simp, (hx8_.trans hx9_), ?_⟩
                    intro s hs
                    rw [List.take_succ_eq_append_getElem (by omega)] at hs
                    rcases List.mem_append.1 hs with hs | hs
                    · exact hinv s hs
                    · simp only [List.mem_cons, List.not_mem_nil, or_false] at hs
                      subst hs
                      exact Decidable.not_not.1 c8
                · refine ⟨by simp, (hx6_.trans (hx7_.trans hx8_)), ?_⟩
                  rw [if_pos (.inl c5)]
                  rw [List.take_of_length_le (by omega)] at hinv
                  exact ⟨by simpa using c6, hinv⟩
            · refine rd_fld fd136_0 ?_
              refine rd_loadI ty3 (at_DIns_0 hA5) (hx3_.trans hx4_) fun hI38 => ?_
              refine rd_eql ?_
              refine br (fun c9 => ?_) (fun c9 => ?_)
              · refine rd_fld fd136_2 ?_
                refine rd_load ty134 (at_DIns_2 hA5) (hx3_.trans hx4_) fun v42 h42 => ?_
                refine (implTermOk_ok h42 (hx3_.trans hx4_)).mono ?_
                rintro _ w10_ ⟨hx10_, rfl⟩
                refine rd_not ?_
                refine br_b (fun c10 => ?_) (fun c10 => ?_)
                · refine ⟨(hx1_.trans (hx2_.trans (hx3_.trans (hx4_.trans hx10_)))), ?_⟩
                  have : ¬ InsR c a b e := fun h => by have := h.2.2.1; rw [if_pos (.inr c9)] at this; rw [this.1] at c10; cases c10
                  simp only [this, decide_false]
                · refine rd_fld fd136_2 ?_
                  refine rd_load ty134 (at_DIns_2 hA5) (hx3_.trans (hx4_.trans hx10_)) fun v46 h46 => ?_
                  refine (implReadsOf_ok h46 (hx3_.trans (hx4_.trans hx10_))).mono ?_
                  rintro r47 w11_ ⟨hx11_, h47⟩
                  have hln48 := is_len h47
                  refine rd_len u22 h47 ?_
                  refine loopC ((readsOf a.term).length) (fun k us w' => us = [.int .i64 (k : Int)] ∧ Ext w11_ w' ∧ (∀ s ∈ (readsOf a.term).take k, s ∈ c.globals)) (0) (by omega) ⟨by simp, Ext.refl w11_, by simp⟩ ?_
                  rintro k m7 uu7 w12_ hk7 ⟨hu, hx12_, hinv⟩
                  simp only [List.map_cons, List.map_nil, List.cons.injEq, and_true] at hu
                  try rw [hu]
                  try clear hu
                  refine rd_lss ?_
                  refine br (fun c11 => ?_) (fun c11 => ?_)
                  · refine rd_indexN u22 ty9 h47 (by omega) fun b51 o51 h51 => ?_
                    refine rd_loadS ty9 h51 hx12_ fun hS52 => ?_
                    refine rd_fld fd35_0 ?_
                    refine rd_load ty22 (at_DCode_0 hA4) (hx2_.trans (hx3_.trans (hx4_.trans (hx10_.trans (hx11_.trans hx12_))))) fun v54 h54 => ?_
                    refine (containsStr_ok h54 (hx2_.trans (hx3_.trans (hx4_.trans (hx10_.trans (hx11_.trans hx12_)))))).mono ?_
                    rintro _ w13_ ⟨hx13_, rfl⟩
                    refine rd_nodec ?_
                    refine br (fun c12 => ?_) (fun c12 => ?_)
                    · refine ⟨(hx1_.trans (hx2_.trans (hx3_.trans (hx4_.trans (hx10_.trans (hx11_.trans (hx12_.trans hx13_))))))), ?_⟩
                      have : ¬ InsR c a b e := fun h => by
                        have := h.2.2.1; rw [if_pos (.inr c9)] at this
                        exact c12 (this.2 _ (List.getElem_mem (n := k) (by omega)))
                      simp only [this, decide_false]
                    · refine rd_inc (by omega) ?_
                      refine ⟨m7 - 1, by omega, k + 1, by omega, by simp, (hx12_.trans hx13_), ?_⟩
                      intro s hs
                      rw [List.take_succ_eq_append_getElem (by omega)] at hs
                      rcases List.mem_append.1 hs with hs | hs
                      · exact hinv s hs
                      · simp only [List.mem_cons, List.not_mem_nil, or_false] at hs
                        subst hs
                        exact Decidable.not_not.1 c12
                  · refine ⟨by simp, (hx10_.trans (hx11_.trans hx12_)), ?_⟩
                    rw [if_pos (.inr c9)]
                    rw [List.take_of_length_le (by omega)] at hinv
                    exact ⟨by simpa using c10, hinv⟩
              · refine rd_fld fd136_2 ?_
                refine rd_load ty134 (at_DIns_2 hA5) (hx3_.trans hx4_) fun v60 h60 => ?_
                refine (isZeroTerm_ok h60 (hx3_.trans hx4_)).mono ?_
                rintro _ w14_ ⟨hx14_, rfl⟩
                refine rd_nodec ?_
                refine br (fun c13 => ?_) (fun c13 => ?_)
                · refine ⟨(hx1_.trans (hx2_.trans (hx3_.trans (hx4_.trans hx14_)))), ?_⟩
                  have : ¬ InsR c a b e := fun h => by have := h.2.2.1; rw [if_neg (by omega)] at this; exact c13 this
                  simp only [this, decide_false]
                · refine ⟨by simp, hx14_, ?_⟩
                  rw [if_neg (by omega)]
                  exact Decidable.not_not.1 c13
          · rintro uj14 w5_ ⟨hu, hx14_, hT⟩
            simp only [List.map_cons, List.map_nil, List.cons.injEq, and_true] at hu
            clear hu
            refine rd_fld fd136_0 ?_
            refine rd_loadI ty3 (at_DIns_0 hA5) (hx3_.trans (hx4_.trans hx14_)) fun hI64 => ?_
            refine rd_eql ?_
            refine br (fun c14 => ?_) (fun c14 => ?_)
            · refine rd_fld fd136_3 ?_
              refine rd_loadI ty3 (at_DIns_3 hA5) (hx3_.trans (hx4_.trans hx14_)) fun hI72 => ?_
              refine rd_geq ?_
              refine br (fun c15 => ?_) (fun c15 => ?_)
              · refine rd_fld fd136_3 ?_
                refine rd_loadI ty3 (at_DIns_3 hA5) (hx3_.trans (hx4_.trans hx14_)) fun hI77 => ?_
                refine rd_lss ?_
                refine ⟨(hx1_.trans (hx2_.trans (hx3_.trans (hx4_.trans hx14_)))), ?_⟩
                first
                  | (have no : ¬ InsR c a b e := fun h => by
                      have h4 := h.2.2.2; rw [if_pos (by omega)] at h4; omega
                     simp only [no, decide_false]
                     done)
                  | (congr 1
                     rw [decide_eq_decide]
                     constructor
                     · exact fun h => ⟨by omega, by omega, hT, by first | (rw [if_pos (by omega)]; omega) | (rw [if_neg (by omega)]; omega)⟩
                     · intro h
                       have h4 := h.2.2.2
                       first | (rw [if_pos (by omega)] at h4; omega) | (rw [if_neg (by omega)] at h4; omega))
              · refine ⟨(hx1_.trans (hx2_.trans (hx3_.trans (hx4_.trans hx14_)))), ?_⟩
                first
                  | (have no : ¬ InsR c a b e := fun h => by
                      have h4 := h.2.2.2; rw [if_pos (by omega)] at h4; omega
                     simp only [no, decide_false]
                     done)
                  | (congr 1
                     rw [decide_eq_decide]
                     constructor
                     · exact fun h => ⟨by omega, by omega, hT, by first | (rw [if_pos (by omega)]; omega) | (rw [if_neg (by omega)]; omega)⟩
                     · intro h
                       have h4 := h.2.2.2
                       first | (rw [if_pos (by omega)] at h4; omega) | (rw [if_neg (by omega)] at h4; omega))
            · refine rd_fld fd136_0 ?_
              refine rd_loadI ty3 (at_DIns_0 hA5) (hx3_.trans (hx4_.trans hx14_)) fun hI68 => ?_
              refine rd_eql ?_
              refine br (fun c16 => ?_) (fun c16 => ?_)
              · refine rd_fld fd136_3 ?_
                refine rd_loadI ty3 (at_DIns_3 hA5) (hx3_.trans (hx4_.trans hx14_)) fun hI72 => ?_
                refine rd_geq ?_
                refine br (fun c17 => ?_) (fun c17 => ?_)
                · refine rd_fld fd136_3 ?_
                  refine rd_loadI ty3 (at_DIns_3 hA5) (hx3_.trans (hx4_.trans hx14_)) fun hI77 => ?_
                  refine rd_lss ?_
                  refine ⟨(hx1_.trans (hx2_.trans (hx3_.trans (hx4_.trans hx14_)))), ?_⟩
                  first
                    | (have no : ¬ InsR c a b e := fun h => by
                        have h4 := h.2.2.2; rw [if_pos (by omega)] at h4; omega
                       simp only [no, decide_false]
                       done)
                    | (congr 1
                       rw [decide_eq_decide]
                       constructor
                       · exact fun h => ⟨by omega, by omega, hT, by first | (rw [if_pos (by omega)]; omega) | (rw [if_neg (by omega)]; omega)⟩
                       · intro h
                         have h4 := h.2.2.2
                         first | (rw [if_pos (by omega)] at h4; omega) | (rw [if_neg (by omega)] at h4; omega))
                · refine ⟨(hx1_.trans (hx2_.trans (hx3_.trans (hx4_.trans hx14_)))), ?_⟩
                  first
                    | (have no : ¬ InsR c a b e := fun h => by
                        have h4 := h.2.2.2; rw [if_pos (by omega)] at h4; omega
                       simp only [no, decide_false]
                       done)
                    | (congr 1
                       rw [decide_eq_decide]
                       constructor
                       · exact fun h => ⟨by omega, by omega, hT, by first | (rw [if_pos (by omega)]; omega) | (rw [if_neg (by omega)]; omega)⟩
                       · intro h
                         have h4 := h.2.2.2
                         first | (rw [if_pos (by omega)] at h4; omega) | (rw [if_neg (by omega)] at h4; omega))
              · refine rd_fld fd136_3 ?_
                refine rd_loadI ty3 (at_DIns_3 hA5) (hx3_.trans (hx4_.trans hx14_)) fun hI82 => ?_
                refine rd_eql ?_
                refine ⟨(hx1_.trans (hx2_.trans (hx3_.trans (hx4_.trans hx14_)))), ?_⟩
                first
                  | (have no : ¬ InsR c a b e := fun h => by
                      have h4 := h.2.2.2; rw [if_pos (by omega)] at h4; omega
                     simp only [no, decide_false]
                     done)
                  | (congr 1
                     rw [decide_eq_decide]
                     constructor
                     · exact fun h => ⟨by omega, by omega, hT, by first | (rw [if_pos (by omega)]; omega) | (rw [if_neg (by omega)]; omega)⟩
                     · intro h
                       have h4 := h.2.2.2
                       first | (rw [if_pos (by omega)] at h4; omega) | (rw [if_neg (by omega)] at h4; omega))
end Go.Proofs.YtjgfldfbljmhhaaGreat
namespace Go.Proofs.YtjgfldfbljmhhaaGreat
open Go Go.Sh Go.Proofs
set_option linter.unusedVariables false
set_option linter.unusedSimpArgs false
def F133 (a0 a1 : Value) (w : World) (R : Value → World → Prop) : Prop :=
 OP Tryz.prog (Instr.box 35 a0) w fun x2 w =>
 RD Tryz.prog (bin .add 3 (.tmp 0) (.const undef) a1 (Value.int .i64 1)) w fun x6 =>
 RD Tryz.prog (Instr.fieldAt 35 x2 3) w fun x7 =>
 RD Tryz.prog (Instr.loadAt 23 x7) w fun x8 =>
 RD Tryz.prog (Builtin.len_ #[23] 3 [x8].toArray) w fun x9 =>
 RD Tryz.prog (bin .lss 3 (.tmp 0) (.tmp 0) x6 x9) w fun x10 =>
 BR x10
 (RD Tryz.prog (Instr.fieldAt 35 x2 3) w fun x11 =>
 RD Tryz.prog (Instr.loadAt 23 x11) w fun x12 =>
 RD Tryz.prog (bin .add 3 (.tmp 0) (.const undef) a1 (Value.int .i64 1)) w fun x14 =>
 RD Tryz.prog (Instr.indexAt 23 x12 x14) w fun x15 =>
 RD Tryz.prog (Instr.loadAt 3 x15) w fun x16 =>
 R x16 w)
 (RD Tryz.prog (Instr.fieldAt 35 x2 4) w fun x17 =>
 RD Tryz.prog (Instr.loadAt 33 x17) w fun x18 =>
 RD Tryz.prog (Builtin.len_ #[33] 3 [x18].toArray) w fun x19 =>
 R x19 w)
def cfg133 : Cfg := { ext := extL, joins := [], loops := [], draws := [], pars := [] }
theorem F133_eq (a0 a1 : Value) (w : World) (R : Value → World → Prop) : vcF Tryz.prog cfg133 Tryz.f133 [a0, a1] w R = F133 a0 a1 w R := by kernel_rfl
theorem F133_call {a0 a1 : Value} {w : World} {R : Value → World → Prop} (h : F133 a0 a1 w R) : CALL Tryz.prog 133 [a0, a1] w R :=
  call_of (g := cfg133) ent mixed Tryz.func133 (Nat.le_of_ble_eq_true (by kernel_rfl)) (by kernel_rfl) (F133_eq a0 a1 w R ▸ h)
theorem endOfProc_ok {w : World} {v0 : Value} {W0 : World} {c : DCode} {i : Nat}  (h0 : Is W0 v0 c) (e0 : Ext W0 w) (hi : i < 1000000000000) :
    CALL Tryz.prog 133 [v0, .int .i64 (i : Int)] w fun r w' => Ext w w' ∧ (r = .int .i64 (endB c i)) := by
  refine F133_call ?_
  unfold F133
  refine op_boxS ty35 rfl h0 e0 fun w1_ hx1_ hA2 hV2 => ?_
  refine rd_inc (by omega) ?_
  refine rd_fld fd35_3 ?_
  refine rd_load ty23 (at_DCode_3 hA2) (Ext.refl w1_) fun v8 h8 => ?_
  have hln9 := is_len h8
  refine rd_len u23 h8 ?_
  refine rd_lss ?_
  refine br (fun c1 => ?_) (fun c1 => ?_)
  · refine rd_fld fd35_3 ?_
    refine rd_load ty23 (at_DCode_3 hA2) (Ext.refl w1_) fun v12 h12 => ?_
    refine rd_inc (by omega) ?_
    refine rd_indexN u23 ty3 h12 (by omega) fun b15 o15 h15 => ?_
    refine rd_loadI ty3 h15 (Ext.refl w1_) fun hI16 => ?_
    refine ⟨hx1_, ?_⟩
    unfold endB; rw [if_pos (by omega), en_get]
  · refine rd_fld fd35_4 ?_
    refine rd_load ty33 (at_DCode_4 hA2) (Ext.refl w1_) fun v18 h18 => ?_
    have hln19 := is_len h18
    refine rd_len u33 h18 ?_
    refine ⟨hx1_, ?_⟩
    unfold endB; rw [if_neg (by omega)]
structure EntF (c : DCode) : Prop where
  len : c.entry.length = c.procs.length
  ins : c.ins.length ≤ 1500
  zero : en c 0 = 0
  lt : ∀ i, i < c.entry.length → en c i < endB c i ∧ endB c i ≤ c.ins.length
theorem EntF.nonneg {c : DCode} (h : EntF c) {i : Nat} (hi : i < c.entry.length) : 0 ≤ en c i := entI_nonneg h.zero hi fun j hj => (h.lt j (by omega)).1
theorem EntF.step {c : DCode} (h : EntF c) {i : Nat} (hi : i + 1 < c.entry.length) : endB c i = en c (i + 1) := by unfold endB; rw [if_pos hi]
theorem EntF.last {c : DCode} (h : EntF c) {i : Nat} (hi : i + 1 = c.entry.length) : endB c i = c.ins.length := by unfold endB; rw [if_neg (by omega)]
theorem EntF.mono {c : DCode} (h : EntF c) : ∀ {i j : Nat}, i < j → j < c.entry.length → endB c i ≤ en c j
  | i, j + 1, hij, hj => by
    by_cases e : i = j
    · subst e; rw [h.step hj]; exact Int.le_refl _
    · have h1 := h.mono (i := i) (j := j) (by omega) (by omega)
      have h2 := (h.lt j (by omega)).1
      rw [h.step hj] at h2
      omega
theorem EntF.proc {c : DCode} (h : EntF c) {i : Nat} {a : Int} (hi : i < c.entry.length) (h1 : en c i ≤ a) (h2 : a < endB c i) : procOf c a = i := by
  unfold procOf
  rw [prc_skip (m := i + 1) (by omega) fun j hj1 hj2 => by have := h.mono (i := i) (j := j) (by omega) hj2; omega]
  rw [prc, if_pos h1]
theorem EntF.find {c : DCode} (h : EntF c) (hp : 0 < c.procs.length) {a : Int} (h0 : 0 ≤ a) (h1 : a < c.ins.length) : ∃ i, i < c.entry.length ∧ en c i ≤ a ∧ a < endB c i ∧ procOf c a = i := by
  have hlen := h.len
  have h2 : 0 ≤ procOf c a := prc_nonneg (by rw [h.zero]; exact h0) (by omega)
  have h3 := (procOf_lt (c := c) (a := a)).2
  have key : ∀ n, n ≤ c.entry.length → (∀ j, n ≤ j → j < c.entry.length → a < en c j) → 0 < n → ∃ i, i < n ∧ en c i ≤ a ∧ a < endB c i := by
    intro n
    induction n with
    | zero => intro _ _ h; omega
    | succ n ih =>
      intro hn hj _
      by_cases hle : en c n ≤ a
      · refine ⟨n, by omega, hle, ?_⟩
        by_cases hl : n + 1 < c.entry.length
        · rw [h.step hl]; exact hj (n + 1) (by omega) hl
        · rw [h.last (by omega)]; exact h1
      · by_cases h0n : n = 0
        · subst h0n; rw [h.zero] at hle; omega
        · obtain ⟨i, hi, hx⟩ := ih (by omega) (fun j hj1 hj2 => by
            by_cases e : j = n
            · subst e; omega
            · exact hj j (by omega) hj2) (by omega)
          exact ⟨i, by omega, hx⟩
  obtain ⟨i, hi, hx, hy⟩ := key c.entry.length (Nat.le_refl _) (fun j hj1 hj2 => by omega) (by omega)
  exact ⟨i, hi, hx, hy, h.proc hi hx hy⟩
theorem EntS.f {c : DCode} (h : EntS c) (hp : 0 < c.procs.length) : EntF c := by
  obtain ⟨h1, h2, h3, h4⟩ := h
  refine ⟨h1, h2, (h3 0 (by omega)).1 rfl, fun i hi => ?_⟩
  unfold endB
  split
  · rename_i hl
    have := h3 (i + 1) hl
    have h5 := this.2.1 (by omega)
    simp only [Nat.add_sub_cancel] at h5
    exact ⟨h5, by omega⟩
  · exact ⟨(h3 i hi).2.2, Int.le_refl _⟩
theorem EntI.f {c : DCode} (h : EntI c) : EntF c := ⟨h.2.1, h.1, h.2.2.1, fun i hi => ⟨(h.2.2.2.2 i hi).1, (h.2.2.2.2 i hi).2.1⟩⟩
theorem ends_eq (c : DCode) (a : Nat) : ∀ (d : Nat), ends c a ≤ ends c (a + d) ∧ (ends c (a + d) = ends c a ↔ ∀ j, a ≤ j → j < a + d → ¬ (insAt c j).op = 9)
  | 0 => ⟨Nat.le_refl _, ⟨fun _ j h1 h2 => by omega, fun _ => rfl⟩⟩
  | d + 1 => by
    obtain ⟨h1, h2⟩ := ends_eq c a d
    rw [← Nat.add_assoc, ends]
    refine ⟨by omega, ?_⟩
    split
    · rename_i h9
      exact ⟨fun h => by omega, fun h => absurd h9 (h (a + d) (by omega) (by omega))⟩
    · rename_i h9
      rw [Nat.add_zero, h2]
      constructor
      · intro h j hj1 hj2
        by_cases e : j = a + d
        · subst e; exact h9
        · exact h j hj1 (by omega)
      · exact fun h j hj1 hj2 => h j hj1 (by omega)
def eb (c : DCode) (n : Nat) : Nat := if n = 0 then 0 else (endB c (n - 1)).toNat
theorem EntF.eb_en {c : DCode} (h : EntF c) {n : Nat} (hn : n < c.entry.length) : (eb c n : Int) = en c n := by
  unfold eb
  split
  · rename_i h0; subst h0; rw [h.zero]; rfl
  · have h1 := h.nonneg hn
    have h2 : endB c (n - 1) = en c n := by
      have := h.step (i := n - 1) (by omega)
      rwa [show n - 1 + 1 = n by omega] at this
    rw [h2]; omega
theorem EntF.eb_succ {c : DCode} (h : EntF c) {n : Nat} (hn : n < c.entry.length) : (eb c (n + 1) : Int) = endB c n := by
  unfold eb
  rw [if_neg (by omega), Nat.add_sub_cancel]
  have := (h.lt n hn).1
  have := h.nonneg hn
  omega
theorem ends_count {c : DCode} (h : EntF c) (he : ∀ i, i < c.entry.length → (insAt c (endB c i - 1).toNat).op = 9) : ∀ n, n ≤ c.entry.length →
    n ≤ ends c (eb c n) ∧ (ends c (eb c n) = n ↔ ∀ j : Nat, j < eb c n → (insAt c j).op = 9 → ∃ i, i < n ∧ endB c i = j + 1)
  | 0, _ => ⟨Nat.zero_le _, ⟨fun _ j hj => by simp [eb] at hj, fun _ => rfl⟩⟩
  | n + 1, hn => by
    obtain ⟨h1, h2⟩ := ends_count h he n (by omega)
    have ha := h.eb_en (n := n) (by omega)
    have hb := h.eb_succ (n := n) (by omega)
    have hlt := (h.lt n (by omega)).1
    have h9 := he n (by omega)
    have e9 : (endB c n - 1).toNat = eb c (n + 1) - 1 := by omega
    rw [e9] at h9
    obtain ⟨d, hd⟩ : ∃ d, eb c (n + 1) = eb c n + d + 1 := ⟨eb c (n + 1) - eb c n - 1, by omega⟩
    have hd' : eb c (n + 1) - 1 = eb c n + d := by omega
    rw [hd'] at h9
    obtain ⟨h3, h4⟩ := ends_eq c (eb c n) d
    rw [hd, ends, if_pos h9]
    refine ⟨by omega, ?_⟩
    have hsplit : ends c (eb c n + d) + 1 = n + 1 ↔ (ends c (eb c n) = n ∧ ends c (eb c n + d) = ends c (eb c n)) := by omega
    rw [hsplit, h2, h4]
    constructor
    · rintro ⟨p1, p2⟩ j hj hj9
      by_cases hja : j < eb c n
      · obtain ⟨i, hi, hx⟩ := p1 j hja hj9
        exact ⟨i, by omega, hx⟩
      · by_cases hje : j = eb c n + d
        · exact ⟨n, by omega, by omega⟩
        · exact absurd hj9 (p2 j (by omega) (by omega))
    · intro p
      constructor
      · intro j hj hj9
        obtain ⟨i, hi, hx⟩ := p j (by omega) hj9
        by_cases hin : i = n
        · subst hin; omega
        · exact ⟨i, by omega, hx⟩
      · intro j hj1 hj2 hj9
        obtain ⟨i, hi, hx⟩ := p j (by omega) hj9
        by_cases hin : i = n
        · subst hin; omega
        · have := h.mono (i := i) (j := n) (by omega) (by omega)
          omega
theorem ent_iff {c : DCode} (hp : 0 < c.procs.length) : EntI c ↔ EntS c := by
  constructor
  · intro h
    have hf := h.f
    obtain ⟨_, _, _, hc, hall⟩ := h
    have hlen := hf.len
    have he : ∀ i, i < c.entry.length → (insAt c (endB c i - 1).toNat).op = 9 := fun i hi => (hall i hi).2.2
    obtain ⟨_, h2⟩ := ends_count hf he c.entry.length (Nat.le_refl _)
    have hb : eb c c.entry.length = c.ins.length := by
      have := hf.eb_succ (n := c.entry.length - 1) (by omega)
      rw [hf.last (by omega), show c.entry.length - 1 + 1 = c.entry.length by omega] at this
      omega
    rw [hb] at h2
    have h3 := h2.1 hc
    refine ⟨hf.len, hf.ins, fun i hi => ⟨fun _ => hf.zero, fun h0 => ?_, ?_⟩, fun j hj => ?_⟩
    · have h4 := (hf.lt (i - 1) (by omega)).1
      have h5 := hf.step (i := i - 1) (by omega)
      rw [show i - 1 + 1 = i by omega] at h5
      omega
    · have := hf.lt i hi; omega
    · obtain ⟨i, hi, hx, hy, hpr⟩ := hf.find hp (a := j) (by omega) (by omega)
      rw [hpr, endOf_eq]
      constructor
      · intro h9
        obtain ⟨i', hi', hx'⟩ := h3 j hj h9
        have := hf.lt i' hi'
        have hpr' := hf.proc (a := j) hi' (by omega) (by omega)
        have : i' = i := by omega
        subst this
        omega
      · intro h9
        have := he i hi
        rwa [show (endB c i - 1).toNat = j by omega] at this
  · intro h
    have hf := h.f hp
    have hlen := hf.len
    have h4 := h.2.2.2
    have he : ∀ i, i < c.entry.length → (insAt c (endB c i - 1).toNat).op = 9 := fun i hi => by
      have h1 := hf.lt i hi
      have h0 := hf.nonneg hi
      have := (h4 (endB c i - 1).toNat (by omega)).2
      refine this ?_
      rw [hf.proc (i := i) hi (by omega) (by omega), endOf_eq]
      omega
    obtain ⟨_, h2⟩ := ends_count hf he c.entry.length (Nat.le_refl _)
    have hb : eb c c.entry.length = c.ins.length := by
      have := hf.eb_succ (n := c.entry.length - 1) (by omega)
      rw [hf.last (by omega), show c.entry.length - 1 + 1 = c.entry.length by omega] at this
      omega
    rw [hb] at h2
    refine ⟨hf.ins, hf.len, hf.zero, h2.2 fun j hj h9 => ?_, fun i hi => ⟨(hf.lt i hi).1, (hf.lt i hi).2, he i hi⟩⟩
    obtain ⟨i, hi, hx, hy, hpr⟩ := hf.find hp (a := j) (by omega) (by omega)
    have := (h4 j hj).1 h9
    rw [hpr, endOf_eq] at this
    exact ⟨i, hi, by omega⟩
theorem codeR_iff {c : DCode} (hn : NamesR c) (he : EntI c) : CodeR c ↔ ∀ i, i < c.entry.length → ∀ j : Nat, en c i ≤ j → (j : Int) < endB c i → InsR c (insAt c j) (en c i) (endB c i) := by
  have hf := he.f
  have hp := hn.procs8.2
  constructor
  · intro h i hi j h1 h2
    have h3 := hf.lt i hi
    have := h.2.2 j (by omega)
    rw [hf.proc hi h1 h2, endOf_eq, Int.toNat_natCast] at this
    rwa [Int.sub_add_cancel] at this
  · intro h
    refine ⟨hn, (ent_iff hp).1 he, fun j hj => ?_⟩
    obtain ⟨i, hi, hx, hy, hpr⟩ := hf.find hp (a := j) (by omega) (by omega)
    rw [hpr, endOf_eq, Int.toNat_natCast, Int.sub_add_cancel]
    exact h i hi j hx hy
def F125 (a0 : Value) (w : World) (R : Value → World → Prop) : Prop :=
 OP Tryz.prog (Instr.box 35 a0) w fun x1 w =>
 RD Tryz.prog (Instr.loadAt 35 x1) w fun x8 =>
 CALL Tryz.prog 191 [x8] w fun x9 w =>
 RD Tryz.prog (Op.unary .not x9) w fun x10 =>
 BR x10
 (R (Value.bool false) w)
 (RD Tryz.prog (Instr.loadAt 35 x1) w fun x12 =>
 CALL Tryz.prog 192 [x12] w fun x13 w =>
 RD Tryz.prog (Op.unary .not x13) w fun x14 =>
 BR x14
 (R (Value.bool false) w)
 (RD Tryz.prog (Instr.fieldAt 35 x1 3) w fun x16 =>
 RD Tryz.prog (Instr.loadAt 23 x16) w fun x17 =>
 RD Tryz.prog (Builtin.len_ #[23] 3 [x17].toArray) w fun x18 =>
 LOOPI [19] [(Value.int .i64 0)] w fun u4 w next4 =>
 RD Tryz.prog (bin .lss 3 (.tmp 0) (.tmp 0) (u4 19) x18) w fun x20 =>
 BR x20
 (RD Tryz.prog (Instr.indexAt 23 x17 (u4 19)) w fun x22 =>
 RD Tryz.prog (Instr.loadAt 3 x22) w fun x23 =>
 RD Tryz.prog (Instr.loadAt 35 x1) w fun x24 =>
 CALL Tryz.prog 133 [x24, (u4 19)] w fun x26 w =>
 RD Tryz.prog (Instr.fieldAt 35 x1 4) w fun x27 =>
 RD Tryz.prog (Instr.loadAt 33 x27) w fun x28 =>
 RD Tryz.prog (Instr.sliceAt 33 x28 (some x23) (some x26) none) w fun x31 =>
 RD Tryz.prog (Builtin.len_ #[33] 3 [x31].toArray) w fun x32 =>
 LOOPI [33] [(Value.int .i64 0)] w fun u8 w next8 =>
 RD Tryz.prog (bin .lss 3 (.tmp 0) (.tmp 0) (u8 33) x32) w fun x34 =>
 BR x34
 (RD Tryz.prog (Instr.indexAt 33 x31 (u8 33)) w fun x35 =>
 RD Tryz.prog (Instr.loadAt 136 x35) w fun x36 =>
 OP Tryz.prog (Instr.alloc 136 true (.tuple #[])) w fun x7 w =>
 OPU Tryz.prog (Instr.storeAt 136 x7 x36) w fun w =>
 RD Tryz.prog (Instr.loadAt 35 x1) w fun x37 =>
 RD Tryz.prog (Instr.loadAt 136 x7) w fun x38 =>
 CALL Tryz.prog 193 [x37, x38, x23, x26] w fun x41 w =>
 RD Tryz.prog (Op.unary .not x41) w fun x42 =>
 BR x42
 (R (Value.bool false) w)
 (RD Tryz.prog (bin .add 3 (.tmp 0) (.const undef) (u8 33) (Value.int .i64 1)) w fun x43 =>
 next8 [x43] w))
 (RD Tryz.prog (bin .add 3 (.tmp 0) (.const undef) (u4 19) (Value.int .i64 1)) w fun x44 =>
 next4 [x44] w))
 (R (Value.bool true) w)))
def cfg125 : Cfg := { ext := extL, joins := [], loops := [(4, 35184371564732, [19]), (8, 17583596109956, [33])], draws := [], pars := [] }
theorem F125_eq (a0 : Value) (w : World) (R : Value → World → Prop) : vcF Tryz.prog cfg125 Tryz.f125 [a0] w R = F125 a0 w R := by kernel_rfl
theorem F125_call {a0 : Value} {w : World} {R : Value → World → Prop} (h : F125 a0 w R) : CALL Tryz.prog 125 [a0] w R :=
  call_of (g := cfg125) ent mixed Tryz.func125 (Nat.le_of_ble_eq_true (by kernel_rfl)) (by kernel_rfl) (F125_eq a0 w R ▸ h)
theorem implCodeOk_ok {w : World} {v0 : Value} {W0 : World} {c : DCode}  (h0 : Is W0 v0 c) (e0 : Ext W0 w)  :
    CALL Tryz.prog 125 [v0] w fun r w' => Ext w w' ∧ (r = .bool (decide (CodeR c))) := by
  refine F125_call ?_
  unfold F125
  refine op_boxS ty35 rfl h0 e0 fun w1_ hx1_ hA1 hV1 => ?_
  refine rd_var hV1 (Ext.refl w1_) ?_
  refine (namesRight_ok h0 (e0.trans hx1_)).mono ?_
  rintro _ w2_ ⟨hx2_, rfl⟩
  refine rd_nodec ?_
  refine br (fun c1 => ?_) (fun c1 => ?_)
  · refine ⟨(hx1_.trans hx2_), ?_⟩
    have : ¬ CodeR c := fun h => c1 h.1
    simp only [this, decide_false]
  · refine rd_var hV1 hx2_ ?_
    refine (entriesRight_ok h0 (e0.trans (hx1_.trans hx2_)) (Decidable.not_not.1 c1).procs8.2).mono ?_
    rintro _ w3_ ⟨hx3_, rfl⟩
    refine rd_nodec ?_
    refine br (fun c2 => ?_) (fun c2 => ?_)
    · refine ⟨(hx1_.trans (hx2_.trans hx3_)), ?_⟩
      have : ¬ CodeR c := fun h => c2 ((ent_iff h.1.procs8.2).2 h.2.1)
      simp only [this, decide_false]
    · refine rd_fld fd35_3 ?_
      refine rd_load ty23 (at_DCode_3 hA1) (hx2_.trans hx3_) fun v17 h17 => ?_
      have hln18 := is_len h17
      refine rd_len u23 h17 ?_
      refine loopC (c.entry.length) (fun q us w' => us = [.int .i64 (q : Int)] ∧ Ext w3_ w' ∧ (∀ i, i < q → ∀ j : Nat, en c i ≤ j → (j : Int) < endB c i → InsR c (insAt c j) (en c i) (endB c i))) (0) (by omega) ⟨by simp, Ext.refl w3_, fun i h => by omega⟩ ?_
      rintro q m4 uu4 w4_ hk4 ⟨hu, hx4_, hent⟩
      simp only [List.map_cons, List.map_nil, List.cons.injEq, and_true] at hu
      try rw [hu]
      try clear hu
      replace c1 := Decidable.not_not.1 c1; replace c2 := Decidable.not_not.1 c2; have hln4 := is_len h17
      refine rd_lss ?_
      refine br (fun c3 => ?_) (fun c3 => ?_)
      · refine rd_indexN u23 ty3 h17 (by omega) fun b22 o22 h22 => ?_
        refine rd_loadI ty3 h22 (hx2_.trans (hx3_.trans hx4_)) fun hI23 => ?_
        rw [en_get]
        have h8 := c1.procs8
        have hlq := c2.f.lt q (by omega)
        have hnq := c2.f.nonneg (i := q) (by omega)
        have hlen := c2.f.len
        refine rd_var hV1 (hx2_.trans (hx3_.trans hx4_)) ?_
        refine (endOfProc_ok h0 (e0.trans (hx1_.trans (hx2_.trans (hx3_.trans hx4_)))) (by omega)).mono ?_
        rintro _ w5_ ⟨hx5_, rfl⟩
        refine rd_fld fd35_4 ?_
        refine rd_load ty33 (at_DCode_4 hA1) (hx2_.trans (hx3_.trans (hx4_.trans hx5_))) fun v28 h28 => ?_
        refine rd_slice_both u33 ty136 h28 (by omega) (by omega) (by omega) fun v31 h31 => ?_
        have hln32 := is_len h31
        refine rd_len u33 h31 ?_
        refine loopC ((endB c q).toNat - (en c q).toNat) (fun k us w' => us = [.int .i64 (k : Int)] ∧ Ext w5_ w' ∧ (∀ j : Nat, en c q ≤ j → (j : Int) < en c q + k → InsR c (insAt c j) (en c q) (endB c q))) (0) (by omega) ⟨by simp, Ext.refl w5_, fun j h1 h2 => by omega⟩ ?_
        rintro k m8 uu8 w6_ hk8 ⟨hu, hx6_, hinv⟩
        simp only [List.map_cons, List.map_nil, List.cons.injEq, and_true] at hu
        try rw [hu]
        try clear hu
        have hl31 : ((c.ins.take (endB c q).toNat).drop (en c q).toNat).length = (endB c q).toNat - (en c q).toNat := by rw [List.length_drop, List.length_take]; omega
        refine rd_lss ?_
        refine br (fun c4 => ?_) (fun c4 => ?_)
        · refine rd_indexN u33 ty136 h31 (by omega) fun b35 o35 h35 => ?_
          refine rd_load ty136 h35 (hx2_.trans (hx3_.trans (hx4_.trans (hx5_.trans hx6_)))) fun v36 h36 => ?_
          rw [List.getElem_drop, List.getElem_take, insAt_get] at h36
          refine op_var zl136 rfl ty136 rfl h36 (hx2_.trans (hx3_.trans (hx4_.trans (hx5_.trans hx6_)))) fun w7_ hx7_ hA7 hV7 => ?_
          refine rd_var hV1 (hx2_.trans (hx3_.trans (hx4_.trans (hx5_.trans (hx6_.trans hx7_))))) ?_
          refine rd_var hV7 (Ext.refl w7_) ?_
          refine (insRight_ok h0 (e0.trans (hx1_.trans (hx2_.trans (hx3_.trans (hx4_.trans (hx5_.trans (hx6_.trans hx7_))))))) h36 (hx2_.trans (hx3_.trans (hx4_.trans (hx5_.trans (hx6_.trans hx7_)))))).mono ?_
          rintro _ w8_ ⟨hx8_, rfl⟩
          refine rd_nodec ?_
          refine br (fun c5 => ?_) (fun c5 => ?_)
          · refine ⟨(hx1_.trans (hx2_.trans (hx3_.trans (hx4_.trans (hx5_.trans (hx6_.trans (hx7_.trans hx8_))))))), ?_⟩
            have : ¬ CodeR c := fun h => c5 ((codeR_iff c1 c2).1 h q (by omega) _ (by omega) (by omega))
            simp only [this, decide_false]
          · refine rd_inc (by omega) ?_
            refine ⟨m8 - 1, by omega, k + 1, by omega, by simp, (hx6_.trans (hx7_.trans hx8_)), ?_⟩
            intro j h1 h2
            by_cases hj : j = (en c q).toNat + k
            · subst hj; exact Decidable.not_not.1 c5
            · exact hinv j h1 (by omega)
        · refine rd_inc (by omega) ?_
          refine ⟨m4 - 1, by omega, q + 1, by omega, by simp, (hx4_.trans (hx5_.trans hx6_)), ?_⟩
          intro i hi j h1 h2
          by_cases hiq : i = q
          · subst hiq; exact hinv j h1 (by omega)
          · exact hent i (by omega) j h1 h2
      · refine ⟨(hx1_.trans (hx2_.trans (hx3_.trans hx4_))), ?_⟩
        have : CodeR c := (codeR_iff c1 c2).2 fun i hi => hent i (by omega)
        simp only [this, decide_true]
end Go.Proofs.YtjgfldfbljmhhaaGreat
namespace Go.Proofs.YtjgfldfbljmhhaaGreat
open Go Go.Sh Go.Proofs
set_option linter.unusedVariables false
set_option linter.unusedSimpArgs false
theorem CodeR.f {c : DCode} (h : CodeR c) : EntF c := h.2.1.f h.1.procs8.2
def F160 (a0 a1 : Value) (w : World) (R : Value → World → Prop) : Prop :=
 OP Tryz.prog (Instr.box 35 a0) w fun x2 w =>
 RD Tryz.prog (bin .geq 3 (.tmp 0) (.const undef) a1 (Value.int .i64 0)) w fun x6 =>
 BR x6
 (RD Tryz.prog (Instr.fieldAt 35 x2 4) w fun x9 =>
 RD Tryz.prog (Instr.loadAt 33 x9) w fun x10 =>
 RD Tryz.prog (Builtin.len_ #[33] 3 [x10].toArray) w fun x11 =>
 RD Tryz.prog (bin .lss 3 (.tmp 0) (.tmp 0) a1 x11) w fun x12 =>
 R x12 w)
 (R (Value.bool false) w)
def cfg160 : Cfg := { ext := extL, joins := [], loops := [], draws := [], pars := [] }
theorem F160_eq (a0 a1 : Value) (w : World) (R : Value → World → Prop) : vcF Tryz.prog cfg160 Tryz.f160 [a0, a1] w R = F160 a0 a1 w R := by kernel_rfl
theorem F160_call {a0 a1 : Value} {w : World} {R : Value → World → Prop} (h : F160 a0 a1 w R) : CALL Tryz.prog 160 [a0, a1] w R :=
  call_of (g := cfg160) ent mixed Tryz.func160 (Nat.le_of_ble_eq_true (by kernel_rfl)) (by kernel_rfl) (F160_eq a0 a1 w R ▸ h)
theorem isPlace_ok {w : World} {v0 : Value} {W0 : World} {c : DCode} {a : Int}  (h0 : Is W0 v0 c) (e0 : Ext W0 w)  :
    CALL Tryz.prog 160 [v0, .int .i64 a] w fun r w' => Ext w w' ∧ (r = .bool (decide (0 ≤ a ∧ a < c.ins.length))) := by
  refine F160_call ?_
  unfold F160
  refine op_boxS ty35 rfl h0 e0 fun w1_ hx1_ hA2 hV2 => ?_
  refine rd_geq ?_
  refine br (fun c1 => ?_) (fun c1 => ?_)
  · refine rd_fld fd35_4 ?_
    refine rd_load ty33 (at_DCode_4 hA2) (Ext.refl w1_) fun v10 h10 => ?_
    have hln11 := is_len h10
    refine rd_len u33 h10 ?_
    refine rd_lss ?_
    refine ⟨hx1_, ?_⟩
    simp [c1]
  · refine ⟨hx1_, ?_⟩
    simp [c1]
def st (l : List Int) (i : Nat) : Int := l.getD i 0
theorem st_get {l : List Int} {i : Nat} (h : i < l.length) : l[i] = st l i := by unfold st; rw [List.getD_eq_getElem?_getD, List.getElem?_eq_getElem h]; rfl
def StackR (c : DCode) (l : List Int) : Prop := l.length ≤ 8 ∧ (∀ i, i < l.length → 0 ≤ st l i ∧ st l i < c.ins.length) ∧
  ∀ i, i < l.length - 1 → (insAt c (st l i).toNat).op = 4 ∧ procOf c (st l (i + 1)) = (insAt c (st l i).toNat).arg
instance (c : DCode) (l : List Int) : Decidable (StackR c l) := by unfold StackR; infer_instance
def StateR (c : DCode) (s : DState) : Prop := s.vars.length = c.globals.length ∧ s.owner.length = c.locks.length ∧ (1 ≤ s.stacks.length ∧ s.stacks.length ≤ 6) ∧ (∀ v ∈ s.vars, 0 ≤ v ∧ v ≤ 999) ∧
  (∀ o ∈ s.owner, -1 ≤ o ∧ o < s.stacks.length) ∧ ∀ l ∈ s.stacks, StackR c l
instance (c : DCode) (s : DState) : Decidable (StateR c s) := by unfold StateR; infer_instance
end Go.Proofs.YtjgfldfbljmhhaaGreat
namespace Go.Proofs.YtjgfldfbljmhhaaGreat
open Go Go.Sh Go.Proofs
set_option linter.unusedVariables false
set_option linter.unusedSimpArgs false
theorem own_touch {lo hi : Nat} {w : World} {x : DTouch} (h1 : I64 x.at_) (h2 : I64 x.global) (h3 : I64 x.held) : OwnI lo hi w (.agg #[.int .i64 x.at_, .int .i64 x.global, .bool x.write, .int .i64 x.held]) x :=
  ⟨[], mk_DTouch h1 h2 h3, by simp⟩
def touchTo (c : DCode) (a : Int) (held : Int) (i : DIns) : Nat → List DTouch
  | 0 => []
  | k + 1 => touchTo c a held i k ++ (if c.globals.getD k ByteArray.empty ∈ readsOf i.term then [⟨a, k, false, held⟩] else []) ++ (if i.op = 1 ∧ i.arg = k then [⟨a, k, true, held⟩] else [])
def touchAt (c : DCode) (a : Int) (held : Int) : List DTouch :=
  if (insAt c a.toNat).op = 1 ∨ (insAt c a.toNat).op = 2 then touchTo c a held (insAt c a.toNat) c.globals.length else []
theorem touchTo_len (c : DCode) (a held : Int) (i : DIns) : ∀ k, (touchTo c a held i k).length ≤ 2 * k
  | 0 => by simp [touchTo]
  | k + 1 => by
    have := touchTo_len c a held i k
    rw [touchTo, List.length_append, List.length_append]
    split <;> split <;> simp <;> omega
theorem touchAt_len (c : DCode) (a held : Int) : (touchAt c a held).length ≤ 2 * c.globals.length := by
  unfold touchAt
  split
  · exact touchTo_len _ _ _ _ _
  · simp
def F161 (a0 a1 a2 : Value) (w : World) (R : Value → World → Prop) : Prop :=
 OP Tryz.prog (Instr.box 35 a0) w fun x3 w =>
 RD Tryz.prog (Instr.fieldAt 35 x3 4) w fun x12 =>
 RD Tryz.prog (Instr.loadAt 33 x12) w fun x13 =>
 RD Tryz.prog (Instr.indexAt 33 x13 a1) w fun x15 =>
 RD Tryz.prog (Instr.loadAt 136 x15) w fun x16 =>
 OP Tryz.prog (Instr.alloc 136 true (.tuple #[])) w fun x7 w =>
 OPU Tryz.prog (Instr.storeAt 136 x7 x16) w fun w =>
 JOIN [] (fun J4 =>
 RD Tryz.prog (Instr.fieldAt 136 x7 0) w fun x17 =>
 RD Tryz.prog (Instr.loadAt 3 x17) w fun x18 =>
 RD Tryz.prog (bin .neq 3 (.tmp 0) (.const undef) x18 (Value.int .i64 1)) w fun x19 =>
 BR x19
 (RD Tryz.prog (Instr.fieldAt 136 x7 0) w fun x21 =>
 RD Tryz.prog (Instr.loadAt 3 x21) w fun x22 =>
 RD Tryz.prog (bin .neq 3 (.tmp 0) (.const undef) x22 (Value.int .i64 2)) w fun x23 =>
 BR x23
 (R (Value.slice none 0 0) w)
 (J4 [] w))
 (J4 [] w)) (fun u4 w =>
 RD Tryz.prog (Instr.fieldAt 136 x7 2) w fun x25 =>
 RD Tryz.prog (Instr.loadAt 134 x25) w fun x26 =>
 CALL Tryz.prog 225 [x26] w fun x27 w =>
 RD Tryz.prog (Instr.fieldAt 35 x3 0) w fun x28 =>
 RD Tryz.prog (Instr.loadAt 22 x28) w fun x29 =>
 RD Tryz.prog (Builtin.len_ #[22] 3 [x29].toArray) w fun x30 =>
 LOOPI [9, 31] [(Value.slice none 0 0), (Value.int .i64 0)] w fun u7 w next7 =>
 RD Tryz.prog (bin .lss 3 (.tmp 0) (.tmp 0) (u7 31) x30) w fun x32 =>
 BR x32
 (RD Tryz.prog (Instr.indexAt 22 x29 (u7 31)) w fun x34 =>
 RD Tryz.prog (Instr.loadAt 9 x34) w fun x35 =>
 JOIN [9] (fun J11 =>
 CALL Tryz.prog 226 [x27, x35] w fun x38 w =>
 BR x38
 (RD Tryz.prog (Instr.build 177 #[(0, a1), (1, (u7 31)), (3, a2)]) w fun x43 =>
 OP Tryz.prog (Instr.buildSlice 174 1 #[(0, x43)]) w fun x44 w =>
 OP Tryz.prog (Builtin.append_ #[174, 174] 174 [(u7 9), x44].toArray) w fun x45 w =>
 J11 [x45] w)
 (J11 [(u7 9)] w)) (fun u11 w =>
 RD Tryz.prog (Instr.fieldAt 136 x7 0) w fun x46 =>
 RD Tryz.prog (Instr.loadAt 3 x46) w fun x47 =>
 RD Tryz.prog (bin .eql 3 (.tmp 0) (.const undef) x47 (Value.int .i64 1)) w fun x48 =>
 BR x48
 (RD Tryz.prog (Instr.fieldAt 136 x7 1) w fun x50 =>
 RD Tryz.prog (Instr.loadAt 3 x50) w fun x51 =>
 RD Tryz.prog (bin .eql 3 (.tmp 0) (.tmp 0) x51 (u7 31)) w fun x53 =>
 BR x53
 (RD Tryz.prog (Instr.build 177 #[(0, a1), (1, (u7 31)), (2, (Value.bool true)), (3, a2)]) w fun x59 =>
 OP Tryz.prog (Instr.buildSlice 174 1 #[(0, x59)]) w fun x60 w =>
 OP Tryz.prog (Builtin.append_ #[174, 174] 174 [(u11 9), x60].toArray) w fun x61 w =>
 RD Tryz.prog (bin .add 3 (.tmp 0) (.const undef) (u7 31) (Value.int .i64 1)) w fun x62 =>
 next7 [x61, x62] w)
 (RD Tryz.prog (bin .add 3 (.tmp 0) (.const undef) (u7 31) (Value.int .i64 1)) w fun x62 =>
 next7 [(u11 9), x62] w))
 (RD Tryz.prog (bin .add 3 (.tmp 0) (.const undef) (u7 31) (Value.int .i64 1)) w fun x62 =>
 next7 [(u11 9), x62] w)))
 (R (u7 9) w))
def cfg161 : Cfg := { ext := extL, joins := [(4, 33423424, []), (11, 70300024701440, [9])], loops := [(7, 9223372034707295744, [9, 31])], draws := [], pars := [] }
theorem F161_eq (a0 a1 a2 : Value) (w : World) (R : Value → World → Prop) : vcF Tryz.prog cfg161 Tryz.f161 [a0, a1, a2] w R = F161 a0 a1 a2 w R := by kernel_rfl
theorem F161_call {a0 a1 a2 : Value} {w : World} {R : Value → World → Prop} (h : F161 a0 a1 a2 w R) : CALL Tryz.prog 161 [a0, a1, a2] w R :=
  call_of (g := cfg161) ent mixed Tryz.func161 (Nat.le_of_ble_eq_true (by kernel_rfl)) (by kernel_rfl) (F161_eq a0 a1 a2 w R ▸ h)
theorem touchesIn_ok {w : World} {v0 : Value} {W0 : World} {c : DCode} {a : Int} {held : Int}  (h0 : Is W0 v0 c) (e0 : Ext W0 w) (hc : CodeR c) (ha : 0 ≤ a) (ha2 : a < c.ins.length) (hh : I64 held) :
    CALL Tryz.prog 161 [v0, .int .i64 a, .int .i64 held] w fun r w' => Ext w w' ∧ (Own w.heap.size w' r (touchAt c a held)) := by
  refine F161_call ?_
  unfold F161
  have hil := hc.f.ins
  have hg6 : c.globals.length ≤ 6 := by have h1 := hc.1.1; simp only [Bool.and_eq_true, decide_eq_true_eq] at h1; omega
  have hs_e0 := e0.size
  refine op_boxS ty35 rfl h0 e0 fun w1_ hx1_ hA3 hV3 => ?_
  have hs_hx1_ := hx1_.size
  refine rd_fld fd35_4 ?_
  refine rd_load ty33 (at_DCode_4 hA3) (Ext.refl w1_) fun v13 h13 => ?_
  refine rd_index u33 ty136 h13 (by omega) (by omega) fun b15 o15 h15 => ?_
  rw [insAt_get] at h15
  obtain ⟨i, hi⟩ : ∃ i, i = insAt c a.toNat := ⟨_, rfl⟩
  rw [← hi] at h15
  refine rd_load ty136 h15 (Ext.refl w1_) fun v16 h16 => ?_
  refine op_var zl136 rfl ty136 rfl h16 (Ext.refl w1_) fun w2_ hx2_ hA7 hV7 => ?_
  have hs_hx2_ := hx2_.size
  have hg7 := hV7.lt
  refine JOIN.mk (fun us w' => us = [] ∧ Ext w2_ w' ∧ (i.op = 1 ∨ i.op = 2)) ?_ ?_
  · refine rd_fld fd136_0 ?_
    refine rd_loadI ty3 (at_DIns_0 hA7) (Ext.refl w2_) fun hI18 => ?_
    refine rd_neq ?_
    refine br (fun c1 => ?_) (fun c1 => ?_)
    · refine rd_fld fd136_0 ?_
      refine rd_loadI ty3 (at_DIns_0 hA7) (Ext.refl w2_) fun hI22 => ?_
      refine rd_neq ?_
      refine br (fun c2 => ?_) (fun c2 => ?_)
      · refine ⟨(hx1_.trans hx2_), ?_⟩
        unfold touchAt
        rw [← hi, if_neg (by omega)]
        exact own_nil rfl
      · refine ⟨by simp, Ext.refl w2_, ?_⟩
        omega
    · refine ⟨by simp, Ext.refl w2_, ?_⟩
      omega
  · rintro uj4 w3_ ⟨hu, hx3_, hop⟩
    have hs_hx3_ := hx3_.size
    simp only [List.map_cons, List.map_nil, List.cons.injEq, and_true] at hu
    clear hu
    refine rd_fld fd136_2 ?_
    refine rd_load ty134 (at_DIns_2 hA7) hx3_ fun v26 h26 => ?_
    refine (implReadsOf_ok h26 hx3_).mono ?_
    rintro r27 w4_ ⟨hx4_, h27⟩
    have hs_hx4_ := hx4_.size
    refine rd_fld fd35_0 ?_
    refine rd_load ty22 (at_DCode_0 hA3) (hx2_.trans (hx3_.trans hx4_)) fun v29 h29 => ?_
    have hln30 := is_len h29
    refine rd_len u22 h29 ?_
    refine loopC (c.globals.length) (fun k us w' => ∃ v : Value, us = [v, .int .i64 (k : Int)] ∧ Ext w4_ w' ∧ (RowI w4_.heap.size w'.heap.size 177 w' v (touchTo c a held i k))) (0) (by omega) ⟨_, rfl, Ext.refl w4_, rowI_nil _ _ _ _⟩ ?_
    rintro k m7 uu7 w5_ hk7 ⟨v9, hu, hx5_, hrow⟩
    have hs_hx5_ := hx5_.size
    simp only [List.map_cons, List.map_nil, List.cons.injEq, and_true] at hu
    obtain ⟨hu0, hu1⟩ := hu
    try rw [hu0]
    try rw [hu1]
    try clear hu0 hu1
    have hrl := touchTo_len c a held i k
    refine rd_lss ?_
    refine br (fun c3 => ?_) (fun c3 => ?_)
    · refine rd_indexN u22 ty9 h29 (by omega) fun b34 o34 h34 => ?_
      refine rd_loadS ty9 h34 (hx2_.trans (hx3_.trans (hx4_.trans hx5_))) fun hS35 => ?_
      refine JOIN.mk (fun us w' => ∃ v : Value, us = [v] ∧ Ext w4_ w' ∧ (RowI w4_.heap.size w'.heap.size 177 w' v (touchTo c a held i k ++ (if c.globals.getD k ByteArray.empty ∈ readsOf i.term then [⟨a, k, false, held⟩] else [])))) ?_ ?_
      · have hgk : c.globals[k]'(by omega) = c.globals.getD k ByteArray.empty := by rw [List.getD_eq_getElem?_getD, List.getElem?_eq_getElem (by omega)]; rfl
        refine (containsStr_ok h27 hx5_).mono ?_
        rintro _ w7_ ⟨hx7_, rfl⟩
        have hs_hx7_ := hx7_.size
        refine br (fun c4 => ?_) (fun c4 => ?_)
        · refine rd_build (cells := #[.int .i64 a, .int .i64 (k : Int), .bool false, .int .i64 held]) (by kernel_rfl) ?_
          have o43 : OwnI w7_.heap.size w7_.heap.size w7_ (.agg #[.int .i64 a, .int .i64 (k : Int), .bool false, .int .i64 held]) (⟨a, k, false, held⟩ : DTouch) := own_touch (x := ⟨a, k, false, held⟩) (by show I64 a; unfold I64; omega) (by show I64 (k : Int); unfold I64; omega) hh
          refine op_push (α := DTouch) u174 ty177 z177 zc177 (by decide) (hrow.ext hx7_) (by omega) (o43.ext (Ext.refl w7_)) (by omega) (by omega) (by rw [maxLen_eq]; omega) (by omega) fun v45 w8_ hc8_ o45 => ?_
          have hs_hc8_ := hc8_.size
          have o43_c8 := (o43.ext (Ext.refl w7_)).chg hc8_ (by omega)
          refine ⟨_, rfl, (Ext.chgI (hx5_.trans hx7_) hc8_ (by omega)), ?_⟩
          rw [if_pos (by rw [← hgk]; exact c4)]; exact o45
        · refine ⟨_, rfl, (hx5_.trans hx7_), ?_⟩
          rw [if_neg (by rw [← hgk]; exact c4), List.append_nil]; exact (hrow.ext hx7_).mono (by omega) (by omega)
      · rintro uj11 w6_ ⟨v11, hu, hx8_, hrow2⟩
        have hs_hx8_ := hx8_.size
        simp only [List.map_cons, List.map_nil, List.cons.injEq, and_true] at hu
        try rw [hu]
        try clear hu
        refine rd_fld fd136_0 ?_
        refine rd_loadI ty3 (at_DIns_0 hA7) (hx3_.trans (hx4_.trans hx8_)) fun hI47 => ?_
        refine rd_eql ?_
        refine br (fun c5 => ?_) (fun c5 => ?_)
        · refine rd_fld fd136_1 ?_
          refine rd_loadI ty3 (at_DIns_1 hA7) (hx3_.trans (hx4_.trans hx8_)) fun hI51 => ?_
          refine rd_eql ?_
          refine br (fun c6 => ?_) (fun c6 => ?_)
          · refine rd_build (cells := #[.int .i64 a, .int .i64 (k : Int), .bool true, .int .i64 held]) (by kernel_rfl) ?_
            have o59 : OwnI w6_.heap.size w6_.heap.size w6_ (.agg #[.int .i64 a, .int .i64 (k : Int), .bool true, .int .i64 held]) (⟨a, k, true, held⟩ : DTouch) := own_touch (x := ⟨a, k, true, held⟩) (by show I64 a; unfold I64; omega) (by show I64 (k : Int); unfold I64; omega) hh
            refine op_push (α := DTouch) u174 ty177 z177 zc177 (by decide) (hrow2.ext (Ext.refl w6_)) (by omega) (o59.ext (Ext.refl w6_)) (by omega) (by omega) (by rw [maxLen_eq, List.length_append]; split <;> simp <;> omega) (by rw [List.length_append]; split <;> simp <;> omega) fun v61 w9_ hc9_ o61 => ?_
            have hs_hc9_ := hc9_.size
            have o59_c9 := (o59.ext (Ext.refl w6_)).chg hc9_ (by omega)
            refine rd_inc (by omega) ?_
            refine ⟨m7 - 1, by omega, k + 1, by omega, _, rfl, (Ext.chgI hx8_ hc9_ (by omega)), ?_⟩
            rw [touchTo, if_pos (c := i.op = 1 ∧ i.arg = k) ⟨by omega, by omega⟩]; exact o61
          · refine rd_inc (by omega) ?_
            refine ⟨m7 - 1, by omega, k + 1, by omega, _, rfl, hx8_, ?_⟩
            rw [touchTo, if_neg (c := i.op = 1 ∧ i.arg = k) (fun h => c6 h.2), List.append_nil]; exact (hrow2.ext (Ext.refl w6_)).mono (by omega) (by omega)
        · refine rd_inc (by omega) ?_
          refine ⟨m7 - 1, by omega, k + 1, by omega, _, rfl, hx8_, ?_⟩
          rw [touchTo, if_neg (c := i.op = 1 ∧ i.arg = k) (fun h => c5 h.1), List.append_nil]; exact (hrow2.ext (Ext.refl w6_)).mono (by omega) (by omega)
    · refine ⟨(hx1_.trans (hx2_.trans (hx3_.trans (hx4_.trans hx5_)))), ?_⟩
      unfold touchAt
      rw [← hi, if_pos hop, ← show k = c.globals.length by omega]
      exact hrow.own.own.mono (by omega)
def F155 (a0 a1 a2 : Value) (w : World) (R : Value → World → Prop) : Prop :=
 OP Tryz.prog (Instr.box 35 a0) w fun x3 w =>
 OP Tryz.prog (Instr.buildSlice 174 0 #[]) w fun x11 w =>
 RD Tryz.prog (Instr.fieldAt 35 x3 4) w fun x12 =>
 RD Tryz.prog (Instr.loadAt 33 x12) w fun x13 =>
 RD Tryz.prog (Instr.indexAt 33 x13 a1) w fun x15 =>
 RD Tryz.prog (Instr.loadAt 136 x15) w fun x16 =>
 OP Tryz.prog (Instr.alloc 136 true (.tuple #[])) w fun x8 w =>
 OPU Tryz.prog (Instr.storeAt 136 x8 x16) w fun w =>
 JOIN [] (fun J5 =>
 RD Tryz.prog (Instr.fieldAt 136 x8 0) w fun x17 =>
 RD Tryz.prog (Instr.loadAt 3 x17) w fun x18 =>
 RD Tryz.prog (bin .neq 3 (.tmp 0) (.const undef) x18 (Value.int .i64 1)) w fun x19 =>
 BR x19
 (RD Tryz.prog (Instr.fieldAt 136 x8 0) w fun x21 =>
 RD Tryz.prog (Instr.loadAt 3 x21) w fun x22 =>
 RD Tryz.prog (bin .neq 3 (.tmp 0) (.const undef) x22 (Value.int .i64 2)) w fun x23 =>
 BR x23
 (R x11 w)
 (J5 [] w))
 (J5 [] w)) (fun u5 w =>
 RD Tryz.prog (Instr.fieldAt 136 x8 2) w fun x26 =>
 RD Tryz.prog (Instr.loadAt 134 x26) w fun x27 =>
 CALL Tryz.prog 206 [x27] w fun x28 w =>
 LOOPI [7, 10] [x11, (Value.int .i64 0)] w fun u7 w next7 =>
 RD Tryz.prog (Instr.fieldAt 35 x3 0) w fun x30 =>
 RD Tryz.prog (Instr.loadAt 22 x30) w fun x31 =>
 RD Tryz.prog (Builtin.len_ #[22] 3 [x31].toArray) w fun x32 =>
 RD Tryz.prog (bin .lss 3 (.tmp 0) (.tmp 0) (u7 10) x32) w fun x33 =>
 BR x33
 (JOIN [7] (fun J11 =>
 RD Tryz.prog (Instr.fieldAt 35 x3 0) w fun x37 =>
 RD Tryz.prog (Instr.loadAt 22 x37) w fun x38 =>
 RD Tryz.prog (Instr.indexAt 22 x38 (u7 10)) w fun x40 =>
 RD Tryz.prog (Instr.loadAt 9 x40) w fun x41 =>
 CALL Tryz.prog 219 [x28, x41] w fun x42 w =>
 BR x42
 (RD Tryz.prog (Instr.build 177 #[(0, a1), (1, (u7 10)), (3, a2)]) w fun x47 =>
 OP Tryz.prog (Instr.buildSlice 174 1 #[(0, x47)]) w fun x48 w =>
 OP Tryz.prog (Builtin.append_ #[174, 174] 174 [(u7 7), x48].toArray) w fun x49 w =>
 J11 [x49] w)
 (J11 [(u7 7)] w)) (fun u11 w =>
 RD Tryz.prog (Instr.fieldAt 136 x8 0) w fun x50 =>
 RD Tryz.prog (Instr.loadAt 3 x50) w fun x51 =>
 RD Tryz.prog (bin .eql 3 (.tmp 0) (.const undef) x51 (Value.int .i64 1)) w fun x52 =>
 BR x52
 (RD Tryz.prog (Instr.fieldAt 136 x8 1) w fun x54 =>
 RD Tryz.prog (Instr.loadAt 3 x54) w fun x55 =>
 RD Tryz.prog (bin .eql 3 (.tmp 0) (.tmp 0) x55 (u7 10)) w fun x57 =>
 BR x57
 (RD Tryz.prog (Instr.build 177 #[(0, a1), (1, (u7 10)), (2, (Value.bool true)), (3, a2)]) w fun x63 =>
 OP Tryz.prog (Instr.buildSlice 174 1 #[(0, x63)]) w fun x64 w =>
 OP Tryz.prog (Builtin.append_ #[174, 174] 174 [(u11 7), x64].toArray) w fun x65 w =>
 RD Tryz.prog (bin .add 3 (.tmp 0) (.const undef) (u7 10) (Value.int .i64 1)) w fun x35 =>
 next7 [x65, x35] w)
 (RD Tryz.prog (bin .add 3 (.tmp 0) (.const undef) (u7 10) (Value.int .i64 1)) w fun x35 =>
 next7 [(u11 7), x35] w))
 (RD Tryz.prog (bin .add 3 (.tmp 0) (.const undef) (u7 10) (Value.int .i64 1)) w fun x35 =>
 next7 [(u11 7), x35] w)))
 (R (u7 7) w))
def cfg155 : Cfg := { ext := extL, joins := [(5, 66977856, []), (11, 1125831187366016, [7])], loops := [(7, 73786976294301336704, [7, 10])], draws := [], pars := [] }
theorem F155_eq (a0 a1 a2 : Value) (w : World) (R : Value → World → Prop) : vcF Tryz.prog cfg155 Tryz.f155 [a0, a1, a2] w R = F155 a0 a1 a2 w R := by kernel_rfl
theorem F155_call {a0 a1 a2 : Value} {w : World} {R : Value → World → Prop} (h : F155 a0 a1 a2 w R) : CALL Tryz.prog 155 [a0, a1, a2] w R :=
  call_of (g := cfg155) ent mixed Tryz.func155 (Nat.le_of_ble_eq_true (by kernel_rfl)) (by kernel_rfl) (F155_eq a0 a1 a2 w R ▸ h)
theorem l17At_ok {w : World} {v0 : Value} {W0 : World} {c : DCode} {a : Int} {held : Int}  (h0 : Is W0 v0 c) (e0 : Ext W0 w) (hc : CodeR c) (ha : 0 ≤ a) (ha2 : a < c.ins.length) (hh : I64 held) :
    CALL Tryz.prog 155 [v0, .int .i64 a, .int .i64 held] w fun r w' => Ext w w' ∧ (Own w.heap.size w' r (touchAt c a held)) := by
  refine F155_call ?_
  unfold F155
  have hil := hc.f.ins
  have hg6 : c.globals.length ≤ 6 := by have h1 := hc.1.1; simp only [Bool.and_eq_true, decide_eq_true_eq] at h1; omega
  have hs_e0 := e0.size
  refine op_boxS ty35 rfl h0 e0 fun w1_ hx1_ hA3 hV3 => ?_
  have hs_hx1_ := hx1_.size
  refine op_build0I (α := DTouch) u174 ty177 fun v11 w2_ hx2_ o11 => ?_
  have hs_hx2_ := hx2_.size
  refine rd_fld fd35_4 ?_
  refine rd_load ty33 (at_DCode_4 hA3) hx2_ fun v13 h13 => ?_
  refine rd_index u33 ty136 h13 (by omega) (by omega) fun b15 o15 h15 => ?_
  rw [insAt_get] at h15
  obtain ⟨i, hi⟩ : ∃ i, i = insAt c a.toNat := ⟨_, rfl⟩
  rw [← hi] at h15
  refine rd_load ty136 h15 hx2_ fun v16 h16 => ?_
  refine op_var zl136 rfl ty136 rfl h16 hx2_ fun w3_ hx3_ hA8 hV8 => ?_
  have hs_hx3_ := hx3_.size
  have hg8 := hV8.lt
  refine JOIN.mk (fun us w' => us = [] ∧ Ext w3_ w' ∧ (i.op = 1 ∨ i.op = 2)) ?_ ?_
  · refine rd_fld fd136_0 ?_
    refine rd_loadI ty3 (at_DIns_0 hA8) (Ext.refl w3_) fun hI18 => ?_
    refine rd_neq ?_
    refine br (fun c1 => ?_) (fun c1 => ?_)
    · refine rd_fld fd136_0 ?_
      refine rd_loadI ty3 (at_DIns_0 hA8) (Ext.refl w3_) fun hI22 => ?_
      refine rd_neq ?_
      refine br (fun c2 => ?_) (fun c2 => ?_)
      · refine ⟨(hx1_.trans (hx2_.trans hx3_)), ?_⟩
        unfold touchAt
        rw [← hi, if_neg (by omega)]
        exact (o11.ext hx3_).own.own.mono (by omega)
      · refine ⟨by simp, Ext.refl w3_, ?_⟩
        omega
    · refine ⟨by simp, Ext.refl w3_, ?_⟩
      omega
  · rintro uj5 w4_ ⟨hu, hx4_, hop⟩
    have hs_hx4_ := hx4_.size
    simp only [List.map_cons, List.map_nil, List.cons.injEq, and_true] at hu
    clear hu
    refine rd_fld fd136_2 ?_
    refine rd_load ty134 (at_DIns_2 hA8) hx4_ fun v27 h27 => ?_
    refine (specReadsOf_ok h27 hx4_).mono ?_
    rintro r28 w5_ ⟨hx5_, h28⟩
    have hs_hx5_ := hx5_.size
    refine loopC (c.globals.length) (fun k us w' => ∃ v : Value, us = [v, .int .i64 (k : Int)] ∧ Ext w5_ w' ∧ (RowI w5_.heap.size w'.heap.size 177 w' v (touchTo c a held i k))) (0) (by omega) ⟨_, rfl, Ext.refl w5_, rowI_zcap _ _ _ _ _⟩ ?_
    rintro k m7 uu7 w6_ hk7 ⟨v7, hu, hx6_, hrow⟩
    have hs_hx6_ := hx6_.size
    simp only [List.map_cons, List.map_nil, List.cons.injEq, and_true] at hu
    obtain ⟨hu0, hu1⟩ := hu
    try rw [hu0]
    try rw [hu1]
    try clear hu0 hu1
    have hrl := touchTo_len c a held i k
    refine rd_fld fd35_0 ?_
    refine rd_load ty22 (at_DCode_0 hA3) (hx2_.trans (hx3_.trans (hx4_.trans (hx5_.trans hx6_)))) fun v31 h31 => ?_
    have hln32 := is_len h31
    refine rd_len u22 h31 ?_
    refine rd_lss ?_
    refine br (fun c3 => ?_) (fun c3 => ?_)
    · refine JOIN.mk (fun us w' => ∃ v : Value, us = [v] ∧ Ext w5_ w' ∧ (RowI w5_.heap.size w'.heap.size 177 w' v (touchTo c a held i k ++ (if c.globals.getD k ByteArray.empty ∈ readsOf i.term then [⟨a, k, false, held⟩] else [])))) ?_ ?_
      · refine rd_fld fd35_0 ?_
        refine rd_load ty22 (at_DCode_0 hA3) (hx2_.trans (hx3_.trans (hx4_.trans (hx5_.trans hx6_)))) fun v38 h38 => ?_
        refine rd_indexN u22 ty9 h38 (by omega) fun b40 o40 h40 => ?_
        refine rd_loadS ty9 h40 (hx2_.trans (hx3_.trans (hx4_.trans (hx5_.trans hx6_)))) fun hS41 => ?_
        have hgk : c.globals[k]'(by omega) = c.globals.getD k ByteArray.empty := by rw [List.getD_eq_getElem?_getD, List.getElem?_eq_getElem (by omega)]; rfl
        refine (l04Has_ok h28 hx6_).mono ?_
        rintro _ w8_ ⟨hx8_, rfl⟩
        have hs_hx8_ := hx8_.size
        refine br (fun c4 => ?_) (fun c4 => ?_)
        · refine rd_build (cells := #[.int .i64 a, .int .i64 (k : Int), .bool false, .int .i64 held]) (by kernel_rfl) ?_
          have o47 : OwnI w8_.heap.size w8_.heap.size w8_ (.agg #[.int .i64 a, .int .i64 (k : Int), .bool false, .int .i64 held]) (⟨a, k, false, held⟩ : DTouch) := own_touch (x := ⟨a, k, false, held⟩) (by show I64 a; unfold I64; omega) (by show I64 (k : Int); unfold I64; omega) hh
          refine op_push (α := DTouch) u174 ty177 z177 zc177 (by decide) (hrow.ext hx8_) (by omega) (o47.ext (Ext.refl w8_)) (by omega) (by omega) (by rw [maxLen_eq]; omega) (by omega) fun v49 w9_ hc9_ o49 => ?_
          have hs_hc9_ := hc9_.size
          have o11_c9 := (o11.ext (hx3_.trans (hx4_.trans (hx5_.trans (hx6_.trans hx8_))))).chg hc9_ (by omega)
          have o47_c9 := (o47.ext (Ext.refl w8_)).chg hc9_ (by omega)
          refine ⟨_, rfl, (Ext.chgI (hx6_.trans hx8_) hc9_ (by omega)), ?_⟩
          rw [if_pos (by rw [← hgk]; exact c4)]; exact o49
        · refine ⟨_, rfl, (hx6_.trans hx8_), ?_⟩
          rw [if_neg (by rw [← hgk]; exact c4), List.append_nil]; exact (hrow.ext hx8_).mono (by omega) (by omega)
      · rintro uj11 w7_ ⟨v11, hu, hx9_, hrow2⟩
        have hs_hx9_ := hx9_.size
        simp only [List.map_cons, List.map_nil, List.cons.injEq, and_true] at hu
        try rw [hu]
        try clear hu
        refine rd_fld fd136_0 ?_
        refine rd_loadI ty3 (at_DIns_0 hA8) (hx4_.trans (hx5_.trans hx9_)) fun hI51 => ?_
        refine rd_eql ?_
        refine br (fun c5 => ?_) (fun c5 => ?_)
        · refine rd_fld fd136_1 ?_
          refine rd_loadI ty3 (at_DIns_1 hA8) (hx4_.trans (hx5_.trans hx9_)) fun hI55 => ?_
          refine rd_eql ?_
          refine br (fun c6 => ?_) (fun c6 => ?_)
          · refine rd_build (cells := #[.int .i64 a, .int .i64 (k : Int), .bool true, .int .i64 held]) (by kernel_rfl) ?_
            have o63 : OwnI w7_.heap.size w7_.heap.size w7_ (.agg #[.int .i64 a, .int .i64 (k : Int), .bool true, .int .i64 held]) (⟨a, k, true, held⟩ : DTouch) := own_touch (x := ⟨a, k, true, held⟩) (by show I64 a; unfold I64; omega) (by show I64 (k : Int); unfold I64; omega) hh
            refine op_push (α := DTouch) u174 ty177 z177 zc177 (by decide) (hrow2.ext (Ext.refl w7_)) (by omega) (o63.ext (Ext.refl w7_)) (by omega) (by omega) (by rw [maxLen_eq, List.length_append]; split <;> simp <;> omega) (by rw [List.length_append]; split <;> simp <;> omega) fun v65 w10_ hc10_ o65 => ?_
            have hs_hc10_ := hc10_.size
            have o11_c10 := (o11.ext (hx3_.trans (hx4_.trans (hx5_.trans hx9_)))).chg hc10_ (by omega)
            have o63_c10 := (o63.ext (Ext.refl w7_)).chg hc10_ (by omega)
            refine rd_inc (by omega) ?_
            refine ⟨m7 - 1, by omega, k + 1, by omega, _, rfl, (Ext.chgI hx9_ hc10_ (by omega)), ?_⟩
            rw [touchTo, if_pos (c := i.op = 1 ∧ i.arg = k) ⟨by omega, by omega⟩]; exact o65
          · refine rd_inc (by omega) ?_
            refine ⟨m7 - 1, by omega, k + 1, by omega, _, rfl, hx9_, ?_⟩
            rw [touchTo, if_neg (c := i.op = 1 ∧ i.arg = k) (fun h => c6 h.2), List.append_nil]; exact (hrow2.ext (Ext.refl w7_)).mono (by omega) (by omega)
        · refine rd_inc (by omega) ?_
          refine ⟨m7 - 1, by omega, k + 1, by omega, _, rfl, hx9_, ?_⟩
          rw [touchTo, if_neg (c := i.op = 1 ∧ i.arg = k) (fun h => c5 h.1), List.append_nil]; exact (hrow2.ext (Ext.refl w7_)).mono (by omega) (by omega)
    · refine ⟨(hx1_.trans (hx2_.trans (hx3_.trans (hx4_.trans (hx5_.trans hx6_))))), ?_⟩
      unfold touchAt
      rw [← hi, if_pos hop, ← show k = c.globals.length by omega]
      exact hrow.own.own.mono (by omega)
end Go.Proofs.YtjgfldfbljmhhaaGreat
namespace Go.Sh
set_option linter.unusedVariables false
set_option linter.unusedSimpArgs false
section
variable {P : Program} {w : World} {K : Value → Prop} {t : TypeId} {x y : Operand}
theorem rd_and {m n : Nat} (hm : m < 4611686018427387904) (hn : n < 4611686018427387904) (k : K (.int .i64 ((m &&& n : Nat) : Int))) : RD P (bin .and t x y (.int .i64 (m : Int)) (.int .i64 (n : Int))) w K := by
  have hlt : m &&& n ≤ m := Nat.and_le_left
  refine rd_of (fun w' _ => ?_) k
  have e1 : IntKind.i64.wrap ((m &&& n : Nat) : Int) = ((m &&& n : Nat) : Int) := IntWalk.i64_in _ (by omega)
  have e2 : ((BitVec.ofInt 64 (m : Int)) &&& (BitVec.ofInt 64 (n : Int))).toNat = m &&& n := by
    simp only [BitVec.toNat_and, BitVec.ofInt_natCast, BitVec.toNat_ofNat]
    rw [Nat.mod_eq_of_lt (by omega), Nat.mod_eq_of_lt (by omega)]
  show (do eqGuard .and t x y (.int .i64 (m : Int)) (.int .i64 (n : Int)); binOp .and t (.int .i64 (m : Int)) (.int .i64 (n : Int)) : Sem Value).run P w' = _
  simp only [eqGuard, binOp, Op.intBits]
  show Result.ok (Value.int .i64 (IntKind.i64.wrap (((BitVec.ofInt 64 (m : Int)) &&& (BitVec.ofInt 64 (n : Int))).toNat : Nat))) w' = _
  rw [e2, e1]
theorem rd_shr {m n : Nat} {ku : IntKind} (hm : m < 4611686018427387904) (k : K (.int .i64 ((m >>> n : Nat) : Int))) : RD P (bin .shr t x y (.int .i64 (m : Int)) (.int ku (n : Int))) w K := by
  refine rd_of (fun w' _ => ?_) k
  have e0 : ¬ ((n : Int) < 0) := by omega
  have e1 : (m : Int).fdiv (2 ^ (min n 64)) = ((m >>> n : Nat) : Int) := by
    rw [Nat.shiftRight_eq_div_pow]
    have h2 : ((2 : Int) ^ (min n 64)) = ((2 ^ (min n 64) : Nat) : Int) := by simp
    rw [h2, Int.fdiv_eq_ediv_of_nonneg _ (Int.natCast_nonneg _), ← Int.natCast_ediv]
    by_cases h : n ≤ 64
    · rw [Nat.min_eq_left h]
    · rw [Nat.min_eq_right (by omega), Nat.div_eq_of_lt (by omega), Nat.div_eq_of_lt (Nat.lt_of_lt_of_le (by omega : m < 2 ^ 64) (Nat.pow_le_pow_right (by omega) (by omega)))]
  show (do eqGuard .shr t x y (.int .i64 (m : Int)) (.int ku (n : Int)); binOp .shr t (.int .i64 (m : Int)) (.int ku (n : Int)) : Sem Value).run P w' = _
  simp only [eqGuard, binOp, Op.shift, e0, if_false, Int.toNat_natCast]
  show Result.ok (Value.int .i64 ((m : Int).fdiv (2 ^ (min n 64)))) w' = _
  rw [e1]
end
def bitsTo (m : Nat) : Nat → List Int
  | 0 => []
  | k + 1 => if m.testBit k then bitsTo m k ++ [(k : Int)] else bitsTo m k
theorem bitsTo_len (m : Nat) : ∀ k, (bitsTo m k).length ≤ k
  | 0 => Nat.le_refl _
  | k + 1 => by
    have := bitsTo_len m k
    rw [bitsTo]
    split
    · simp; omega
    · omega
theorem bitsTo_past {m k : Nat} (h : m < 2 ^ k) : ∀ {j : Nat}, k ≤ j → bitsTo m j = bitsTo m k
  | 0, hj => by rw [Nat.le_zero.1 hj]
  | j + 1, hj => by
    by_cases e : k = j + 1
    · rw [e]
    · rw [bitsTo, if_neg, bitsTo_past h (by omega)]
      rw [Nat.testBit_lt_two_pow (Nat.lt_of_lt_of_le h (Nat.pow_le_pow_right (by omega) (by omega)))]
      simp
def bitsL (m : Nat) : List Int := bitsTo m 64
theorem bitsL_eq {m k : Nat} (h : m < 2 ^ k) (hk : k ≤ 64) : bitsL m = bitsTo m k := bitsTo_past h hk
theorem bit_and (m i : Nat) : decide (((m >>> i &&& 1 : Nat) : Int) = 1) = m.testBit i := by
  have h : m >>> i &&& 1 = (m.testBit i).toNat := by
    rw [Nat.and_one_is_mod, Nat.testBit_eq_decide_div_mod_eq, Nat.shiftRight_eq_div_pow]
    rcases Nat.mod_two_eq_zero_or_one (m / 2 ^ i) with h | h <;> simp [h]
  rw [h]
  cases m.testBit i <;> rfl
theorem bit_and2 (m i : Nat) : decide (((m &&& 2 ^ i : Nat) : Int) ≠ 0) = m.testBit i := by
  have hp : 0 < 2 ^ i := Nat.pow_pos (by omega)
  cases hb : m.testBit i with
  | false =>
    have : m &&& 2 ^ i = 0 := by
      apply Nat.eq_of_testBit_eq
      intro j
      rw [Nat.testBit_and, Nat.testBit_two_pow]
      by_cases e : i = j
      · subst e; simp [hb]
      · simp [e]
    simp [this]
  | true =>
    have : m &&& 2 ^ i ≠ 0 := fun e => by
      have := congrArg (·.testBit i) e
      simp [Nat.testBit_and, Nat.testBit_two_pow, hb] at this
    simp only [ne_eq, decide_eq_true_eq]
    omega
theorem shr_zero {m i : Nat} : m >>> i = 0 ↔ m < 2 ^ i := by
  rw [Nat.shiftRight_eq_div_pow, Nat.div_eq_zero_iff]
  have : ¬ (2 ^ i = 0) := by have : 0 < 2 ^ i := Nat.pow_pos (by omega); omega
  simp [this]
end Go.Sh
namespace Go.Proofs.YtjgfldfbljmhhaaGreat
open Go Go.Sh Go.Proofs
set_option linter.unusedVariables false
def F258 (a0 : Value) (w : World) (R : Value → World → Prop) : Prop :=
 RD Tryz.prog (bin .neq 3 (.tmp 0) (.tmp 0) a0 a0) w fun x5 =>
 R x5 w
def cfg258 : Cfg := { ext := extL, joins := [], loops := [], draws := [], pars := [] }
theorem F258_eq (a0 : Value) (w : World) (R : Value → World → Prop) : vcF Tryz.prog cfg258 Tryz.f258 [a0] w R = F258 a0 w R := by kernel_rfl
theorem F258_call {a0 : Value} {w : World} {R : Value → World → Prop} (h : F258 a0 w R) : CALL Tryz.prog 258 [a0] w R :=
  call_of (g := cfg258) ent mixed Tryz.func258 (Nat.le_of_ble_eq_true (by kernel_rfl)) (by kernel_rfl) (F258_eq a0 w R ▸ h)
def F210 (a0 a1 : Value) (w : World) (R : Value → World → Prop) : Prop :=
 CALL Tryz.prog 258 [a0] w fun x8 w =>
 CALL Tryz.prog 258 [a1] w fun x10 w =>
 BR x8
 (BR x10
 (R (Value.int .i64 0) w)
 (R (Value.int .i64 (-1)) w))
 (BR x10
 (R (Value.int .i64 1) w)
 (RD Tryz.prog (bin .lss 3 (.tmp 0) (.tmp 0) a0 a1) w fun x16 =>
 BR x16
 (R (Value.int .i64 (-1)) w)
 (RD Tryz.prog (bin .gtr 3 (.tmp 0) (.tmp 0) a0 a1) w fun x19 =>
 BR x19
 (R (Value.int .i64 1) w)
 (R (Value.int .i64 0) w))))
def cfg210 : Cfg := { ext := extL, joins := [], loops := [], draws := [], pars := [] }
theorem F210_eq (a0 a1 : Value) (w : World) (R : Value → World → Prop) : vcF Tryz.prog cfg210 Tryz.f210 [a0, a1] w R = F210 a0 a1 w R := by kernel_rfl
theorem F210_call {a0 a1 : Value} {w : World} {R : Value → World → Prop} (h : F210 a0 a1 w R) : CALL Tryz.prog 210 [a0, a1] w R :=
  call_of (g := cfg210) ent mixed Tryz.func210 (Nat.le_of_ble_eq_true (by kernel_rfl)) (by kernel_rfl) (F210_eq a0 a1 w R ▸ h)
def F145 (a0 a1 : Value) (w : World) (R : Value → World → Prop) : Prop :=
 RD Tryz.prog (Builtin.len_ #[23] 3 [a0].toArray) w fun x10 =>
 LOOPI [11] [(Value.int .i64 0)] w fun u2 w next2 =>
 RD Tryz.prog (bin .lss 3 (.tmp 0) (.tmp 0) (u2 11) x10) w fun x12 =>
 BR x12
 (RD Tryz.prog (Instr.indexAt 23 a0 (u2 11)) w fun x14 =>
 RD Tryz.prog (Instr.loadAt 3 x14) w fun x15 =>
 RD Tryz.prog (Builtin.len_ #[23] 3 [a1].toArray) w fun x18 =>
 RD Tryz.prog (bin .geq 3 (.tmp 0) (.tmp 0) (u2 11) x18) w fun x19 =>
 BR x19
 (R (Value.int .i64 1) w)
 (RD Tryz.prog (Instr.indexAt 23 a1 (u2 11)) w fun x22 =>
 RD Tryz.prog (Instr.loadAt 3 x22) w fun x23 =>
 CALL Tryz.prog 210 [x15, x23] w fun x26 w =>
 RD Tryz.prog (bin .neq 3 (.tmp 0) (.const undef) x26 (Value.int .i64 0)) w fun x28 =>
 BR x28
 (R x26 w)
 (RD Tryz.prog (bin .add 3 (.tmp 0) (.const undef) (u2 11) (Value.int .i64 1)) w fun x30 =>
 next2 [x30] w)))
 (RD Tryz.prog (Builtin.len_ #[23] 3 [a0].toArray) w fun x32 =>
 RD Tryz.prog (Builtin.len_ #[23] 3 [a1].toArray) w fun x34 =>
 RD Tryz.prog (bin .lss 3 (.tmp 0) (.tmp 0) x32 x34) w fun x35 =>
 BR x35
 (R (Value.int .i64 (-1)) w)
 (R (Value.int .i64 0) w))
def cfg145 : Cfg := { ext := extL, joins := [], loops := [(2, 2147482096, [11])], draws := [], pars := [] }
theorem F145_eq (a0 a1 : Value) (w : World) (R : Value → World → Prop) : vcF Tryz.prog cfg145 Tryz.f145 [a0, a1] w R = F145 a0 a1 w R := by kernel_rfl
theorem F145_call {a0 a1 : Value} {w : World} {R : Value → World → Prop} (h : F145 a0 a1 w R) : CALL Tryz.prog 145 [a0, a1] w R :=
  call_of (g := cfg145) ent mixed Tryz.func145 (Nat.le_of_ble_eq_true (by kernel_rfl)) (by kernel_rfl) (F145_eq a0 a1 w R ▸ h)
def F170 (a0 a1 : Value) (w : World) (R : Value → World → Prop) : Prop :=
 OP Tryz.prog (Instr.box 109 a0) w fun x2 w =>
 OP Tryz.prog (Instr.box 109 a1) w fun x3 w =>
 RD Tryz.prog (Instr.fieldAt 109 x2 0) w fun x5 =>
 RD Tryz.prog (Instr.loadAt 3 x5) w fun x6 =>
 RD Tryz.prog (Instr.fieldAt 109 x2 1) w fun x7 =>
 RD Tryz.prog (Instr.loadAt 3 x7) w fun x8 =>
 RD Tryz.prog (Instr.fieldAt 109 x2 2) w fun x9 =>
 RD Tryz.prog (Instr.loadAt 3 x9) w fun x10 =>
 OP Tryz.prog (Instr.buildSlice 23 3 #[(0, x6), (1, x8), (2, x10)]) w fun x11 w =>
 RD Tryz.prog (Instr.fieldAt 109 x3 0) w fun x12 =>
 RD Tryz.prog (Instr.loadAt 3 x12) w fun x13 =>
 RD Tryz.prog (Instr.fieldAt 109 x3 1) w fun x14 =>
 RD Tryz.prog (Instr.loadAt 3 x14) w fun x15 =>
 RD Tryz.prog (Instr.fieldAt 109 x3 2) w fun x16 =>
 RD Tryz.prog (Instr.loadAt 3 x16) w fun x17 =>
 OP Tryz.prog (Instr.buildSlice 23 3 #[(0, x13), (1, x15), (2, x17)]) w fun x18 w =>
 CALL Tryz.prog 145 [x11, x18] w fun x19 w =>
 R x19 w
def cfg170 : Cfg := { ext := extL, joins := [], loops := [], draws := [], pars := [] }
theorem F170_eq (a0 a1 : Value) (w : World) (R : Value → World → Prop) : vcF Tryz.prog cfg170 Tryz.f170 [a0, a1] w R = F170 a0 a1 w R := by kernel_rfl
theorem F170_call {a0 a1 : Value} {w : World} {R : Value → World → Prop} (h : F170 a0 a1 w R) : CALL Tryz.prog 170 [a0, a1] w R :=
  call_of (g := cfg170) ent mixed Tryz.func170 (Nat.le_of_ble_eq_true (by kernel_rfl)) (by kernel_rfl) (F170_eq a0 a1 w R ▸ h)
set_option linter.unusedVariables false
set_option linter.unusedSimpArgs false
theorem zlIc : zeroL Tryz.prog 3 = some [.int .i64 0] := by kernel_rfl
def cmpI (x y : Int) : Int := if x < y then -1 else if y < x then 1 else 0
def cmpL : List Int → List Int → Int
  | [], [] => 0
  | [], _ :: _ => -1
  | _ :: _, [] => 1
  | x :: l, y :: m => if cmpI x y ≠ 0 then cmpI x y else cmpL l m
theorem isNaN_ok {w : World} {x : Int} : CALL Tryz.prog 258 [.int .i64 x] w fun r w' => w' = w ∧ r = .bool false := by
  refine F258_call ?_
  unfold F258
  exact rd_neq ⟨rfl, by simp⟩
theorem compareI_ok {w : World} {x y : Int} : CALL Tryz.prog 210 [.int .i64 x, .int .i64 y] w fun r w' => w' = w ∧ r = .int .i64 (cmpI x y) := by
  refine F210_call ?_
  unfold F210
  refine isNaN_ok.mono ?_
  rintro _ _ ⟨rfl, rfl⟩
  refine isNaN_ok.mono ?_
  rintro _ _ ⟨rfl, rfl⟩
  refine br_b (fun h => by cases h) (fun _ => ?_)
  refine br_b (fun h => by cases h) (fun _ => ?_)
  refine rd_lss ?_
  refine br (fun h => ⟨rfl, by rw [cmpI, if_pos h]⟩) (fun h => ?_)
  refine rd_gtr ?_
  refine br (fun h2 => ⟨rfl, by rw [cmpI, if_neg h, if_pos h2]⟩) (fun h2 => ⟨rfl, by rw [cmpI, if_neg h, if_neg h2]⟩)
theorem rd_lenV {P : Program} {w : World} {K : Value → Prop} {t ty e : TypeId} {a : Option Addr} {n c : Nat} (ht : P.underlying t = some (.slice e)) (k : K (.int .i64 (n : Int))) :
    RD P (Builtin.len_ #[t] ty [Value.slice a n c].toArray) w K := rd_of (fun w' _ => by simp [Builtin.len_, run_underlying ht]; rfl) k
def vI (l : List Int) : List Value := l.map fun x => .int .i64 x
theorem vI_get {l : List Int} {k : Nat} (h : k < l.length) : (vI l)[k]? = some (.int .i64 l[k]) := by simp [vI, h]
theorem cmpL_step {l m : List Int} {k : Nat} (h1 : k < l.length) (h2 : k < m.length) : cmpL (l.drop k) (m.drop k) = if cmpI l[k] m[k] ≠ 0 then cmpI l[k] m[k] else cmpL (l.drop (k + 1)) (m.drop (k + 1)) := by
  rw [List.drop_eq_getElem_cons h1, List.drop_eq_getElem_cons h2, cmpL]
theorem compareL_ok {w : World} {g1 g2 e1 e2 c1 c2 : Nat} {l m : List Int} (h1 : Blk g1 e1 w (vI l)) (h2 : Blk g2 e2 w (vI m)) (hl : l.length ≤ 1000) (hm : m.length ≤ 1000) :
    CALL Tryz.prog 145 [.slice (some ⟨g1, 0, none⟩) l.length c1, .slice (some ⟨g2, 0, none⟩) m.length c2] w fun r w' => w' = w ∧ r = .int .i64 (cmpL l m) := by
  refine F145_call ?_
  unfold F145
  refine rd_lenV u23 ?_
  refine loopC l.length (fun k us w' => us = [.int .i64 (k : Int)] ∧ w' = w ∧ k ≤ m.length ∧ cmpL l m = cmpL (l.drop k) (m.drop k)) 0 (Nat.zero_le _) ⟨rfl, rfl, Nat.zero_le _, rfl⟩ ?_
  rintro k mk u w2 hkm ⟨hu, rfl, hkl, hc⟩
  simp only [List.map_cons, List.map_nil, List.cons.injEq, and_true] at hu
  rw [hu]
  refine rd_lss ?_
  refine br (fun hlt => ?_) (fun hge => ?_)
  · have hk1 : k < l.length := by omega
    refine rd_indexG u23 ty3 hk1 ?_
    rw [Nat.mul_one]
    refine rd_blkV ty3 h1 (vI_get hk1) ?_
    refine rd_lenV u23 ?_
    refine rd_geq ?_
    refine br (fun hge => ?_) (fun hlt2 => ?_)
    · refine ⟨rfl, ?_⟩
      have e0 : m.drop k = [] := List.drop_eq_nil_of_le (by omega)
      rw [hc, List.drop_eq_getElem_cons hk1, e0]; rfl
    · have hk2 : k < m.length := by omega
      refine rd_indexG u23 ty3 hk2 ?_
      rw [Nat.mul_one]
      refine rd_blkV ty3 h2 (vI_get hk2) ?_
      refine compareI_ok.mono ?_
      rintro _ _ ⟨rfl, rfl⟩
      have hst := cmpL_step hk1 hk2
      refine rd_neq ?_
      refine br (fun hne => ?_) (fun heq => ?_)
      · exact ⟨rfl, by rw [hc, hst, if_pos hne]⟩
      · refine rd_inc (by omega) ?_
        exact ⟨mk - 1, by omega, k + 1, by omega, rfl, rfl, by omega, by rw [hc, hst, if_neg heq]⟩
  · have hk : k = l.length := by omega
    subst hk
    refine rd_lenV u23 ?_
    refine rd_lenV u23 ?_
    refine rd_lss ?_
    rw [List.drop_length] at hc
    refine br (fun hlt2 => ⟨rfl, ?_⟩) (fun hge2 => ⟨rfl, ?_⟩)
    · rw [hc, List.drop_eq_getElem_cons (by omega)]; rfl
    · rw [hc, List.drop_eq_nil_of_le (by omega)]; rfl
section
variable {P : Program} {w : World} {K : Value → World → Prop}
theorem op_boxE {t : TypeId} {cs : Array Value} (k : K (.pointer (some ⟨w.heap.size, 0, none⟩)) (w.alloc (.cells cs t))) : OP P (Instr.box t (.agg cs)) w K :=
  ⟨_, w.alloc (.cells cs t), by simp [Instr.box, newVar, newRow, Value.cells], k⟩
theorem op_build3E {t e : TypeId} {by_ : Nat} {x y z : Int} (ht : P.underlying t = some (.slice e)) (he : tyI P e = some (1, by_, false)) (hz : zeroL P e = some [.int .i64 0])
    (k : K (.slice (some ⟨w.heap.size, 0, none⟩) 3 3) (w.alloc (.cells (vI [x, y, z]).toArray e))) : OP P (Instr.buildSlice t 3 #[(0, .int .i64 x), (1, .int .i64 y), (2, .int .i64 z)]) w K := by
  unfold zeroL at hz
  cases hi : P.info? e with
  | none => simp [hi] at hz
  | some i =>
    simp only [hi] at hz
    obtain ⟨v, hv, hvc⟩ := Option.map_eq_some_iff.1 hz
    refine ⟨_, w.alloc (.cells (vI [x, y, z]).toArray e), ?_, k⟩
    have hvc' : v.cells = #[.int .i64 0] := Array.ext' (by simpa using hvc)
    have e1 : ∀ n : Int, (Value.int .i64 n).cells = #[.int .i64 n] := fun _ => rfl
    simp only [Instr.buildSlice, Sem.run_bind, run_underlying ht, Result.andThen_ok, run_sizeOf' he]
    have e2 : Array.range 3 = #[0, 1, 2] := by decide
    simp [zeroValue, typeInfo, hi, hv, newRow, Instr.fill, hvc', vI, e1, e2]
end
def i3 (a b c : Int) : Array Value := #[.int .i64 a, .int .i64 b, .int .i64 c]
def GrowsTo (w w' : World) : Prop := ∃ q os, w' = Go.Sort.grow (w.drewN q) os
theorem grows_allocs {w : World} (o1 o2 o3 o4 : Obj) : GrowsTo w ((((w.alloc o1).alloc o2).alloc o3).alloc o4) :=
  ⟨0, #[o1] ++ #[o2] ++ #[o3] ++ #[o4], by
    rw [Go.Sort.alloc_eq_grow, Go.Sort.alloc_eq_grow, Go.Sort.alloc_eq_grow, Go.Sort.alloc_eq_grow, Go.Sort.grow_grow, Go.Sort.grow_grow, Go.Sort.grow_grow]; rfl⟩
def raceI (x : DRace) : List Int := [x.g, x.a, x.b]
def cmpR (x y : DRace) : Int := cmpL (raceI x) (raceI y)
theorem compareRaces_ok {w : World} {x y : DRace} : CALL Tryz.prog 170 [.agg (i3 x.g x.a x.b), .agg (i3 y.g y.a y.b)] w fun r w' => r = .int .i64 (cmpR x y) ∧ GrowsTo w w' := by
  refine F170_call ?_
  unfold F170
  refine op_boxE ?_
  have hB1 : Blk w.heap.size 109 (w.alloc (.cells (i3 x.g x.a x.b) 109)) (vI (raceI x)) := heap_alloc_new w _
  refine op_boxE ?_
  generalize hw1 : w.alloc (.cells (i3 x.g x.a x.b) 109) = w1 at *
  have hB2 : Blk w1.heap.size 109 (w1.alloc (.cells (i3 y.g y.a y.b) 109)) (vI (raceI y)) := heap_alloc_new w1 _
  have hx2 := ext_alloc w1 (.cells (i3 y.g y.a y.b) 109)
  generalize hw2 : w1.alloc (.cells (i3 y.g y.a y.b) 109) = w2 at *
  have hB12 := hB1.ext hx2
  refine rd_fld fd109_0 ?_
  refine rd_blkV ty3 hB12 rfl ?_
  refine rd_fld fd109_1 ?_
  refine rd_blkV ty3 hB12 rfl ?_
  refine rd_fld fd109_2 ?_
  refine rd_blkV ty3 hB12 rfl ?_
  refine op_build3E u23 ty3 zlIc ?_
  have hx3 := ext_alloc w2 (.cells (vI [x.g, x.a, x.b]).toArray 3)
  have hB3 : Blk w2.heap.size 3 (w2.alloc (.cells (vI [x.g, x.a, x.b]).toArray 3)) (vI (raceI x)) := heap_alloc_new w2 _
  generalize hw3 : w2.alloc (.cells (vI [x.g, x.a, x.b]).toArray 3) = w3 at *
  have hB23 := hB2.ext hx3
  refine rd_fld fd109_0 ?_
  refine rd_blkV ty3 hB23 rfl ?_
  refine rd_fld fd109_1 ?_
  refine rd_blkV ty3 hB23 rfl ?_
  refine rd_fld fd109_2 ?_
  refine rd_blkV ty3 hB23 rfl ?_
  refine op_build3E u23 ty3 zlIc ?_
  have hx4 := ext_alloc w3 (.cells (vI [y.g, y.a, y.b]).toArray 3)
  have hB4 : Blk w3.heap.size 3 (w3.alloc (.cells (vI [y.g, y.a, y.b]).toArray 3)) (vI (raceI y)) := heap_alloc_new w3 _
  have hg : GrowsTo w (w3.alloc (.cells (vI [y.g, y.a, y.b]).toArray 3)) := by rw [← hw3, ← hw2, ← hw1]; exact grows_allocs _ _ _ _
  refine (compareL_ok (l := raceI x) (m := raceI y) (hB3.ext hx4) hB4 (by simp [raceI]) (by simp [raceI])).mono ?_
  rintro _ _ ⟨rfl, rfl⟩
  exact ⟨rfl, hg⟩
def ltR (x y : DRace) : Prop := x.g < y.g ∨ (x.g = y.g ∧ (x.a < y.a ∨ (x.a = y.a ∧ x.b < y.b)))
theorem cmpI_lt {x y : Int} (h : x < y) : cmpI x y = -1 := by rw [cmpI, if_pos h]
theorem cmpI_gt {x y : Int} (h : y < x) : cmpI x y = 1 := by rw [cmpI, if_neg (by omega), if_pos h]
theorem cmpI_eq {x y : Int} (h : x = y) : cmpI x y = 0 := by rw [cmpI, if_neg (by omega), if_neg (by omega)]
theorem cmpR_lt {x y : DRace} : cmpR x y < 0 ↔ ltR x y := by
  unfold cmpR raceI ltR
  simp only [cmpL]
  rcases Int.lt_trichotomy x.g y.g with h | h | h
  · rw [cmpI_lt h]; simp; omega
  · rw [cmpI_eq h]
    rcases Int.lt_trichotomy x.a y.a with h2 | h2 | h2
    · rw [cmpI_lt h2]; simp; omega
    · rw [cmpI_eq h2]
      rcases Int.lt_trichotomy x.b y.b with h3 | h3 | h3
      · rw [cmpI_lt h3]; simp; omega
      · rw [cmpI_eq h3]; simp; omega
      · rw [cmpI_gt h3]; simp; omega
    · rw [cmpI_gt h2]; simp; omega
  · rw [cmpI_gt h]; simp; omega
end Go.Proofs.YtjgfldfbljmhhaaGreat
namespace Go.Proofs.YtjgfldfbljmhhaaGreat
open Go Go.Sh Go.Proofs
set_option linter.unusedVariables false
def F163 (a0 a1 : Value) (w : World) (R : Value → World → Prop) : Prop :=
 OP Tryz.prog (Instr.box 177 a0) w fun x2 w =>
 OP Tryz.prog (Instr.box 177 a1) w fun x3 w =>
 OP Tryz.prog (Instr.alloc 109 true (.tuple #[])) w fun x4 w =>
 RD Tryz.prog (Instr.fieldAt 177 x2 1) w fun x5 =>
 RD Tryz.prog (Instr.loadAt 3 x5) w fun x6 =>
 RD Tryz.prog (Instr.fieldAt 177 x2 0) w fun x7 =>
 RD Tryz.prog (Instr.loadAt 3 x7) w fun x8 =>
 RD Tryz.prog (Instr.fieldAt 177 x3 0) w fun x9 =>
 RD Tryz.prog (Instr.loadAt 3 x9) w fun x10 =>
 RD Tryz.prog (Builtin.min_ #[3, 3] 3 [x8, x10].toArray) w fun x11 =>
 RD Tryz.prog (Instr.fieldAt 177 x2 0) w fun x12 =>
 RD Tryz.prog (Instr.loadAt 3 x12) w fun x13 =>
 RD Tryz.prog (Instr.fieldAt 177 x3 0) w fun x14 =>
 RD Tryz.prog (Instr.loadAt 3 x14) w fun x15 =>
 RD Tryz.prog (Builtin.max_ #[3, 3] 3 [x13, x15].toArray) w fun x16 =>
 RD Tryz.prog (Instr.build 109 #[(0, x6), (1, x11), (2, x16)]) w fun x17 =>
 OPU Tryz.prog (Instr.storeAt 109 x4 x17) w fun w =>
 RD Tryz.prog (loadRes 109 x4) w fun r4 => R r4 w
def cfg163 : Cfg := { ext := extL, joins := [], loops := [], draws := [], pars := [] }
theorem F163_eq (a0 a1 : Value) (w : World) (R : Value → World → Prop) : vcF Tryz.prog cfg163 Tryz.f163 [a0, a1] w R = F163 a0 a1 w R := by kernel_rfl
theorem F163_call {a0 a1 : Value} {w : World} {R : Value → World → Prop} (h : F163 a0 a1 w R) : CALL Tryz.prog 163 [a0, a1] w R :=
  call_of (g := cfg163) ent mixed Tryz.func163 (Nat.le_of_ble_eq_true (by kernel_rfl)) (by kernel_rfl) (F163_eq a0 a1 w R ▸ h)
set_option linter.unusedVariables false
set_option linter.unusedSimpArgs false
def F227 (a0 : Value) (w : World) (R : Value → World → Prop) : Prop :=
 RD Tryz.prog (bin .geq 3 (.tmp 0) (.const undef) a0 (Value.int .i64 0)) w fun x4 =>
 BR x4
 (RD Tryz.prog (bin .leq 3 (.tmp 0) (.const undef) a0 (Value.int .i64 63)) w fun x7 =>
 R x7 w)
 (R (Value.bool false) w)
def cfg227 : Cfg := { ext := extL, joins := [], loops := [], draws := [], pars := [] }
theorem F227_eq (a0 : Value) (w : World) (R : Value → World → Prop) : vcF Tryz.prog cfg227 Tryz.f227 [a0] w R = F227 a0 w R := by kernel_rfl
theorem F227_call {a0 : Value} {w : World} {R : Value → World → Prop} (h : F227 a0 w R) : CALL Tryz.prog 227 [a0] w R :=
  call_of (g := cfg227) ent mixed Tryz.func227 (Nat.le_of_ble_eq_true (by kernel_rfl)) (by kernel_rfl) (F227_eq a0 w R ▸ h)
theorem isSet_ok {w : World} {n : Int}    :
    CALL Tryz.prog 227 [.int .i64 n] w fun r w' => Ext w w' ∧ (r = .bool (decide (0 ≤ n ∧ n ≤ 63))) := by
  refine F227_call ?_
  unfold F227
  refine rd_geq ?_
  refine br (fun c1 => ?_) (fun c1 => ?_)
  · refine rd_leq ?_
    refine ⟨Ext.refl w, ?_⟩
    simp [c1]
  · refine ⟨Ext.refl w, ?_⟩
    simp [c1]
def clashP (a b : DTouch) : Prop := a.global = b.global ∧ (a.write = true ∨ b.write = true) ∧ (0 ≤ a.held ∧ a.held ≤ 63) ∧ (0 ≤ b.held ∧ b.held ≤ 63) ∧ a.held.toNat &&& b.held.toNat = 0
instance (a b : DTouch) : Decidable (clashP a b) := by unfold clashP; infer_instance
def F162 (a0 a1 : Value) (w : World) (R : Value → World → Prop) : Prop :=
 OP Tryz.prog (Instr.box 177 a0) w fun x2 w =>
 OP Tryz.prog (Instr.box 177 a1) w fun x3 w =>
 JOIN [] (fun J3 =>
 RD Tryz.prog (Instr.fieldAt 177 x2 1) w fun x5 =>
 RD Tryz.prog (Instr.loadAt 3 x5) w fun x6 =>
 RD Tryz.prog (Instr.fieldAt 177 x3 1) w fun x7 =>
 RD Tryz.prog (Instr.loadAt 3 x7) w fun x8 =>
 RD Tryz.prog (bin .neq 3 (.tmp 0) (.tmp 0) x6 x8) w fun x9 =>
 BR x9
 (R (Value.bool false) w)
 (RD Tryz.prog (Instr.fieldAt 177 x2 2) w fun x11 =>
 RD Tryz.prog (Instr.loadAt 4 x11) w fun x12 =>
 RD Tryz.prog (Op.unary .not x12) w fun x13 =>
 GBR x13
 (RD Tryz.prog (Instr.fieldAt 177 x3 2) w fun x15 =>
 RD Tryz.prog (Instr.loadAt 4 x15) w fun x16 =>
 RD Tryz.prog (Op.unary .not x16) w fun x17 =>
 BR x17
 (R (Value.bool false) w)
 (J3 [] w))
 (J3 [] w)
 (BR undef
 (BR undef
 (R (Value.bool false) w)
 (J3 [] w))
 (J3 [] w)))) (fun u3 w =>
 RD Tryz.prog (Instr.fieldAt 177 x2 3) w fun x20 =>
 RD Tryz.prog (Instr.loadAt 3 x20) w fun x21 =>
 CALL Tryz.prog 227 [x21] w fun x22 w =>
 BR x22
 (RD Tryz.prog (Instr.fieldAt 177 x3 3) w fun x24 =>
 RD Tryz.prog (Instr.loadAt 3 x24) w fun x25 =>
 CALL Tryz.prog 227 [x25] w fun x26 w =>
 BR x26
 (RD Tryz.prog (Instr.fieldAt 177 x2 3) w fun x29 =>
 RD Tryz.prog (Instr.loadAt 3 x29) w fun x30 =>
 RD Tryz.prog (Instr.fieldAt 177 x3 3) w fun x31 =>
 RD Tryz.prog (Instr.loadAt 3 x31) w fun x32 =>
 RD Tryz.prog (bin .and 3 (.tmp 0) (.tmp 0) x30 x32) w fun x33 =>
 RD Tryz.prog (bin .eql 3 (.tmp 0) (.const undef) x33 (Value.int .i64 0)) w fun x34 =>
 R x34 w)
 (R (Value.bool false) w))
 (R (Value.bool false) w))
def cfg162 : Cfg := { ext := extL, joins := [(3, 1048560, [])], loops := [], draws := [], pars := [] }
theorem F162_eq (a0 a1 : Value) (w : World) (R : Value → World → Prop) : vcF Tryz.prog cfg162 Tryz.f162 [a0, a1] w R = F162 a0 a1 w R := by kernel_rfl
theorem F162_call {a0 a1 : Value} {w : World} {R : Value → World → Prop} (h : F162 a0 a1 w R) : CALL Tryz.prog 162 [a0, a1] w R :=
  call_of (g := cfg162) ent mixed Tryz.func162 (Nat.le_of_ble_eq_true (by kernel_rfl)) (by kernel_rfl) (F162_eq a0 a1 w R ▸ h)
theorem clash_ok {w : World} {v0 : Value} {W0 : World} {a : DTouch} {v1 : Value} {W1 : World} {b : DTouch}  (h0 : Is W0 v0 a) (e0 : Ext W0 w) (h1 : Is W1 v1 b) (e1 : Ext W1 w)  :
    CALL Tryz.prog 162 [v0, v1] w fun r w' => Ext w w' ∧ (r = .bool (decide (clashP a b))) := by
  refine F162_call ?_
  unfold F162
  refine op_boxS ty177 rfl h0 e0 fun w1_ hx1_ hA2 hV2 => ?_
  refine op_boxS ty177 rfl h1 (e1.trans hx1_) fun w2_ hx2_ hA3 hV3 => ?_
  refine JOIN.mk (fun us w' => us = [] ∧ Ext w2_ w' ∧ (a.global = b.global ∧ (a.write = true ∨ b.write = true))) ?_ ?_
  · refine rd_fld fd177_1 ?_
    refine rd_loadI ty3 (at_DTouch_1 hA2) hx2_ fun hI6 => ?_
    refine rd_fld fd177_1 ?_
    refine rd_loadI ty3 (at_DTouch_1 hA3) (Ext.refl w2_) fun hI8 => ?_
    refine rd_neq ?_
    refine br (fun c1 => ?_) (fun c1 => ?_)
    · refine ⟨(hx1_.trans hx2_), ?_⟩
      have : ¬ clashP a b := fun h => c1 h.1
      simp only [this, decide_false]
    · refine rd_fld fd177_2 ?_
      refine rd_loadB ty4 (at_DTouch_2 hA2) hx2_ ?_
      refine rd_not ?_
      refine gbr_b (fun c2 => ?_) (fun c2 => ?_)
      · refine rd_fld fd177_2 ?_
        refine rd_loadB ty4 (at_DTouch_2 hA3) (Ext.refl w2_) ?_
        refine rd_not ?_
        refine br_b (fun c3 => ?_) (fun c3 => ?_)
        · refine ⟨(hx1_.trans hx2_), ?_⟩
          have : ¬ clashP a b := fun h => by rcases h.2.1 with h | h <;> simp_all
          simp only [this, decide_false]
        · refine ⟨by simp, Ext.refl w2_, ?_⟩
          exact ⟨by omega, .inr (by simpa using c3)⟩
      · refine ⟨by simp, Ext.refl w2_, ?_⟩
        exact ⟨by omega, .inl (by simpa using c2)⟩
  · rintro uj3 w3_ ⟨hu, hx3_, hgl, hwr⟩
    simp only [List.map_cons, List.map_nil, List.cons.injEq, and_true] at hu
    clear hu
    refine rd_fld fd177_3 ?_
    refine rd_loadI ty3 (at_DTouch_3 hA2) (hx2_.trans hx3_) fun hI21 => ?_
    refine (isSet_ok ).mono ?_
    rintro _ w4_ ⟨hx4_, rfl⟩
    refine br (fun c4 => ?_) (fun c4 => ?_)
    · refine rd_fld fd177_3 ?_
      refine rd_loadI ty3 (at_DTouch_3 hA3) (hx3_.trans hx4_) fun hI25 => ?_
      refine (isSet_ok ).mono ?_
      rintro _ w5_ ⟨hx5_, rfl⟩
      refine br (fun c5 => ?_) (fun c5 => ?_)
      · refine rd_fld fd177_3 ?_
        refine rd_loadI ty3 (at_DTouch_3 hA2) (hx2_.trans (hx3_.trans (hx4_.trans hx5_))) fun hI30 => ?_
        refine rd_fld fd177_3 ?_
        refine rd_loadI ty3 (at_DTouch_3 hA3) (hx3_.trans (hx4_.trans hx5_)) fun hI32 => ?_
        obtain ⟨m, hm⟩ := Int.eq_ofNat_of_zero_le c4.1
        obtain ⟨n, hn⟩ := Int.eq_ofNat_of_zero_le c5.1
        rw [hm, hn]
        refine rd_and (by omega) (by omega) ?_
        refine rd_eql ?_
        refine ⟨(hx1_.trans (hx2_.trans (hx3_.trans (hx4_.trans hx5_)))), ?_⟩
        have : clashP a b ↔ m &&& n = 0 := by
          have e1 : a.held.toNat = m := by omega
          have e2 : b.held.toNat = n := by omega
          unfold clashP
          rw [e1, e2]
          exact ⟨fun h => h.2.2.2.2, fun h => ⟨hgl, hwr, c4, c5, h⟩⟩
        congr 1
        rw [decide_eq_decide, this]
        omega
      · refine ⟨(hx1_.trans (hx2_.trans (hx3_.trans (hx4_.trans hx5_)))), ?_⟩
        have : ¬ clashP a b := fun h => c5 h.2.2.2.1
        simp only [this, decide_false]
    · refine ⟨(hx1_.trans (hx2_.trans (hx3_.trans hx4_))), ?_⟩
      have : ¬ clashP a b := fun h => c4 h.2.2.1
      simp only [this, decide_false]
def raceOf (a b : DTouch) : DRace := ⟨a.global, min a.at_ b.at_, max a.at_ b.at_⟩
theorem raceOf_ok {w W0 W1 : World} {v0 v1 : Value} {a b : DTouch} (h0 : Is W0 v0 a) (e0 : Ext W0 w) (h1 : Is W1 v1 b) (e1 : Ext W1 w) :
    CALL Tryz.prog 163 [v0, v1] w fun r w' => Ext w w' ∧ ∀ lo hi, OwnI lo hi w' r (raceOf a b) := by
  refine F163_call ?_
  unfold F163
  refine op_box h0 e0 fun w1 hx1 hA => ?_
  refine op_box h1 (e1.trans hx1) fun w2 hx2 hB => ?_
  refine op_varZ (α := DRace) zl109 fun w3 hx3 hv => ?_
  have hs1 := hx1.size
  have hs2 := hx2.size
  have hs3 := hx3.size
  have hx23 := hx2.trans hx3
  refine rd_fld fd177_1 ?_
  refine rd_loadI ty3 (at_DTouch_1 hA) hx23 fun hI6 => ?_
  refine rd_fld fd177_0 ?_
  refine rd_loadI ty3 (at_DTouch_0 hA) hx23 fun hI8 => ?_
  refine rd_fld fd177_0 ?_
  refine rd_loadI ty3 (at_DTouch_0 hB) hx3 fun hI10 => ?_
  refine rd_min ?_
  refine rd_fld fd177_0 ?_
  refine rd_loadI ty3 (at_DTouch_0 hA) hx23 fun _ => ?_
  refine rd_fld fd177_0 ?_
  refine rd_loadI ty3 (at_DTouch_0 hB) hx3 fun _ => ?_
  refine rd_max ?_
  have hm : ∀ (w : World) lo hi, OwnI lo hi w (.agg #[.int .i64 a.global, .int .i64 (min a.at_ b.at_), .int .i64 (max a.at_ b.at_)]) (raceOf a b) := fun w lo hi => ⟨[], mine_race (x := raceOf a b) hI6 (by unfold I64 raceOf at *; simp only; omega) (by unfold I64 raceOf at *; simp only; omega), by simp⟩
  refine rd_build (cells := #[.int .i64 a.global, .int .i64 (min a.at_ b.at_), .int .i64 (max a.at_ b.at_)]) (by kernel_rfl) ?_
  have hg := hv.lt
  refine opu_varA (lo := w3.heap.size) (hi := w3.heap.size) ty109 hv (hm w3 _ _) (by omega) fun w4 hc4 hv4 => ?_
  have hs4 := hc4.size
  refine rd_varRI ty109 hv4 (Ext.refl _) fun r hr => ?_
  refine ⟨Ext.chgI (hx1.trans hx23) hc4 (by omega), fun lo hi => ?_⟩
  obtain ⟨F, hM, _⟩ := hr
  obtain ⟨cs, h, _⟩ := hM.own
  have hF := Flat.flat h
  subst hF
  exact ⟨[], hM, by simp⟩
instance (x y : DRace) : Decidable (ltR x y) := by unfold ltR; infer_instance
def F156 (a0 a1 : Value) (w : World) (R : Value → World → Prop) : Prop :=
 OP Tryz.prog (Instr.box 109 a0) w fun x2 w =>
 OP Tryz.prog (Instr.box 109 a1) w fun x3 w =>
 RD Tryz.prog (Instr.fieldAt 109 x2 0) w fun x5 =>
 RD Tryz.prog (Instr.loadAt 3 x5) w fun x6 =>
 RD Tryz.prog (Instr.fieldAt 109 x3 0) w fun x7 =>
 RD Tryz.prog (Instr.loadAt 3 x7) w fun x8 =>
 RD Tryz.prog (bin .neq 3 (.tmp 0) (.tmp 0) x6 x8) w fun x9 =>
 BR x9
 (RD Tryz.prog (Instr.fieldAt 109 x2 0) w fun x10 =>
 RD Tryz.prog (Instr.loadAt 3 x10) w fun x11 =>
 RD Tryz.prog (Instr.fieldAt 109 x3 0) w fun x12 =>
 RD Tryz.prog (Instr.loadAt 3 x12) w fun x13 =>
 RD Tryz.prog (bin .lss 3 (.tmp 0) (.tmp 0) x11 x13) w fun x14 =>
 R x14 w)
 (RD Tryz.prog (Instr.fieldAt 109 x2 1) w fun x15 =>
 RD Tryz.prog (Instr.loadAt 3 x15) w fun x16 =>
 RD Tryz.prog (Instr.fieldAt 109 x3 1) w fun x17 =>
 RD Tryz.prog (Instr.loadAt 3 x17) w fun x18 =>
 RD Tryz.prog (bin .neq 3 (.tmp 0) (.tmp 0) x16 x18) w fun x19 =>
 BR x19
 (RD Tryz.prog (Instr.fieldAt 109 x2 1) w fun x20 =>
 RD Tryz.prog (Instr.loadAt 3 x20) w fun x21 =>
 RD Tryz.prog (Instr.fieldAt 109 x3 1) w fun x22 =>
 RD Tryz.prog (Instr.loadAt 3 x22) w fun x23 =>
 RD Tryz.prog (bin .lss 3 (.tmp 0) (.tmp 0) x21 x23) w fun x24 =>
 R x24 w)
 (RD Tryz.prog (Instr.fieldAt 109 x2 2) w fun x25 =>
 RD Tryz.prog (Instr.loadAt 3 x25) w fun x26 =>
 RD Tryz.prog (Instr.fieldAt 109 x3 2) w fun x27 =>
 RD Tryz.prog (Instr.loadAt 3 x27) w fun x28 =>
 RD Tryz.prog (bin .lss 3 (.tmp 0) (.tmp 0) x26 x28) w fun x29 =>
 R x29 w))
def cfg156 : Cfg := { ext := extL, joins := [], loops := [], draws := [], pars := [] }
theorem F156_eq (a0 a1 : Value) (w : World) (R : Value → World → Prop) : vcF Tryz.prog cfg156 Tryz.f156 [a0, a1] w R = F156 a0 a1 w R := by kernel_rfl
theorem F156_call {a0 a1 : Value} {w : World} {R : Value → World → Prop} (h : F156 a0 a1 w R) : CALL Tryz.prog 156 [a0, a1] w R :=
  call_of (g := cfg156) ent mixed Tryz.func156 (Nat.le_of_ble_eq_true (by kernel_rfl)) (by kernel_rfl) (F156_eq a0 a1 w R ▸ h)
theorem raceLess_ok {w : World} {v0 : Value} {W0 : World} {x : DRace} {v1 : Value} {W1 : World} {y : DRace}  (h0 : Is W0 v0 x) (e0 : Ext W0 w) (h1 : Is W1 v1 y) (e1 : Ext W1 w)  :
    CALL Tryz.prog 156 [v0, v1] w fun r w' => Ext w w' ∧ (r = .bool (decide (ltR x y))) := by
  refine F156_call ?_
  unfold F156
  refine op_boxS ty109 rfl h0 e0 fun w1_ hx1_ hA2 hV2 => ?_
  refine op_boxS ty109 rfl h1 (e1.trans hx1_) fun w2_ hx2_ hA3 hV3 => ?_
  refine rd_fld fd109_0 ?_
  refine rd_loadI ty3 (at_DRace_0 hA2) hx2_ fun hI6 => ?_
  refine rd_fld fd109_0 ?_
  refine rd_loadI ty3 (at_DRace_0 hA3) (Ext.refl w2_) fun hI8 => ?_
  refine rd_neq ?_
  refine br (fun c1 => ?_) (fun c1 => ?_)
  · refine rd_fld fd109_0 ?_
    refine rd_loadI ty3 (at_DRace_0 hA2) hx2_ fun hI11 => ?_
    refine rd_fld fd109_0 ?_
    refine rd_loadI ty3 (at_DRace_0 hA3) (Ext.refl w2_) fun hI13 => ?_
    refine rd_lss ?_
    refine ⟨(hx1_.trans hx2_), ?_⟩
    congr 1
    rw [decide_eq_decide]
    unfold ltR
    omega
  · refine rd_fld fd109_1 ?_
    refine rd_loadI ty3 (at_DRace_1 hA2) hx2_ fun hI16 => ?_
    refine rd_fld fd109_1 ?_
    refine rd_loadI ty3 (at_DRace_1 hA3) (Ext.refl w2_) fun hI18 => ?_
    refine rd_neq ?_
    refine br (fun c2 => ?_) (fun c2 => ?_)
    · refine rd_fld fd109_1 ?_
      refine rd_loadI ty3 (at_DRace_1 hA2) hx2_ fun hI21 => ?_
      refine rd_fld fd109_1 ?_
      refine rd_loadI ty3 (at_DRace_1 hA3) (Ext.refl w2_) fun hI23 => ?_
      refine rd_lss ?_
      refine ⟨(hx1_.trans hx2_), ?_⟩
      congr 1
      rw [decide_eq_decide]
      unfold ltR
      omega
    · refine rd_fld fd109_2 ?_
      refine rd_loadI ty3 (at_DRace_2 hA2) hx2_ fun hI26 => ?_
      refine rd_fld fd109_2 ?_
      refine rd_loadI ty3 (at_DRace_2 hA3) (Ext.refl w2_) fun hI28 => ?_
      refine rd_lss ?_
      refine ⟨(hx1_.trans hx2_), ?_⟩
      congr 1
      rw [decide_eq_decide]
      unfold ltR
      omega
theorem ltR_irrefl (x : DRace) : ¬ ltR x x := by unfold ltR; omega
theorem ltR_trans {x y z : DRace} (h : ltR x y) (k : ltR y z) : ltR x z := by unfold ltR at *; omega
theorem ltR_total {x y : DRace} (h : ¬ ltR x y) (k : ¬ ltR y x) : x = y := by
  unfold ltR at *
  exact DRace.ext_iff.2 ⟨by omega, by omega, by omega⟩
def putR (r : DRace) : List DRace → List DRace
  | [] => [r]
  | x :: l => if ltR x r then x :: putR r l else if x = r then x :: l else r :: x :: l
def ahd (r : DRace) : List DRace → Nat
  | [] => 0
  | x :: l => if ltR x r then ahd r l + 1 else 0
theorem putR_ahd (r : DRace) : ∀ l, putR r l = if h : ahd r l < l.length then (if l[ahd r l] = r then l else l.take (ahd r l) ++ (r :: l.drop (ahd r l))) else l ++ [r]
  | [] => rfl
  | x :: l => by
    rw [putR]
    by_cases h : ltR x r
    · have e : ahd r (x :: l) = ahd r l + 1 := by rw [ahd, if_pos h]
      rw [if_pos h, putR_ahd r l]
      by_cases h2 : ahd r l < l.length
      · rw [dif_pos h2, dif_pos (by rw [e]; simpa using h2)]
        have e2 : (x :: l)[ahd r (x :: l)]'(by rw [e]; simpa using h2) = l[ahd r l] := by simp [e]
        rw [e2]
        split
        · rfl
        · simp [e]
      · rw [dif_neg h2, dif_neg (by rw [e]; simpa using h2)]; rfl
    · have e : ahd r (x :: l) = 0 := by rw [ahd, if_neg h]
      rw [if_neg h, dif_pos (by rw [e]; simp)]
      have e2 : (x :: l)[ahd r (x :: l)]'(by rw [e]; simp) = x := by simp [e]
      rw [e2]
      split
      · rfl
      · simp [e]
theorem ahd_at {r : DRace} : ∀ {l : List DRace} {k : Nat} (hk : k ≤ l.length), (∀ j (h : j < k), ltR (l[j]'(by omega)) r) → (∀ h : k < l.length, ¬ ltR l[k] r) → ahd r l = k
  | [], 0, _, _, _ => rfl
  | x :: l, 0, _, _, h => by
    have h' : ¬ ltR x r := h (by simp)
    rw [ahd, if_neg h']
  | x :: l, k + 1, hk, h1, h2 => by
    have e : ltR x r := h1 0 (by omega)
    rw [ahd, if_pos e, ahd_at (k := k) (by simpa using hk) (fun j hj => h1 (j + 1) (by omega)) fun h => h2 (by simpa using h)]
theorem putR_mem {r x : DRace} : ∀ {l : List DRace}, x ∈ putR r l ↔ x = r ∨ x ∈ l
  | [] => by simp [putR]
  | y :: l => by
    rw [putR]
    split
    · rw [List.mem_cons, putR_mem, List.mem_cons]; exact ⟨fun h => by rcases h with h | h | h <;> simp [h], fun h => by rcases h with h | h | h <;> simp [h]⟩
    · split
      · rename_i h; subst h; simp
      · simp
theorem putR_sorted {r : DRace} : ∀ {l : List DRace}, l.Pairwise ltR → (putR r l).Pairwise ltR
  | [], _ => by simp [putR]
  | y :: l, h => by
    rw [List.pairwise_cons] at h
    rw [putR]
    split
    · rename_i hy
      refine List.pairwise_cons.2 ⟨fun z hz => ?_, putR_sorted h.2⟩
      rcases putR_mem.1 hz with rfl | hz
      · exact hy
      · exact h.1 z hz
    · rename_i hy
      split
      · exact List.pairwise_cons.2 h
      · rename_i hne
        have hry : ltR r y := Decidable.byContradiction fun hc => hne (ltR_total hy hc)
        refine List.pairwise_cons.2 ⟨fun z hz => ?_, List.pairwise_cons.2 h⟩
        rcases List.mem_cons.1 hz with rfl | hz
        · exact hry
        · exact ltR_trans hry (h.1 z hz)
theorem sorted_ext : ∀ {l m : List DRace}, l.Pairwise ltR → m.Pairwise ltR → (∀ x, x ∈ l ↔ x ∈ m) → l = m
  | [], [], _, _, _ => rfl
  | [], y :: m, _, _, h => by have := (h y).2 (by simp); cases this
  | x :: l, [], _, _, h => by have := (h x).1 (by simp); cases this
  | x :: l, y :: m, h1, h2, h => by
    rw [List.pairwise_cons] at h1 h2
    have hxy : x = y := by
      rcases List.mem_cons.1 ((h x).1 (by simp)) with e | hm
      · exact e
      · rcases List.mem_cons.1 ((h y).2 (by simp)) with e | hl
        · exact e.symm
        · exact absurd (ltR_trans (h1.1 y hl) (h2.1 x hm)) (ltR_irrefl x)
    subst hxy
    congr 1
    refine sorted_ext h1.2 h2.2 fun z => ⟨fun hz => ?_, fun hz => ?_⟩
    · rcases List.mem_cons.1 ((h z).1 (by simp [hz])) with rfl | h'
      · exact absurd (h1.1 z hz) (ltR_irrefl z)
      · exact h'
    · rcases List.mem_cons.1 ((h z).2 (by simp [hz])) with rfl | h'
      · exact absurd (h2.1 z hz) (ltR_irrefl z)
      · exact h'
end Go.Proofs.YtjgfldfbljmhhaaGreat
namespace Go.Proofs.YtjgfldfbljmhhaaGreat
open Go Go.Sh Go.Proofs Go.Sort
set_option linter.unusedVariables false
set_option linter.unusedSimpArgs false
instance : Inhabited DRace := ⟨⟨0, 0, 0⟩⟩
def encR (x : DRace) : List Value := [.int .i64 x.g, .int .i64 x.a, .int .i64 x.b]
theorem encR_rep : ∀ {F : List Nat} {w : World} {cs : List Value} {x : DRace}, Rep.rep F w cs x → cs = encR x := by
  intro F w cs x h
  obtain ⟨F1, F2, c1, c2, rfl, rfl, ⟨rfl, rfl, _⟩, ⟨F3, F4, c3, c4, rfl, rfl, ⟨rfl, rfl, _⟩, ⟨rfl, rfl, _⟩⟩⟩ := h
  rfl
theorem ltOf_cmpR {x y : DRace} : ltOf cmpR x y = decide (ltR x y) := by
  unfold ltOf
  rw [decide_eq_decide]
  exact cmpR_lt
theorem ltR_swo : SWO (ltOf cmpR) := by
  refine ⟨fun x => ?_, fun x y z h k => ?_, fun x y z h k => ?_⟩
  · rw [ltOf_cmpR, decide_eq_false_iff_not]; exact ltR_irrefl x
  · rw [ltOf_cmpR, decide_eq_true_eq] at *; exact ltR_trans h k
  · rw [ltOf_cmpR, decide_eq_false_iff_not] at *
    intro hc
    unfold ltR at *
    omega
def srt (l : List DRace) : List DRace := l.mergeSort fun x y => !(ltOf cmpR) y x
theorem srt_perm (l : List DRace) : (srt l).Perm l := List.mergeSort_perm l _
theorem srt_len (l : List DRace) : (srt l).length = l.length := (srt_perm l).length_eq
theorem srt_pw (l : List DRace) : (srt l).Pairwise fun x y => ¬ ltR y x := by
  have := List.pairwise_mergeSort (le := fun x y => !(ltOf cmpR) y x) (fun a b c h1 h2 => by
    simp only [ltOf_cmpR, Bool.not_eq_true', decide_eq_false_iff_not] at *
    unfold ltR at *; omega) (fun a b => by
    simp only [ltOf_cmpR, Bool.or_eq_true, Bool.not_eq_true', decide_eq_false_iff_not]
    unfold ltR; omega) l
  exact this.imp fun h => by simpa [ltOf_cmpR] using h
theorem sortR_ok {w : World} {lo hi : Nat} {v : Value} {l : List DRace} (h : OwnI lo hi w v l) (hn : l.length ≤ 1073741824) :
    CALL Tryz.prog 169 [v, .func (.func 170) #[] #[]] w fun r w' => ChgI lo hi w w' ∧ OwnI lo hi w' v (srt l) := by
  obtain ⟨F, hM, hF⟩ := h
  by_cases hne : l = []
  · subst hne
    obtain ⟨a, cap, hv⟩ : ∃ a cap, v = .slice a 0 cap := by
      obtain ⟨cs, ⟨a, cap, G, xs, h, _⟩, hv⟩ := hM.own
      exact ⟨a, cap, by rw [hv, h]; rfl⟩
    subst hv
    refine ⟨(AnyF.slices_SortFunc_none Tryz.sortRace a cap _ w).mono ?_⟩
    rintro e w' ⟨he, rfl⟩
    refine ⟨_, he, ChgI.refl _, F, ?_, hF⟩
    have : srt [] = [] := List.eq_nil_of_length_eq_zero (by rw [srt_len]; rfl)
    rw [this]; exact hM
  obtain ⟨b, o, cap, xs, rfl, rfl, h1, h2, hcc, hrr, hww⟩ := mine_parts hM hne
  have henc := @encR_rep
  have hk : ∀ x, (encR x).length = Rep.size DRace := fun _ => rfl
  obtain ⟨c, e, hbe⟩ := hww
  have hb : b < w.heap.size := (Array.getElem?_eq_some_iff.1 hbe).1
  have hcmp : CmpLays Tryz.prog 170 #[] encR 3 cmpR b o l.toArray.size w := fun m os dk _ x y => by
    have := compareRaces_ok (w := sortWorldK encR 3 w b o m dk os) (x := x) (y := y)
    obtain ⟨h⟩ := this
    refine h.mono ?_
    rintro e w' ⟨v, he, hv, q, os', hw'⟩
    exact ⟨by rw [he, hv], q, os', hw'⟩
  refine ⟨(AnyQ.slices_SortFunc_total Tryz.sortRace 3 Tryz.isAgg109 Tryz.sizeOf109 encR (fun _ => rfl) (fun x v hv => by
      simp only [encR, List.mem_cons, List.not_mem_nil, or_false] at hv
      rcases hv with rfl | rfl | rfl <;> rfl) cmpR ltR_swo 170 #[] b o cap l.toArray w (run_callFunc (ent 170 (by decide) (by kernel_rfl))) hcmp (holdsK_of henc hk ⟨c, e, hbe⟩ hcc hrr) hb (by simp; omega) (fun x y h k => by
      rw [ltOf_cmpR, decide_eq_false_iff_not] at *; exact ltR_total h k)).mono ?_⟩
  rintro ex w' ⟨he, n, os, hw'⟩
  have hs := sorted_mine henc hk (cap := cap) hw' ⟨c, e, hbe⟩ hcc hrr h1 h2 (by simp) (fun x hx => by simpa [List.mem_mergeSort] using hx)
  refine ⟨_, he, ?_, [b], ?_, hF⟩
  · exact hs.1.toI (fun i hi => hF i hi)
  · exact hs.2
end Go.Proofs.YtjgfldfbljmhhaaGreat
namespace Go.Proofs.YtjgfldfbljmhhaaGreat
open Go Go.Sh Go.Proofs
set_option linter.unusedVariables false
def F92 (a0 a1 : Value) (w : World) (R : Value → World → Prop) : Prop :=
 OP Tryz.prog (Instr.box 109 a1) w fun x3 w =>
 JOIN [5] (fun J4 =>
 LOOPI [5] [(Value.int .i64 0)] w fun u2 w next2 =>
 (fun w => RD Tryz.prog (Builtin.len_ #[58] 3 [a0].toArray) w fun x9 =>
 RD Tryz.prog (bin .lss 3 (.tmp 0) (.tmp 0) (u2 5) x9) w fun x10 =>
 BR x10
 (RD Tryz.prog (Instr.indexAt 58 a0 (u2 5)) w fun x14 =>
 RD Tryz.prog (Instr.loadAt 109 x14) w fun x15 =>
 RD Tryz.prog (Instr.loadAt 109 x3) w fun x16 =>
 CALL Tryz.prog 156 [x15, x16] w fun x17 w =>
 BR x17
 (RD Tryz.prog (bin .add 3 (.tmp 0) (.const undef) (u2 5) (Value.int .i64 1)) w fun x20 =>
 next2 [x20] w)
 (J4 [(u2 5)] w))
 (J4 [(u2 5)] w)) (World.drew1 w)) (fun u4 w =>
 JOIN [] (fun J6 =>
 (fun w => RD Tryz.prog (Builtin.len_ #[58] 3 [a0].toArray) w fun x23 =>
 RD Tryz.prog (bin .lss 3 (.tmp 0) (.tmp 0) (u4 5) x23) w fun x24 =>
 BR x24
 (RD Tryz.prog (Instr.indexAt 58 a0 (u4 5)) w fun x28 =>
 RD Tryz.prog (Instr.loadAt 109 x28) w fun x29 =>
 RD Tryz.prog (Instr.loadAt 109 x3) w fun x30 =>
 RD Tryz.prog (bin .eql 109 (.tmp 0) (.tmp 0) x29 x30) w fun x31 =>
 BR x31
 (R a0 w)
 (J6 [] w))
 (J6 [] w)) (World.drew1 w)) (fun u6 w =>
 OP Tryz.prog (Instr.buildSlice 58 0 #[]) w fun x34 w =>
 RD Tryz.prog (Instr.sliceAt 58 a0 none (some (u4 5)) none) w fun x37 =>
 OP Tryz.prog (Builtin.append_ #[58, 58] 58 [x34, x37].toArray) w fun x38 w =>
 RD Tryz.prog (Instr.loadAt 109 x3) w fun x40 =>
 OP Tryz.prog (Instr.buildSlice 58 1 #[(0, x40)]) w fun x41 w =>
 OP Tryz.prog (Builtin.append_ #[58, 58] 58 [x38, x41].toArray) w fun x42 w =>
 RD Tryz.prog (Instr.sliceAt 58 a0 (some (u4 5)) none none) w fun x46 =>
 OP Tryz.prog (Builtin.append_ #[58, 58] 58 [x42, x46].toArray) w fun x47 w =>
 R x47 w))
def cfg92 : Cfg := { ext := extL, joins := [(4, 2097056, [5]), (6, 17177772048, [])], loops := [(2, 2097056, [5])], draws := [(2, [0, 1, 2, 3, 4, 5, 6, 7, 8, 9, 10, 11], 0), (4, [0, 1, 2, 3, 4, 5, 6, 7, 8, 9, 10, 11], 0)], pars := [] }
theorem F92_eq (a0 a1 : Value) (w : World) (R : Value → World → Prop) : vcF Tryz.prog cfg92 Tryz.f92 [a0, a1] w R = F92 a0 a1 w R := by kernel_rfl
theorem F92_call {a0 a1 : Value} {w : World} {R : Value → World → Prop} (h : F92 a0 a1 w R) : CALL Tryz.prog 92 [a0, a1] w R :=
  call_of (g := cfg92) ent mixed Tryz.func92 (Nat.le_of_ble_eq_true (by kernel_rfl)) (by kernel_rfl) (F92_eq a0 a1 w R ▸ h)
set_option linter.unusedVariables false
set_option linter.unusedSimpArgs false
theorem flat_own {α : Type} [Rep α] [Flat α] {w : World} {lo hi : Nat} {v : Value} {x : α} (h : Is w v x) : OwnI lo hi w v x := by
  obtain ⟨F, cs, hr, hv⟩ := h
  have hF := Flat.flat hr
  subst hF
  exact ⟨[], ⟨⟨cs, hr, hv⟩, List.nodup_nil, Wr.nil w⟩, by simp⟩
theorem l18Put_ok {w W1 : World} {lo : Nat} {v v1 : Value} {l : List DRace} {x : DRace} (h : OwnI lo w.heap.size w v l) (hlo : lo ≤ w.heap.size) (h1 : Is W1 v1 x) (e1 : Ext W1 w) (hn : l.length ≤ 1000000) :
    CALL Tryz.prog 92 [v, v1] w fun r w' => Ext w w' ∧ OwnI lo w'.heap.size w' r (putR x l) := by
  refine F92_call ?_
  unfold F92
  have hI := h.is
  refine op_box h1 e1 fun w1 hx1 hA => ?_
  refine JOIN.mk (fun us w' => ∃ k : Nat, us = [.int .i64 (k : Int)] ∧ Ext w1 w' ∧ k ≤ l.length ∧ ahd x l = k) ?_ ?_
  · refine loopC l.length (fun k us w' => us = [.int .i64 (k : Int)] ∧ Ext w1 w' ∧ k ≤ l.length ∧ ∀ j (h : j < k) (h2 : j < l.length), ltR l[j] x) 0 (Nat.zero_le _) ⟨rfl, Ext.refl w1, Nat.zero_le _, fun j h => by omega⟩ ?_
    rintro k mk u w2 hkm ⟨hu, hx2, hkl, hlt⟩
    simp only [List.map_cons, List.map_nil, List.cons.injEq, and_true] at hu
    rw [hu]
    have hx3 := ext_drew w2
    have hx23 := hx2.trans hx3
    generalize World.drew1 w2 = w3 at *
    refine rd_len u58 hI ?_
    refine rd_lss ?_
    refine br (fun hk => ?_) (fun hk => ?_)
    · have hk' : k < l.length := by omega
      refine rd_indexN u58 ty109 hI hk' fun b1 o1 hA1 => ?_
      refine rd_load ty109 hA1 (hx1.trans hx23) fun v15 h15 => ?_
      refine rd_load ty109 hA hx23 fun v16 h16 => ?_
      refine (raceLess_ok h15 (hx1.trans hx23) h16 hx23).mono ?_
      rintro _ w4 ⟨hx4, rfl⟩
      refine br_b (fun hc => ?_) (fun hc => ?_)
      · refine rd_inc (by omega) ?_
        refine ⟨mk - 1, by omega, k + 1, by omega, rfl, hx23.trans hx4, by omega, fun j hj hj2 => ?_⟩
        by_cases hjk : j < k
        · exact hlt j hjk hj2
        · have : j = k := by omega
          subst this
          simpa using hc
      · exact ⟨k, rfl, hx23.trans hx4, hkl, ahd_at hkl (fun j hj => hlt j hj (by omega)) fun h => by simpa using hc⟩
    · exact ⟨k, rfl, hx23, hkl, ahd_at hkl (fun j hj => hlt j hj (by omega)) fun h => by omega⟩
  rintro u w2 ⟨k, hu, hx2, hkl, hak⟩
  simp only [List.map_cons, List.map_nil, List.cons.injEq, and_true] at hu
  rw [hu]
  have hput := putR_ahd x l
  rw [hak] at hput
  refine JOIN.mk (fun us w' => Ext w1 w' ∧ putR x l = l.take k ++ (x :: l.drop k)) ?_ ?_
  · have hx3 := ext_drew w2
    have hx23 := hx2.trans hx3
    generalize World.drew1 w2 = w3 at *
    refine rd_len u58 hI ?_
    refine rd_lss ?_
    refine br (fun hk => ?_) (fun hk => ?_)
    · have hk' : k < l.length := by omega
      rw [dif_pos hk'] at hput
      refine rd_indexN u58 ty109 hI hk' fun b1 o1 hA1 => ?_
      refine rd_load ty109 hA1 (hx1.trans hx23) fun v15 h15 => ?_
      refine rd_load ty109 hA hx23 fun v16 h16 => ?_
      refine rd_eqlDRace h15 h16 ?_
      refine br (fun hc => ?_) (fun hc => ?_)
      · rw [if_pos hc] at hput
        have hx := hx1.trans hx23
        exact ⟨hx, by rw [hput]; exact (h.ext hx).mono (Nat.le_refl _) hx.size⟩
      · rw [if_neg hc] at hput
        exact ⟨hx23, hput⟩
    · have hk' : k = l.length := by omega
      subst hk'
      rw [dif_neg (by omega)] at hput
      exact ⟨hx23, by rw [hput]; simp⟩
  rintro u6 w3 ⟨hx3, hpe⟩
  rw [hpe]
  have hx03 := hx1.trans hx3
  have hs03 := hx03.size
  refine op_build0I (α := DRace) u58 ty109 fun a w4 hx4 hr4 => ?_
  have hs4 := hx4.size
  refine rd_slice_to (i := (k : Int)) u58 ty109 hI (by omega) (by omega) fun v37 h37 => ?_
  refine op_appendI u58 ty109 zc109 hr4 (Nat.le_refl _) h37 (hx03.trans hx4) (by simp [maxLen]; omega) (by simp; omega) fun v38 w5 hc5 hr5 => ?_
  have hs5 := hc5.size
  have hx5 := (Ext.refl w4).chgI hc5 (Nat.le_refl _)
  refine rd_load ty109 hA (hx3.trans (hx4.trans hx5)) fun v40 h40 => ?_
  refine op_push (lo2 := w5.heap.size) (hi2 := w5.heap.size) u58 ty109 z109 zc109 (by decide) hr5 (by omega) (flat_own (h40.ext (hx3.trans (hx4.trans hx5)))) (Nat.le_refl _) (by omega) (by simp [maxLen]; omega) (by simp; omega) fun v42 w6 hc6 hr6 => ?_
  have hs6 := hc6.size
  refine rd_slice_from (i := (k : Int)) u58 ty109 hI (by omega) (by omega) fun v46 h46 => ?_
  have hx6 : Ext w w6 := (hx03.trans (hx4.trans hx5)).chgI hc6 (by omega)
  refine op_appendI u58 ty109 zc109 hr6 (by omega) h46 hx6 (by simp [maxLen]; omega) (by simp; omega) fun v47 w7 hc7 hr7 => ?_
  have hs7 := hc7.size
  refine ⟨hx6.chgI hc7 (by omega), ?_⟩
  have := hr7.own.mono (lo' := lo) (by omega) (Nat.le_refl _)
  simpa using this
end Go.Proofs.YtjgfldfbljmhhaaGreat
namespace Go.Proofs.YtjgfldfbljmhhaaGreat
open Go Go.Sh Go.Proofs
set_option linter.unusedVariables false
def overIn (s : DState) : Prop := ∀ x ∈ s.stacks, x = []
instance (s : DState) : Decidable (overIn s) := inferInstanceAs (Decidable (∀ x ∈ s.stacks, x = []))
def F94 (a0 a1 : Value) (w : World) (R : Value → World → Prop) : Prop :=
 RD Tryz.prog (Builtin.len_ #[23] 3 [a0].toArray) w fun x7 =>
 RD Tryz.prog (Builtin.len_ #[23] 3 [a1].toArray) w fun x9 =>
 RD Tryz.prog (bin .neq 3 (.tmp 0) (.tmp 0) x7 x9) w fun x10 =>
 BR x10
 (R (Value.bool false) w)
 (LOOPI [5] [(Value.int .i64 0)] w fun u4 w next4 =>
 RD Tryz.prog (Builtin.len_ #[23] 3 [a0].toArray) w fun x13 =>
 RD Tryz.prog (bin .lss 3 (.tmp 0) (.tmp 0) (u4 5) x13) w fun x14 =>
 BR x14
 ((fun w => RD Tryz.prog (Instr.indexAt 23 a0 (u4 5)) w fun x19 =>
 RD Tryz.prog (Instr.loadAt 3 x19) w fun x20 =>
 RD Tryz.prog (Instr.indexAt 23 a1 (u4 5)) w fun x23 =>
 RD Tryz.prog (Instr.loadAt 3 x23) w fun x24 =>
 RD Tryz.prog (bin .neq 3 (.tmp 0) (.tmp 0) x20 x24) w fun x25 =>
 BR x25
 (R (Value.bool false) w)
 (RD Tryz.prog (bin .add 3 (.tmp 0) (.const undef) (u4 5) (Value.int .i64 1)) w fun x16 =>
 next4 [x16] w)) (World.drew1 w))
 (R (Value.bool true) w))
def cfg94 : Cfg := { ext := extL, joins := [], loops := [(4, 67106864, [5])], draws := [(6, [0, 1, 2, 3, 4, 5, 6, 7, 8], 0)], pars := [] }
theorem F94_eq (a0 a1 : Value) (w : World) (R : Value → World → Prop) : vcF Tryz.prog cfg94 Tryz.f94 [a0, a1] w R = F94 a0 a1 w R := by kernel_rfl
theorem F94_call {a0 a1 : Value} {w : World} {R : Value → World → Prop} (h : F94 a0 a1 w R) : CALL Tryz.prog 94 [a0, a1] w R :=
  call_of (g := cfg94) ent mixed Tryz.func94 (Nat.le_of_ble_eq_true (by kernel_rfl)) (by kernel_rfl) (F94_eq a0 a1 w R ▸ h)
theorem l22Same_ok {w : World} {v0 : Value} {W0 : World} {l1 : (List Int)} {v1 : Value} {W1 : World} {l2 : (List Int)}  (h0 : Is W0 v0 l1) (e0 : Ext W0 w) (h1 : Is W1 v1 l2) (e1 : Ext W1 w)  :
    CALL Tryz.prog 94 [v0, v1] w fun r w' => Ext w w' ∧ (r = .bool (decide (l1 = l2))) := by
  refine F94_call ?_
  unfold F94
  have hln7 := is_len h0
  refine rd_len u23 h0 ?_
  have hln9 := is_len h1
  refine rd_len u23 h1 ?_
  refine rd_neq ?_
  refine br (fun c1 => ?_) (fun c1 => ?_)
  · refine ⟨Ext.refl w, ?_⟩
    have : l1 ≠ l2 := fun e => c1 (by rw [e])
    simp [this]
  · refine loopC (l1.length) (fun k us w' => us = [.int .i64 (k : Int)] ∧ Ext w w' ∧ (l1.take k = l2.take k)) (0) (by omega) ⟨by simp, Ext.refl w, by simp⟩ ?_
    rintro k m4 uu4 w1_ hk4 ⟨hu, hx1_, hinv⟩
    simp only [List.map_cons, List.map_nil, List.cons.injEq, and_true] at hu
    try rw [hu]
    try clear hu
    have hln13 := is_len h0
    refine rd_len u23 h0 ?_
    refine rd_lss ?_
    refine br (fun c2 => ?_) (fun c2 => ?_)
    · have hx2_ := ext_drew w1_
      refine rd_indexN u23 ty3 h0 (by omega) fun b19 o19 h19 => ?_
      refine rd_loadI ty3 h19 (e0.trans (hx1_.trans hx2_)) fun hI20 => ?_
      refine rd_indexN u23 ty3 h1 (by omega) fun b23 o23 h23 => ?_
      refine rd_loadI ty3 h23 (e1.trans (hx1_.trans hx2_)) fun hI24 => ?_
      refine rd_neq ?_
      refine br (fun c3 => ?_) (fun c3 => ?_)
      · refine ⟨(hx1_.trans hx2_), ?_⟩
        have : l1 ≠ l2 := fun e => c3 (by subst e; rfl)
        simp [this]
      · refine rd_inc (by omega) ?_
        refine ⟨m4 - 1, by omega, k + 1, by omega, by simp, (hx1_.trans hx2_), ?_⟩
        rw [List.take_succ_eq_append_getElem (by omega), List.take_succ_eq_append_getElem (by omega), hinv, Decidable.not_not.1 c3]
    · refine ⟨hx1_, ?_⟩
      rw [List.take_of_length_le (by omega), List.take_of_length_le (by omega)] at hinv
      simp [hinv]
def F100 (a0 a1 : Value) (w : World) (R : Value → World → Prop) : Prop :=
 RD Tryz.prog (Builtin.len_ #[23] 3 [a0].toArray) w fun x7 =>
 RD Tryz.prog (Builtin.len_ #[23] 3 [a1].toArray) w fun x9 =>
 RD Tryz.prog (bin .neq 3 (.tmp 0) (.tmp 0) x7 x9) w fun x10 =>
 BR x10
 (R (Value.bool false) w)
 (RD Tryz.prog (Builtin.len_ #[23] 3 [a0].toArray) w fun x12 =>
 LOOPI [13] [(Value.int .i64 0)] w fun u4 w next4 =>
 RD Tryz.prog (bin .lss 3 (.tmp 0) (.tmp 0) (u4 13) x12) w fun x14 =>
 BR x14
 ((fun w => RD Tryz.prog (Instr.indexAt 23 a0 (u4 13)) w fun x18 =>
 RD Tryz.prog (Instr.loadAt 3 x18) w fun x19 =>
 RD Tryz.prog (Instr.indexAt 23 a1 (u4 13)) w fun x22 =>
 RD Tryz.prog (Instr.loadAt 3 x22) w fun x23 =>
 RD Tryz.prog (bin .neq 3 (.tmp 0) (.tmp 0) x19 x23) w fun x24 =>
 BR x24
 (R (Value.bool false) w)
 (RD Tryz.prog (bin .add 3 (.tmp 0) (.const undef) (u4 13) (Value.int .i64 1)) w fun x25 =>
 next4 [x25] w)) (World.drew1 w))
 (R (Value.bool true) w))
def cfg100 : Cfg := { ext := extL, joins := [], loops := [(4, 67100720, [13])], draws := [(6, [0, 1, 2, 3, 4, 5, 6, 7, 8], 0)], pars := [] }
theorem F100_eq (a0 a1 : Value) (w : World) (R : Value → World → Prop) : vcF Tryz.prog cfg100 Tryz.f100 [a0, a1] w R = F100 a0 a1 w R := by kernel_rfl
theorem F100_call {a0 a1 : Value} {w : World} {R : Value → World → Prop} (h : F100 a0 a1 w R) : CALL Tryz.prog 100 [a0, a1] w R :=
  call_of (g := cfg100) ent mixed Tryz.func100 (Nat.le_of_ble_eq_true (by kernel_rfl)) (by kernel_rfl) (F100_eq a0 a1 w R ▸ h)
theorem equalInt_ok {w : World} {v0 : Value} {W0 : World} {l1 : (List Int)} {v1 : Value} {W1 : World} {l2 : (List Int)}  (h0 : Is W0 v0 l1) (e0 : Ext W0 w) (h1 : Is W1 v1 l2) (e1 : Ext W1 w)  :
    CALL Tryz.prog 100 [v0, v1] w fun r w' => Ext w w' ∧ (r = .bool (decide (l1 = l2))) := by
  refine F100_call ?_
  unfold F100
  have hln7 := is_len h0
  refine rd_len u23 h0 ?_
  have hln9 := is_len h1
  refine rd_len u23 h1 ?_
  refine rd_neq ?_
  refine br (fun c1 => ?_) (fun c1 => ?_)
  · refine ⟨Ext.refl w, ?_⟩
    have : l1 ≠ l2 := fun e => c1 (by rw [e])
    simp [this]
  · have hln12 := is_len h0
    refine rd_len u23 h0 ?_
    refine loopC (l1.length) (fun k us w' => us = [.int .i64 (k : Int)] ∧ Ext w w' ∧ (l1.take k = l2.take k)) (0) (by omega) ⟨by simp, Ext.refl w, by simp⟩ ?_
    rintro k m4 uu4 w1_ hk4 ⟨hu, hx1_, hinv⟩
    simp only [List.map_cons, List.map_nil, List.cons.injEq, and_true] at hu
    try rw [hu]
    try clear hu
    refine rd_lss ?_
    refine br (fun c2 => ?_) (fun c2 => ?_)
    · have hx2_ := ext_drew w1_
      refine rd_indexN u23 ty3 h0 (by omega) fun b18 o18 h18 => ?_
      refine rd_loadI ty3 h18 (e0.trans (hx1_.trans hx2_)) fun hI19 => ?_
      refine rd_indexN u23 ty3 h1 (by omega) fun b22 o22 h22 => ?_
      refine rd_loadI ty3 h22 (e1.trans (hx1_.trans hx2_)) fun hI23 => ?_
      refine rd_neq ?_
      refine br (fun c3 => ?_) (fun c3 => ?_)
      · refine ⟨(hx1_.trans hx2_), ?_⟩
        have : l1 ≠ l2 := fun e => c3 (by subst e; rfl)
        simp [this]
      · refine rd_inc (by omega) ?_
        refine ⟨m4 - 1, by omega, k + 1, by omega, by simp, (hx1_.trans hx2_), ?_⟩
        rw [List.take_succ_eq_append_getElem (by omega), List.take_succ_eq_append_getElem (by omega), hinv, Decidable.not_not.1 c3]
    · refine ⟨hx1_, ?_⟩
      rw [List.take_of_length_le (by omega), List.take_of_length_le (by omega)] at hinv
      simp [hinv]
def F302 (a0 a1 : Value) (w : World) (R : Value → World → Prop) : Prop :=
 CALL Tryz.prog 100 [a0, a1] w fun x7 w =>
 R x7 w
def cfg302 : Cfg := { ext := extL, joins := [], loops := [], draws := [], pars := [] }
theorem F302_eq (a0 a1 : Value) (w : World) (R : Value → World → Prop) : vcF Tryz.prog cfg302 Tryz.f302 [a0, a1] w R = F302 a0 a1 w R := by kernel_rfl
theorem F302_call {a0 a1 : Value} {w : World} {R : Value → World → Prop} (h : F302 a0 a1 w R) : CALL Tryz.prog 302 [a0, a1] w R :=
  call_of (g := cfg302) ent mixed Tryz.func302 (Nat.le_of_ble_eq_true (by kernel_rfl)) (by kernel_rfl) (F302_eq a0 a1 w R ▸ h)
theorem sameState1_ok {w : World} {v0 : Value} {W0 : World} {l1 : (List Int)} {v1 : Value} {W1 : World} {l2 : (List Int)}  (h0 : Is W0 v0 l1) (e0 : Ext W0 w) (h1 : Is W1 v1 l2) (e1 : Ext W1 w)  :
    CALL Tryz.prog 302 [v0, v1] w fun r w' => Ext w w' ∧ (r = .bool (decide (l1 = l2))) := by
  refine F302_call ?_
  unfold F302
  refine (equalInt_ok h0 e0 h1 e1).mono ?_
  rintro _ w1_ ⟨hx1_, rfl⟩
  refine ⟨hx1_, ?_⟩
  rfl
theorem opn_func {P : Program} {f : Nat} {args : List Value} {w : World} {K : Value → World → Prop} (hE : enters P f = true) (h : CALL P f args w K) : OPN P (callV (.func (.func f) #[] #[]) args) w K := by
  obtain ⟨h⟩ := h
  refine .enter f args.toArray w ?_ h
  simp [callV, Deferred.ofValue, invoke, run_callFunc hE]
theorem ent53 : enters Tryz.prog 302 = true := by kernel_rfl
def F301 (a0 a1 a2 : Value) (w : World) (R : Value → World → Prop) : Prop :=
 RD Tryz.prog (Builtin.len_ #[27] 3 [a0].toArray) w fun x11 =>
 RD Tryz.prog (Builtin.len_ #[27] 3 [a1].toArray) w fun x13 =>
 RD Tryz.prog (bin .neq 3 (.tmp 0) (.tmp 0) x11 x13) w fun x14 =>
 BR x14
 (R (Value.bool false) w)
 (RD Tryz.prog (Builtin.len_ #[27] 3 [a0].toArray) w fun x16 =>
 LOOPI [17] [(Value.int .i64 0)] w fun u4 w next4 =>
 RD Tryz.prog (bin .lss 3 (.tmp 0) (.tmp 0) (u4 17) x16) w fun x18 =>
 BR x18
 (RD Tryz.prog (Instr.indexAt 27 a0 (u4 17)) w fun x20 =>
 RD Tryz.prog (Instr.loadAt 23 x20) w fun x21 =>
 RD Tryz.prog (Instr.indexAt 27 a1 (u4 17)) w fun x24 =>
 RD Tryz.prog (Instr.loadAt 23 x24) w fun x25 =>
 OPN Tryz.prog (callV a2 [x21, x25]) w fun x29 w =>
 RD Tryz.prog (Op.unary .not x29) w fun x30 =>
 BR x30
 (R (Value.bool false) w)
 (RD Tryz.prog (bin .add 3 (.tmp 0) (.const undef) (u4 17) (Value.int .i64 1)) w fun x31 =>
 next4 [x31] w))
 (R (Value.bool true) w))
def cfg301 : Cfg := { ext := extL, joins := [], loops := [(4, 4294837184, [17])], draws := [], pars := [] }
theorem F301_eq (a0 a1 a2 : Value) (w : World) (R : Value → World → Prop) : vcF Tryz.prog cfg301 Tryz.f301 [a0, a1, a2] w R = F301 a0 a1 a2 w R := by kernel_rfl
theorem F301_call {a0 a1 a2 : Value} {w : World} {R : Value → World → Prop} (h : F301 a0 a1 a2 w R) : CALL Tryz.prog 301 [a0, a1, a2] w R :=
  call_of (g := cfg301) ent mixed Tryz.func301 (Nat.le_of_ble_eq_true (by kernel_rfl)) (by kernel_rfl) (F301_eq a0 a1 a2 w R ▸ h)
theorem equalFunc_ok {w : World} {v0 : Value} {W0 : World} {l1 : (List (List Int))} {v1 : Value} {W1 : World} {l2 : (List (List Int))} {v2 : Value}  (h0 : Is W0 v0 l1) (e0 : Ext W0 w) (h1 : Is W1 v1 l2) (e1 : Ext W1 w) (hf : v2 = .func (.func 302) #[] #[]) :
    CALL Tryz.prog 301 [v0, v1, v2] w fun r w' => Ext w w' ∧ (r = .bool (decide (l1 = l2))) := by
  refine F301_call ?_
  unfold F301
  subst hf
  have hln11 := is_len h0
  refine rd_len u27 h0 ?_
  have hln13 := is_len h1
  refine rd_len u27 h1 ?_
  refine rd_neq ?_
  refine br (fun c1 => ?_) (fun c1 => ?_)
  · refine ⟨Ext.refl w, ?_⟩
    have : l1 ≠ l2 := fun e => c1 (by rw [e])
    simp [this]
  · have hln16 := is_len h0
    refine rd_len u27 h0 ?_
    refine loopC (l1.length) (fun k us w' => us = [.int .i64 (k : Int)] ∧ Ext w w' ∧ (l1.take k = l2.take k)) (0) (by omega) ⟨by simp, Ext.refl w, by simp⟩ ?_
    rintro k m4 uu4 w1_ hk4 ⟨hu, hx1_, hinv⟩
    simp only [List.map_cons, List.map_nil, List.cons.injEq, and_true] at hu
    try rw [hu]
    try clear hu
    refine rd_lss ?_
    refine br (fun c2 => ?_) (fun c2 => ?_)
    · refine rd_indexN u27 ty23 h0 (by omega) fun b20 o20 h20 => ?_
      refine rd_load ty23 h20 (e0.trans hx1_) fun v21 h21 => ?_
      refine rd_indexN u27 ty23 h1 (by omega) fun b24 o24 h24 => ?_
      refine rd_load ty23 h24 (e1.trans hx1_) fun v25 h25 => ?_
      refine opn_func ent53 ((sameState1_ok h21 (e0.trans hx1_) h25 (e1.trans hx1_)).mono ?_)
      rintro _ w9 ⟨hx9, rfl⟩
      refine rd_nodec ?_
      refine br (fun c3 => ?_) (fun c3 => ?_)
      · refine ⟨(hx1_.trans hx9), ?_⟩
        have : l1 ≠ l2 := fun e => c3 (by subst e; rfl)
        simp [this]
      · refine rd_inc (by omega) ?_
        refine ⟨m4 - 1, by omega, k + 1, by omega, by simp, (hx1_.trans hx9), ?_⟩
        rw [List.take_succ_eq_append_getElem (by omega), List.take_succ_eq_append_getElem (by omega), hinv, Decidable.not_not.1 c3]
    · refine ⟨hx1_, ?_⟩
      rw [List.take_of_length_le (by omega), List.take_of_length_le (by omega)] at hinv
      simp [hinv]
def F274 (a0 a1 : Value) (w : World) (R : Value → World → Prop) : Prop :=
 OP Tryz.prog (Instr.box 37 a0) w fun x2 w =>
 OP Tryz.prog (Instr.box 37 a1) w fun x3 w =>
 RD Tryz.prog (Instr.fieldAt 37 x2 0) w fun x5 =>
 RD Tryz.prog (Instr.loadAt 23 x5) w fun x6 =>
 RD Tryz.prog (Instr.fieldAt 37 x3 0) w fun x7 =>
 RD Tryz.prog (Instr.loadAt 23 x7) w fun x8 =>
 CALL Tryz.prog 100 [x6, x8] w fun x9 w =>
 RD Tryz.prog (Op.unary .not x9) w fun x10 =>
 BR x10
 (R (Value.bool false) w)
 (RD Tryz.prog (Instr.fieldAt 37 x2 1) w fun x12 =>
 RD Tryz.prog (Instr.loadAt 23 x12) w fun x13 =>
 RD Tryz.prog (Instr.fieldAt 37 x3 1) w fun x14 =>
 RD Tryz.prog (Instr.loadAt 23 x14) w fun x15 =>
 CALL Tryz.prog 100 [x13, x15] w fun x16 w =>
 RD Tryz.prog (Op.unary .not x16) w fun x17 =>
 BR x17
 (R (Value.bool false) w)
 (RD Tryz.prog (Instr.fieldAt 37 x2 2) w fun x19 =>
 RD Tryz.prog (Instr.loadAt 27 x19) w fun x20 =>
 RD Tryz.prog (Instr.fieldAt 37 x3 2) w fun x21 =>
 RD Tryz.prog (Instr.loadAt 27 x21) w fun x22 =>
 CALL Tryz.prog 301 [x20, x22, (Value.func (.func 302) #[] #[])] w fun x23 w =>
 R x23 w))
def cfg274 : Cfg := { ext := extL, joins := [], loops := [], draws := [], pars := [] }
theorem F274_eq (a0 a1 : Value) (w : World) (R : Value → World → Prop) : vcF Tryz.prog cfg274 Tryz.f274 [a0, a1] w R = F274 a0 a1 w R := by kernel_rfl
theorem F274_call {a0 a1 : Value} {w : World} {R : Value → World → Prop} (h : F274 a0 a1 w R) : CALL Tryz.prog 274 [a0, a1] w R :=
  call_of (g := cfg274) ent mixed Tryz.func274 (Nat.le_of_ble_eq_true (by kernel_rfl)) (by kernel_rfl) (F274_eq a0 a1 w R ▸ h)
theorem implSameState_ok {w : World} {v0 : Value} {W0 : World} {s1 : DState} {v1 : Value} {W1 : World} {s2 : DState}  (h0 : Is W0 v0 s1) (e0 : Ext W0 w) (h1 : Is W1 v1 s2) (e1 : Ext W1 w)  :
    CALL Tryz.prog 274 [v0, v1] w fun r w' => Ext w w' ∧ (r = .bool (decide (s1 = s2))) := by
  refine F274_call ?_
  unfold F274
  refine op_boxS ty37 rfl h0 e0 fun w1_ hx1_ hA2 hV2 => ?_
  refine op_boxS ty37 rfl h1 (e1.trans hx1_) fun w2_ hx2_ hA3 hV3 => ?_
  refine rd_fld fd37_0 ?_
  refine rd_load ty23 (at_DState_0 hA2) hx2_ fun v6 h6 => ?_
  refine rd_fld fd37_0 ?_
  refine rd_load ty23 (at_DState_0 hA3) (Ext.refl w2_) fun v8 h8 => ?_
  refine (equalInt_ok h6 hx2_ h8 (Ext.refl w2_)).mono ?_
  rintro _ w3_ ⟨hx3_, rfl⟩
  refine rd_nodec ?_
  refine br (fun c1 => ?_) (fun c1 => ?_)
  · refine ⟨(hx1_.trans (hx2_.trans hx3_)), ?_⟩
    have : s1 ≠ s2 := fun e => c1 (by rw [e])
    simp [this]
  · refine rd_fld fd37_1 ?_
    refine rd_load ty23 (at_DState_1 hA2) (hx2_.trans hx3_) fun v13 h13 => ?_
    refine rd_fld fd37_1 ?_
    refine rd_load ty23 (at_DState_1 hA3) hx3_ fun v15 h15 => ?_
    refine (equalInt_ok h13 (hx2_.trans hx3_) h15 hx3_).mono ?_
    rintro _ w4_ ⟨hx4_, rfl⟩
    refine rd_nodec ?_
    refine br (fun c2 => ?_) (fun c2 => ?_)
    · refine ⟨(hx1_.trans (hx2_.trans (hx3_.trans hx4_))), ?_⟩
      have : s1 ≠ s2 := fun e => c2 (by rw [e])
      simp [this]
    · refine rd_fld fd37_2 ?_
      refine rd_load ty27 (at_DState_2 hA2) (hx2_.trans (hx3_.trans hx4_)) fun v20 h20 => ?_
      refine rd_fld fd37_2 ?_
      refine rd_load ty27 (at_DState_2 hA3) (hx3_.trans hx4_) fun v22 h22 => ?_
      refine (equalFunc_ok h20 (hx2_.trans (hx3_.trans hx4_)) h22 (hx3_.trans hx4_) rfl).mono ?_
      rintro _ w5_ ⟨hx5_, rfl⟩
      refine ⟨(hx1_.trans (hx2_.trans (hx3_.trans (hx4_.trans hx5_)))), ?_⟩
      have : s1 = s2 ↔ s1.stacks = s2.stacks := by
        constructor
        · intro e; rw [e]
        · intro e
          cases s1; cases s2
          simp only [Decidable.not_not] at c1 c2 e
          rw [c1, c2, e]
      simp [this]
def F269 (a0 a1 : Value) (w : World) (R : Value → World → Prop) : Prop :=
 OP Tryz.prog (Instr.box 37 a0) w fun x2 w =>
 OP Tryz.prog (Instr.box 37 a1) w fun x3 w =>
 RD Tryz.prog (Instr.fieldAt 37 x2 0) w fun x6 =>
 RD Tryz.prog (Instr.loadAt 23 x6) w fun x7 =>
 RD Tryz.prog (Instr.fieldAt 37 x3 0) w fun x8 =>
 RD Tryz.prog (Instr.loadAt 23 x8) w fun x9 =>
 CALL Tryz.prog 94 [x7, x9] w fun x10 w =>
 RD Tryz.prog (Op.unary .not x10) w fun x11 =>
 BR x11
 (R (Value.bool false) w)
 (RD Tryz.prog (Instr.fieldAt 37 x2 1) w fun x13 =>
 RD Tryz.prog (Instr.loadAt 23 x13) w fun x14 =>
 RD Tryz.prog (Instr.fieldAt 37 x3 1) w fun x15 =>
 RD Tryz.prog (Instr.loadAt 23 x15) w fun x16 =>
 CALL Tryz.prog 94 [x14, x16] w fun x17 w =>
 RD Tryz.prog (Op.unary .not x17) w fun x18 =>
 BR x18
 (R (Value.bool false) w)
 (RD Tryz.prog (Instr.fieldAt 37 x2 2) w fun x21 =>
 RD Tryz.prog (Instr.loadAt 27 x21) w fun x22 =>
 RD Tryz.prog (Builtin.len_ #[27] 3 [x22].toArray) w fun x23 =>
 RD Tryz.prog (Instr.fieldAt 37 x3 2) w fun x24 =>
 RD Tryz.prog (Instr.loadAt 27 x24) w fun x25 =>
 RD Tryz.prog (Builtin.len_ #[27] 3 [x25].toArray) w fun x26 =>
 RD Tryz.prog (bin .neq 3 (.tmp 0) (.tmp 0) x23 x26) w fun x27 =>
 BR x27
 (R (Value.bool false) w)
 (LOOPI [5] [(Value.int .i64 0)] w fun u4 w next4 =>
 RD Tryz.prog (Instr.fieldAt 37 x2 2) w fun x30 =>
 RD Tryz.prog (Instr.loadAt 27 x30) w fun x31 =>
 RD Tryz.prog (Builtin.len_ #[27] 3 [x31].toArray) w fun x32 =>
 RD Tryz.prog (bin .lss 3 (.tmp 0) (.tmp 0) (u4 5) x32) w fun x33 =>
 BR x33
 ((fun w => RD Tryz.prog (Instr.fieldAt 37 x2 2) w fun x36 =>
 RD Tryz.prog (Instr.loadAt 27 x36) w fun x37 =>
 RD Tryz.prog (Instr.indexAt 27 x37 (u4 5)) w fun x39 =>
 RD Tryz.prog (Instr.loadAt 23 x39) w fun x40 =>
 RD Tryz.prog (Instr.fieldAt 37 x3 2) w fun x41 =>
 RD Tryz.prog (Instr.loadAt 27 x41) w fun x42 =>
 RD Tryz.prog (Instr.indexAt 27 x42 (u4 5)) w fun x44 =>
 RD Tryz.prog (Instr.loadAt 23 x44) w fun x45 =>
 CALL Tryz.prog 94 [x40, x45] w fun x46 w =>
 RD Tryz.prog (Op.unary .not x46) w fun x47 =>
 BR x47
 (R (Value.bool false) w)
 (RD Tryz.prog (bin .add 3 (.tmp 0) (.const undef) (u4 5) (Value.int .i64 1)) w fun x35 =>
 next4 [x35] w)) (World.drew1 w))
 (R (Value.bool true) w))))
def cfg269 : Cfg := { ext := extL, joins := [], loops := [(4, 281474439839792, [5])], draws := [(6, [0, 1, 2, 3, 4, 5, 6, 7, 8, 9, 10, 11], 0)], pars := [] }
theorem F269_eq (a0 a1 : Value) (w : World) (R : Value → World → Prop) : vcF Tryz.prog cfg269 Tryz.f269 [a0, a1] w R = F269 a0 a1 w R := by kernel_rfl
theorem F269_call {a0 a1 : Value} {w : World} {R : Value → World → Prop} (h : F269 a0 a1 w R) : CALL Tryz.prog 269 [a0, a1] w R :=
  call_of (g := cfg269) ent mixed Tryz.func269 (Nat.le_of_ble_eq_true (by kernel_rfl)) (by kernel_rfl) (F269_eq a0 a1 w R ▸ h)
theorem specSameState_ok {w : World} {v0 : Value} {W0 : World} {s1 : DState} {v1 : Value} {W1 : World} {s2 : DState}  (h0 : Is W0 v0 s1) (e0 : Ext W0 w) (h1 : Is W1 v1 s2) (e1 : Ext W1 w)  :
    CALL Tryz.prog 269 [v0, v1] w fun r w' => Ext w w' ∧ (r = .bool (decide (s1 = s2))) := by
  refine F269_call ?_
  unfold F269
  refine op_boxS ty37 rfl h0 e0 fun w1_ hx1_ hA2 hV2 => ?_
  refine op_boxS ty37 rfl h1 (e1.trans hx1_) fun w2_ hx2_ hA3 hV3 => ?_
  refine rd_fld fd37_0 ?_
  refine rd_load ty23 (at_DState_0 hA2) hx2_ fun v7 h7 => ?_
  refine rd_fld fd37_0 ?_
  refine rd_load ty23 (at_DState_0 hA3) (Ext.refl w2_) fun v9 h9 => ?_
  refine (l22Same_ok h7 hx2_ h9 (Ext.refl w2_)).mono ?_
  rintro _ w3_ ⟨hx3_, rfl⟩
  refine rd_nodec ?_
  refine br (fun c1 => ?_) (fun c1 => ?_)
  · refine ⟨(hx1_.trans (hx2_.trans hx3_)), ?_⟩
    have : s1 ≠ s2 := fun e => c1 (by rw [e])
    simp [this]
  · refine rd_fld fd37_1 ?_
    refine rd_load ty23 (at_DState_1 hA2) (hx2_.trans hx3_) fun v14 h14 => ?_
    refine rd_fld fd37_1 ?_
    refine rd_load ty23 (at_DState_1 hA3) hx3_ fun v16 h16 => ?_
    refine (l22Same_ok h14 (hx2_.trans hx3_) h16 hx3_).mono ?_
    rintro _ w4_ ⟨hx4_, rfl⟩
    refine rd_nodec ?_
    refine br (fun c2 => ?_) (fun c2 => ?_)
    · refine ⟨(hx1_.trans (hx2_.trans (hx3_.trans hx4_))), ?_⟩
      have : s1 ≠ s2 := fun e => c2 (by rw [e])
      simp [this]
    · refine rd_fld fd37_2 ?_
      refine rd_load ty27 (at_DState_2 hA2) (hx2_.trans (hx3_.trans hx4_)) fun v22 h22 => ?_
      have hln23 := is_len h22
      refine rd_len u27 h22 ?_
      refine rd_fld fd37_2 ?_
      refine rd_load ty27 (at_DState_2 hA3) (hx3_.trans hx4_) fun v25 h25 => ?_
      have hln26 := is_len h25
      refine rd_len u27 h25 ?_
      refine rd_neq ?_
      refine br (fun c3 => ?_) (fun c3 => ?_)
      · refine ⟨(hx1_.trans (hx2_.trans (hx3_.trans hx4_))), ?_⟩
        have : s1 ≠ s2 := fun e => c3 (by rw [e])
        simp [this]
      · refine loopC (s1.stacks.length) (fun k us w' => us = [.int .i64 (k : Int)] ∧ Ext w4_ w' ∧ (s1.stacks.take k = s2.stacks.take k)) (0) (by omega) ⟨by simp, Ext.refl w4_, by simp⟩ ?_
        rintro k m4 uu4 w5_ hk4 ⟨hu, hx5_, hinv⟩
        simp only [List.map_cons, List.map_nil, List.cons.injEq, and_true] at hu
        try rw [hu]
        try clear hu
        refine rd_fld fd37_2 ?_
        refine rd_load ty27 (at_DState_2 hA2) (hx2_.trans (hx3_.trans (hx4_.trans hx5_))) fun v31 h31 => ?_
        have hln32 := is_len h31
        refine rd_len u27 h31 ?_
        refine rd_lss ?_
        refine br (fun c4 => ?_) (fun c4 => ?_)
        · have hx6_ := ext_drew w5_
          refine rd_fld fd37_2 ?_
          refine rd_load ty27 (at_DState_2 hA2) (hx2_.trans (hx3_.trans (hx4_.trans (hx5_.trans hx6_)))) fun v37 h37 => ?_
          refine rd_indexN u27 ty23 h37 (by omega) fun b39 o39 h39 => ?_
          refine rd_load ty23 h39 (hx2_.trans (hx3_.trans (hx4_.trans (hx5_.trans hx6_)))) fun v40 h40 => ?_
          refine rd_fld fd37_2 ?_
          refine rd_load ty27 (at_DState_2 hA3) (hx3_.trans (hx4_.trans (hx5_.trans hx6_))) fun v42 h42 => ?_
          refine rd_indexN u27 ty23 h42 (by omega) fun b44 o44 h44 => ?_
          refine rd_load ty23 h44 (hx3_.trans (hx4_.trans (hx5_.trans hx6_))) fun v45 h45 => ?_
          refine (l22Same_ok h40 (hx2_.trans (hx3_.trans (hx4_.trans (hx5_.trans hx6_)))) h45 (hx3_.trans (hx4_.trans (hx5_.trans hx6_)))).mono ?_
          rintro _ w7_ ⟨hx7_, rfl⟩
          refine rd_nodec ?_
          refine br (fun c5 => ?_) (fun c5 => ?_)
          · refine ⟨(hx1_.trans (hx2_.trans (hx3_.trans (hx4_.trans (hx5_.trans (hx6_.trans hx7_)))))), ?_⟩
            have : s1 ≠ s2 := fun e => c5 (by subst e; rfl)
            simp [this]
          · refine rd_inc (by omega) ?_
            refine ⟨m4 - 1, by omega, k + 1, by omega, by simp, (hx5_.trans (hx6_.trans hx7_)), ?_⟩
            rw [List.take_succ_eq_append_getElem (by omega), List.take_succ_eq_append_getElem (by omega), hinv, Decidable.not_not.1 c5]
        · refine ⟨(hx1_.trans (hx2_.trans (hx3_.trans (hx4_.trans hx5_)))), ?_⟩
          rw [List.take_of_length_le (by omega), List.take_of_length_le (by omega)] at hinv
          have : s1 = s2 := by
            cases s1; cases s2
            simp only [Decidable.not_not] at c1 c2 hinv
            rw [c1, c2, hinv]
          simp [this]
end Go.Proofs.YtjgfldfbljmhhaaGreat
