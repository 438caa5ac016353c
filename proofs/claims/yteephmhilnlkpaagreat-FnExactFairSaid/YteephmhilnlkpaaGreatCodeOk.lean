/-
  Code: the program's test and the reference's test tell the same.
-/
import Derived.Test.YteephmhilnlkpaaGreatCode
namespace Go.Proofs.YteephmhilnlkpaaGreat
open Go Go.Sh Go.Proofs
set_option linter.unusedVariables false
set_option linter.unusedSimpArgs false

/-- impl.endOfProc -/
def F137 (a0 a1 : Value) (w : World) (R : Value → World → Prop) : Prop :=
  OP Tryz.prog (Instr.box 37 a0) w fun x2 w =>
  RD Tryz.prog (bin .add 3 (.tmp 0) (.const undef) a1 (Value.int .i64 1)) w fun x6 =>
  RD Tryz.prog (Instr.fieldAt 37 x2 3) w fun x7 =>
  RD Tryz.prog (Instr.loadAt 23 x7) w fun x8 =>
  RD Tryz.prog (Builtin.len_ #[23] 3 [x8].toArray) w fun x9 =>
  RD Tryz.prog (bin .lss 3 (.tmp 0) (.tmp 0) x6 x9) w fun x10 =>
  BR x10
   (RD Tryz.prog (Instr.fieldAt 37 x2 3) w fun x11 =>
   RD Tryz.prog (Instr.loadAt 23 x11) w fun x12 =>
   RD Tryz.prog (bin .add 3 (.tmp 0) (.const undef) a1 (Value.int .i64 1)) w fun x14 =>
   RD Tryz.prog (Instr.indexAt 23 x12 x14) w fun x15 =>
   RD Tryz.prog (Instr.loadAt 3 x15) w fun x16 =>
   R x16 w)
   (RD Tryz.prog (Instr.fieldAt 37 x2 4) w fun x17 =>
   RD Tryz.prog (Instr.loadAt 35 x17) w fun x18 =>
   RD Tryz.prog (Builtin.len_ #[35] 3 [x18].toArray) w fun x19 =>
   R x19 w)
def cfg137 : Cfg := { ext := extL, joins := [], loops := [], draws := [], pars := [] }
theorem F137_eq (a0 a1 : Value) (w : World) (R : Value → World → Prop) : vcF Tryz.prog cfg137 Tryz.f137 [a0, a1] w R = F137 a0 a1 w R := by kernel_rfl
theorem F137_call {a0 a1 : Value} {w : World} {R : Value → World → Prop} (h : F137 a0 a1 w R) : CALL Tryz.prog 137 [a0, a1] w R :=
  call_of (g := cfg137) ent mixed Tryz.func137 (Nat.le_of_ble_eq_true (by kernel_rfl)) (by kernel_rfl) (F137_eq a0 a1 w R ▸ h)


theorem endOfProc_ok {w : World} {v0 : Value} {W0 : World} {c : DCode} {i : Nat}  (h0 : Is W0 v0 c) (e0 : Ext W0 w) (hi : i < 1000000000000) :
    CALL Tryz.prog 137 [v0, .int .i64 (i : Int)] w fun r w' => Ext w w' ∧ (r = .int .i64 (endB c i)) := by
  refine F137_call ?_
  unfold F137
  refine op_boxS ty37 rfl h0 e0 fun w1_ hx1_ hA2 hV2 => ?_
  refine rd_inc (by omega) ?_
  refine rd_fld fd37_3 ?_
  refine rd_load ty23 (at_DCode_3 hA2) (Ext.refl w1_) fun v8 h8 => ?_
  have hln9 := is_len h8
  refine rd_len u23 h8 ?_
  refine rd_lss ?_
  refine br (fun c1 => ?_) (fun c1 => ?_)
  · refine rd_fld fd37_3 ?_
    refine rd_load ty23 (at_DCode_3 hA2) (Ext.refl w1_) fun v12 h12 => ?_
    refine rd_inc (by omega) ?_
    refine rd_indexN u23 ty3 h12 (by omega) fun b15 o15 h15 => ?_
    refine rd_loadI ty3 h15 (Ext.refl w1_) fun hI16 => ?_
    refine ⟨hx1_, ?_⟩
    unfold endB; rw [if_pos (by omega), en_get]
  · refine rd_fld fd37_4 ?_
    refine rd_load ty35 (at_DCode_4 hA2) (Ext.refl w1_) fun v18 h18 => ?_
    have hln19 := is_len h18
    refine rd_len u35 h18 ?_
    refine ⟨hx1_, ?_⟩
    unfold endB; rw [if_neg (by omega)]


theorem ends_mono (c : DCode) {a b : Nat} (h : a ≤ b) : ends c a ≤ ends c b := by
  induction b with
  | zero => rw [Nat.le_zero.1 h]; exact Nat.le_refl _
  | succ b ih =>
    by_cases e : a = b + 1
    · rw [e]; exact Nat.le_refl _
    · have := ih (by omega); rw [ends]; omega
/-- the facts of entries that both tests share -/
structure EntF (c : DCode) : Prop where
  len : c.entry.length = c.procs.length
  ins : c.ins.length ≤ 1500
  zero : en c 0 = 0
  lt : ∀ i, i < c.entry.length → en c i < endB c i ∧ endB c i ≤ c.ins.length
theorem EntF.nonneg {c : DCode} (h : EntF c) {i : Nat} (hi : i < c.entry.length) : 0 ≤ en c i := entI_nonneg h.zero hi fun j hj => (h.lt j (by omega)).1
theorem EntF.step {c : DCode} (h : EntF c) {i : Nat} (hi : i + 1 < c.entry.length) : endB c i = en c (i + 1) := by unfold endB; rw [if_pos hi]
theorem EntF.last {c : DCode} (h : EntF c) {i : Nat} (hi : i + 1 = c.entry.length) : endB c i = c.ins.length := by unfold endB; rw [if_neg (by omega)]
theorem EntF.mono {c : DCode} (h : EntF c) : ∀ {i j : Nat}, i < j → j < c.entry.length → endB c i ≤ en c j
  | i, j + 1, hij, hj => by
    by_cases e : i = j
    · subst e; rw [h.step hj]; exact Int.le_refl _
    · have h1 := h.mono (i := i) (j := j) (by omega) (by omega)
      have h2 := (h.lt j (by omega)).1
      rw [h.step hj] at h2
      omega
/-- where a place lies -/
theorem EntF.proc {c : DCode} (h : EntF c) {i : Nat} {a : Int} (hi : i < c.entry.length) (h1 : en c i ≤ a) (h2 : a < endB c i) : procOf c a = i := by
  unfold procOf
  rw [prc_skip (m := i + 1) (by omega) fun j hj1 hj2 => by have := h.mono (i := i) (j := j) (by omega) hj2; omega]
  rw [prc, if_pos h1]
theorem EntF.find {c : DCode} (h : EntF c) (hp : 0 < c.procs.length) {a : Int} (h0 : 0 ≤ a) (h1 : a < c.ins.length) : ∃ i, i < c.entry.length ∧ en c i ≤ a ∧ a < endB c i ∧ procOf c a = i := by
  have hlen := h.len
  have h2 : 0 ≤ procOf c a := prc_nonneg (by rw [h.zero]; exact h0) (by omega)
  have h3 := (procOf_lt (c := c) (a := a)).2
  have key : ∀ n, n ≤ c.entry.length → (∀ j, n ≤ j → j < c.entry.length → a < en c j) → 0 < n → ∃ i, i < n ∧ en c i ≤ a ∧ a < endB c i := by
    intro n
    induction n with
    | zero => intro _ _ h; omega
    | succ n ih =>
      intro hn hj _
      by_cases hle : en c n ≤ a
      · refine ⟨n, by omega, hle, ?_⟩
        by_cases hl : n + 1 < c.entry.length
        · rw [h.step hl]; exact hj (n + 1) (by omega) hl
        · rw [h.last (by omega)]; exact h1
      · by_cases h0n : n = 0
        · subst h0n; rw [h.zero] at hle; omega
        · obtain ⟨i, hi, hx⟩ := ih (by omega) (fun j hj1 hj2 => by
            by_cases e : j = n
            · subst e; omega
            · exact hj j (by omega) hj2) (by omega)
          exact ⟨i, by omega, hx⟩
  obtain ⟨i, hi, hx, hy⟩ := key c.entry.length (Nat.le_refl _) (fun j hj1 hj2 => by omega) (by omega)
  exact ⟨i, hi, hx, hy, h.proc hi hx hy⟩
theorem EntS.f {c : DCode} (h : EntS c) (hp : 0 < c.procs.length) : EntF c := by
  obtain ⟨h1, h2, h3, h4⟩ := h
  refine ⟨h1, h2, (h3 0 (by omega)).1 rfl, fun i hi => ?_⟩
  unfold endB
  split
  · rename_i hl
    have := h3 (i + 1) hl
    have h5 := this.2.1 (by omega)
    simp only [Nat.add_sub_cancel] at h5
    exact ⟨h5, by omega⟩
  · exact ⟨(h3 i hi).2.2, Int.le_refl _⟩
theorem EntI.f {c : DCode} (h : EntI c) : EntF c := ⟨h.2.1, h.1, h.2.2.1, fun i hi => ⟨(h.2.2.2.2 i hi).1, (h.2.2.2.2 i hi).2.1⟩⟩
theorem ends_eq (c : DCode) (a : Nat) : ∀ (d : Nat), ends c a ≤ ends c (a + d) ∧ (ends c (a + d) = ends c a ↔ ∀ j, a ≤ j → j < a + d → ¬ (insAt c j).op = 9)
  | 0 => ⟨Nat.le_refl _, ⟨fun _ j h1 h2 => by omega, fun _ => rfl⟩⟩
  | d + 1 => by
    obtain ⟨h1, h2⟩ := ends_eq c a d
    rw [← Nat.add_assoc, ends]
    refine ⟨by omega, ?_⟩
    split
    · rename_i h9
      exact ⟨fun h => by omega, fun h => absurd h9 (h (a + d) (by omega) (by omega))⟩
    · rename_i h9
      rw [Nat.add_zero, h2]
      constructor
      · intro h j hj1 hj2
        by_cases e : j = a + d
        · subst e; exact h9
        · exact h j hj1 (by omega)
      · exact fun h j hj1 hj2 => h j hj1 (by omega)
/-- where the n-th procedure begins, or the code ends -/
def eb (c : DCode) (n : Nat) : Nat := if n = 0 then 0 else (endB c (n - 1)).toNat
theorem EntF.eb_en {c : DCode} (h : EntF c) {n : Nat} (hn : n < c.entry.length) : (eb c n : Int) = en c n := by
  unfold eb
  split
  · rename_i h0; subst h0; rw [h.zero]; rfl
  · have h1 := h.nonneg hn
    have h2 : endB c (n - 1) = en c n := by
      have := h.step (i := n - 1) (by omega)
      rwa [show n - 1 + 1 = n by omega] at this
    rw [h2]; omega
theorem EntF.eb_succ {c : DCode} (h : EntF c) {n : Nat} (hn : n < c.entry.length) : (eb c (n + 1) : Int) = endB c n := by
  unfold eb
  rw [if_neg (by omega), Nat.add_sub_cancel]
  have := (h.lt n hn).1
  have := h.nonneg hn
  omega
/-- with an end at the end of each procedure there are as many ends as procedures just when there is no other -/
theorem ends_count {c : DCode} (h : EntF c) (he : ∀ i, i < c.entry.length → (insAt c (endB c i - 1).toNat).op = 9) : ∀ n, n ≤ c.entry.length →
    n ≤ ends c (eb c n) ∧ (ends c (eb c n) = n ↔ ∀ j : Nat, j < eb c n → (insAt c j).op = 9 → ∃ i, i < n ∧ endB c i = j + 1)
  | 0, _ => ⟨Nat.zero_le _, ⟨fun _ j hj => by simp [eb] at hj, fun _ => rfl⟩⟩
  | n + 1, hn => by
    obtain ⟨h1, h2⟩ := ends_count h he n (by omega)
    have ha := h.eb_en (n := n) (by omega)
    have hb := h.eb_succ (n := n) (by omega)
    have hlt := (h.lt n (by omega)).1
    have h9 := he n (by omega)
    have e9 : (endB c n - 1).toNat = eb c (n + 1) - 1 := by omega
    rw [e9] at h9
    obtain ⟨d, hd⟩ : ∃ d, eb c (n + 1) = eb c n + d + 1 := ⟨eb c (n + 1) - eb c n - 1, by omega⟩
    have hd' : eb c (n + 1) - 1 = eb c n + d := by omega
    rw [hd'] at h9
    obtain ⟨h3, h4⟩ := ends_eq c (eb c n) d
    rw [hd, ends, if_pos h9]
    refine ⟨by omega, ?_⟩
    have hsplit : ends c (eb c n + d) + 1 = n + 1 ↔ (ends c (eb c n) = n ∧ ends c (eb c n + d) = ends c (eb c n)) := by omega
    rw [hsplit, h2, h4]
    constructor
    · rintro ⟨p1, p2⟩ j hj hj9
      by_cases hja : j < eb c n
      · obtain ⟨i, hi, hx⟩ := p1 j hja hj9
        exact ⟨i, by omega, hx⟩
      · by_cases hje : j = eb c n + d
        · exact ⟨n, by omega, by omega⟩
        · exact absurd hj9 (p2 j (by omega) (by omega))
    · intro p
      constructor
      · intro j hj hj9
        obtain ⟨i, hi, hx⟩ := p j (by omega) hj9
        by_cases hin : i = n
        · subst hin; omega
        · exact ⟨i, by omega, hx⟩
      · intro j hj1 hj2 hj9
        obtain ⟨i, hi, hx⟩ := p j (by omega) hj9
        by_cases hin : i = n
        · subst hin; omega
        · have := h.mono (i := i) (j := n) (by omega) (by omega)
          omega
theorem ent_iff {c : DCode} (hp : 0 < c.procs.length) : EntI c ↔ EntS c := by
  constructor
  · intro h
    have hf := h.f
    obtain ⟨_, _, _, hc, hall⟩ := h
    have hlen := hf.len
    have he : ∀ i, i < c.entry.length → (insAt c (endB c i - 1).toNat).op = 9 := fun i hi => (hall i hi).2.2
    obtain ⟨_, h2⟩ := ends_count hf he c.entry.length (Nat.le_refl _)
    have hb : eb c c.entry.length = c.ins.length := by
      have := hf.eb_succ (n := c.entry.length - 1) (by omega)
      rw [hf.last (by omega), show c.entry.length - 1 + 1 = c.entry.length by omega] at this
      omega
    rw [hb] at h2
    have h3 := h2.1 hc
    refine ⟨hf.len, hf.ins, fun i hi => ⟨fun _ => hf.zero, fun h0 => ?_, ?_⟩, fun j hj => ?_⟩
    · have h4 := (hf.lt (i - 1) (by omega)).1
      have h5 := hf.step (i := i - 1) (by omega)
      rw [show i - 1 + 1 = i by omega] at h5
      omega
    · have := hf.lt i hi; omega
    · obtain ⟨i, hi, hx, hy, hpr⟩ := hf.find hp (a := j) (by omega) (by omega)
      rw [hpr, endOf_eq]
      constructor
      · intro h9
        obtain ⟨i', hi', hx'⟩ := h3 j hj h9
        have := hf.lt i' hi'
        have hpr' := hf.proc (a := j) hi' (by omega) (by omega)
        have : i' = i := by omega
        subst this
        omega
      · intro h9
        have := he i hi
        rwa [show (endB c i - 1).toNat = j by omega] at this
  · intro h
    have hf := h.f hp
    have hlen := hf.len
    have h4 := h.2.2.2
    have he : ∀ i, i < c.entry.length → (insAt c (endB c i - 1).toNat).op = 9 := fun i hi => by
      have h1 := hf.lt i hi
      have h0 := hf.nonneg hi
      have := (h4 (endB c i - 1).toNat (by omega)).2
      refine this ?_
      rw [hf.proc (i := i) hi (by omega) (by omega), endOf_eq]
      omega
    obtain ⟨_, h2⟩ := ends_count hf he c.entry.length (Nat.le_refl _)
    have hb : eb c c.entry.length = c.ins.length := by
      have := hf.eb_succ (n := c.entry.length - 1) (by omega)
      rw [hf.last (by omega), show c.entry.length - 1 + 1 = c.entry.length by omega] at this
      omega
    rw [hb] at h2
    refine ⟨hf.ins, hf.len, hf.zero, h2.2 fun j hj h9 => ?_, fun i hi => ⟨(hf.lt i hi).1, (hf.lt i hi).2, he i hi⟩⟩
    obtain ⟨i, hi, hx, hy, hpr⟩ := hf.find hp (a := j) (by omega) (by omega)
    have := (h4 j hj).1 h9
    rw [hpr, endOf_eq] at this
    exact ⟨i, hi, by omega⟩
theorem codeR_iff {c : DCode} (hn : NamesR c) (he : EntI c) : CodeR c ↔ ∀ i, i < c.entry.length → ∀ j : Nat, en c i ≤ j → (j : Int) < endB c i → InsR c (insAt c j) (en c i) (endB c i) := by
  have hf := he.f
  have hp := hn.procs8.2
  constructor
  · intro h i hi j h1 h2
    have h3 := hf.lt i hi
    have := h.2.2 j (by omega)
    rw [hf.proc hi h1 h2, endOf_eq, Int.toNat_natCast] at this
    rwa [Int.sub_add_cancel] at this
  · intro h
    refine ⟨hn, (ent_iff hp).1 he, fun j hj => ?_⟩
    obtain ⟨i, hi, hx, hy, hpr⟩ := hf.find hp (a := j) (by omega) (by omega)
    rw [hpr, endOf_eq, Int.toNat_natCast, Int.sub_add_cancel]
    exact h i hi j hx hy
/-- impl.CodeOk -/
def F81 (a0 : Value) (w : World) (R : Value → World → Prop) : Prop :=
  OP Tryz.prog (Instr.box 37 a0) w fun x1 w =>
  RD Tryz.prog (Instr.loadAt 37 x1) w fun x8 =>
  CALL Tryz.prog 135 [x8] w fun x9 w =>
  RD Tryz.prog (Op.unary .not x9) w fun x10 =>
  BR x10
  (R (Value.bool false) w)
  (RD Tryz.prog (Instr.loadAt 37 x1) w fun x12 =>
  CALL Tryz.prog 136 [x12] w fun x13 w =>
  RD Tryz.prog (Op.unary .not x13) w fun x14 =>
  BR x14
   (R (Value.bool false) w)
   (RD Tryz.prog (Instr.fieldAt 37 x1 3) w fun x16 =>
   RD Tryz.prog (Instr.loadAt 23 x16) w fun x17 =>
   RD Tryz.prog (Builtin.len_ #[23] 3 [x17].toArray) w fun x18 =>
   LOOPI [19] [(Value.int .i64 0)] w fun u4 w next4 =>
    RD Tryz.prog (bin .lss 3 (.tmp 0) (.tmp 0) (u4 19) x18) w fun x20 =>
    BR x20
     (RD Tryz.prog (Instr.indexAt 23 x17 (u4 19)) w fun x22 =>
     RD Tryz.prog (Instr.loadAt 3 x22) w fun x23 =>
     RD Tryz.prog (Instr.loadAt 37 x1) w fun x24 =>
     CALL Tryz.prog 137 [x24, (u4 19)] w fun x26 w =>
     RD Tryz.prog (Instr.fieldAt 37 x1 4) w fun x27 =>
     RD Tryz.prog (Instr.loadAt 35 x27) w fun x28 =>
     RD Tryz.prog (Instr.sliceAt 35 x28 (some x23) (some x26) none) w fun x31 =>
     RD Tryz.prog (Builtin.len_ #[35] 3 [x31].toArray) w fun x32 =>
     LOOPI [33] [(Value.int .i64 0)] w fun u8 w next8 =>
      RD Tryz.prog (bin .lss 3 (.tmp 0) (.tmp 0) (u8 33) x32) w fun x34 =>
      BR x34
       (RD Tryz.prog (Instr.indexAt 35 x31 (u8 33)) w fun x35 =>
       RD Tryz.prog (Instr.loadAt 135 x35) w fun x36 =>
       OP Tryz.prog (Instr.alloc 135 true (.tuple #[])) w fun x7 w =>
       OPU Tryz.prog (Instr.storeAt 135 x7 x36) w fun w =>
       RD Tryz.prog (Instr.loadAt 37 x1) w fun x37 =>
       RD Tryz.prog (Instr.loadAt 135 x7) w fun x38 =>
       CALL Tryz.prog 138 [x37, x38, x23, x26] w fun x41 w =>
       RD Tryz.prog (Op.unary .not x41) w fun x42 =>
       BR x42
        (R (Value.bool false) w)
        (RD Tryz.prog (bin .add 3 (.tmp 0) (.const undef) (u8 33) (Value.int .i64 1)) w fun x43 =>
        next8 [x43] w))
       (RD Tryz.prog (bin .add 3 (.tmp 0) (.const undef) (u4 19) (Value.int .i64 1)) w fun x44 =>
       next4 [x44] w))
     (R (Value.bool true) w)))
def cfg81 : Cfg := { ext := extL, joins := [], loops := [(4, 35184371564732, [19]), (8, 17583596109956, [33])], draws := [], pars := [] }
theorem F81_eq (a0 : Value) (w : World) (R : Value → World → Prop) : vcF Tryz.prog cfg81 Tryz.f81 [a0] w R = F81 a0 w R := by kernel_rfl
theorem F81_call {a0 : Value} {w : World} {R : Value → World → Prop} (h : F81 a0 w R) : CALL Tryz.prog 81 [a0] w R :=
  call_of (g := cfg81) ent mixed Tryz.func81 (Nat.le_of_ble_eq_true (by kernel_rfl)) (by kernel_rfl) (F81_eq a0 w R ▸ h)


theorem implCodeOk_ok {w : World} {v0 : Value} {W0 : World} {c : DCode}  (h0 : Is W0 v0 c) (e0 : Ext W0 w)  :
    CALL Tryz.prog 81 [v0] w fun r w' => Ext w w' ∧ (r = .bool (decide (CodeR c))) := by
  refine F81_call ?_
  unfold F81
  refine op_boxS ty37 rfl h0 e0 fun w1_ hx1_ hA1 hV1 => ?_
  refine rd_var hV1 (Ext.refl w1_) ?_
  refine (namesRight_ok h0 (e0.trans hx1_)).mono ?_
  rintro _ w2_ ⟨hx2_, rfl⟩
  refine rd_nodec ?_
  refine br (fun c1 => ?_) (fun c1 => ?_)
  · refine ⟨(hx1_.trans hx2_), ?_⟩
    have : ¬ CodeR c := fun h => c1 h.1
    simp only [this, decide_false]
  · refine rd_var hV1 hx2_ ?_
    refine (entriesRight_ok h0 (e0.trans (hx1_.trans hx2_)) (Decidable.not_not.1 c1).procs8.2).mono ?_
    rintro _ w3_ ⟨hx3_, rfl⟩
    refine rd_nodec ?_
    refine br (fun c2 => ?_) (fun c2 => ?_)
    · refine ⟨(hx1_.trans (hx2_.trans hx3_)), ?_⟩
      have : ¬ CodeR c := fun h => c2 ((ent_iff h.1.procs8.2).2 h.2.1)
      simp only [this, decide_false]
    · refine rd_fld fd37_3 ?_
      refine rd_load ty23 (at_DCode_3 hA1) (hx2_.trans hx3_) fun v17 h17 => ?_
      have hln18 := is_len h17
      refine rd_len u23 h17 ?_
      refine loopC (c.entry.length) (fun q us w' => us = [.int .i64 (q : Int)] ∧ Ext w3_ w' ∧ (∀ i, i < q → ∀ j : Nat, en c i ≤ j → (j : Int) < endB c i → InsR c (insAt c j) (en c i) (endB c i))) (0) (by omega) ⟨by simp, Ext.refl w3_, fun i h => by omega⟩ ?_
      rintro q m4 uu4 w4_ hk4 ⟨hu, hx4_, hent⟩
      simp only [List.map_cons, List.map_nil, List.cons.injEq, and_true] at hu
      try rw [hu]
      try clear hu
      replace c1 := Decidable.not_not.1 c1; replace c2 := Decidable.not_not.1 c2; have hln4 := is_len h17
      refine rd_lss ?_
      refine br (fun c3 => ?_) (fun c3 => ?_)
      · refine rd_indexN u23 ty3 h17 (by omega) fun b22 o22 h22 => ?_
        refine rd_loadI ty3 h22 (hx2_.trans (hx3_.trans hx4_)) fun hI23 => ?_
        rw [en_get]
        have h8 := c1.procs8
        have hlq := c2.f.lt q (by omega)
        have hnq := c2.f.nonneg (i := q) (by omega)
        have hlen := c2.f.len
        refine rd_var hV1 (hx2_.trans (hx3_.trans hx4_)) ?_
        refine (endOfProc_ok h0 (e0.trans (hx1_.trans (hx2_.trans (hx3_.trans hx4_)))) (by omega)).mono ?_
        rintro _ w5_ ⟨hx5_, rfl⟩
        refine rd_fld fd37_4 ?_
        refine rd_load ty35 (at_DCode_4 hA1) (hx2_.trans (hx3_.trans (hx4_.trans hx5_))) fun v28 h28 => ?_
        refine rd_slice_both u35 ty135 h28 (by omega) (by omega) (by omega) fun v31 h31 => ?_
        have hln32 := is_len h31
        refine rd_len u35 h31 ?_
        refine loopC ((endB c q).toNat - (en c q).toNat) (fun k us w' => us = [.int .i64 (k : Int)] ∧ Ext w5_ w' ∧ (∀ j : Nat, en c q ≤ j → (j : Int) < en c q + k → InsR c (insAt c j) (en c q) (endB c q))) (0) (by omega) ⟨by simp, Ext.refl w5_, fun j h1 h2 => by omega⟩ ?_
        rintro k m8 uu8 w6_ hk8 ⟨hu, hx6_, hinv⟩
        simp only [List.map_cons, List.map_nil, List.cons.injEq, and_true] at hu
        try rw [hu]
        try clear hu
        have hl31 : ((c.ins.take (endB c q).toNat).drop (en c q).toNat).length = (endB c q).toNat - (en c q).toNat := by rw [List.length_drop, List.length_take]; omega
        refine rd_lss ?_
        refine br (fun c4 => ?_) (fun c4 => ?_)
        · refine rd_indexN u35 ty135 h31 (by omega) fun b35 o35 h35 => ?_
          refine rd_load ty135 h35 (hx2_.trans (hx3_.trans (hx4_.trans (hx5_.trans hx6_)))) fun v36 h36 => ?_
          rw [List.getElem_drop, List.getElem_take, insAt_get] at h36
          refine op_var zl135 rfl ty135 rfl h36 (hx2_.trans (hx3_.trans (hx4_.trans (hx5_.trans hx6_)))) fun w7_ hx7_ hA7 hV7 => ?_
          refine rd_var hV1 (hx2_.trans (hx3_.trans (hx4_.trans (hx5_.trans (hx6_.trans hx7_))))) ?_
          refine rd_var hV7 (Ext.refl w7_) ?_
          refine (insRight_ok h0 (e0.trans (hx1_.trans (hx2_.trans (hx3_.trans (hx4_.trans (hx5_.trans (hx6_.trans hx7_))))))) h36 (hx2_.trans (hx3_.trans (hx4_.trans (hx5_.trans (hx6_.trans hx7_)))))).mono ?_
          rintro _ w8_ ⟨hx8_, rfl⟩
          refine rd_nodec ?_
          refine br (fun c5 => ?_) (fun c5 => ?_)
          · refine ⟨(hx1_.trans (hx2_.trans (hx3_.trans (hx4_.trans (hx5_.trans (hx6_.trans (hx7_.trans hx8_))))))), ?_⟩
            have : ¬ CodeR c := fun h => c5 ((codeR_iff c1 c2).1 h q (by omega) _ (by omega) (by omega))
            simp only [this, decide_false]
          · refine rd_inc (by omega) ?_
            refine ⟨m8 - 1, by omega, k + 1, by omega, by simp, (hx6_.trans (hx7_.trans hx8_)), ?_⟩
            intro j h1 h2
            by_cases hj : j = (en c q).toNat + k
            · subst hj; exact Decidable.not_not.1 c5
            · exact hinv j h1 (by omega)
        · refine rd_inc (by omega) ?_
          refine ⟨m4 - 1, by omega, q + 1, by omega, by simp, (hx4_.trans (hx5_.trans hx6_)), ?_⟩
          intro i hi j h1 h2
          by_cases hiq : i = q
          · subst hiq; exact hinv j h1 (by omega)
          · exact hent i (by omega) j h1 h2
      · refine ⟨(hx1_.trans (hx2_.trans (hx3_.trans hx4_))), ?_⟩
        have : CodeR c := (codeR_iff c1 c2).2 fun i hi => hent i (by omega)
        simp only [this, decide_true]

end Go.Proofs.YteephmhilnlkpaaGreat
