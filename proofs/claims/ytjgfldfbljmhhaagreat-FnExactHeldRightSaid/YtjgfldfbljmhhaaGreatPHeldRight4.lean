/-
  Parts of the proof, put together by program.
-/
import Derived.Test.YtjgfldfbljmhhaaGreatPHeldRight3
namespace Go.Proofs.YtjgfldfbljmhhaaGreat
open Go Go.Sh Go.Proofs
set_option linter.unusedVariables false
set_option linter.unusedSimpArgs false
/-- impl.endOfProc -/
def F133 (a0 a1 : Value) (w : World) (R : Value → World → Prop) : Prop :=
  OP Tryz.prog (Instr.box 35 a0) w fun x2 w =>
  RD Tryz.prog (bin .add 3 (.tmp 0) (.const undef) a1 (Value.int .i64 1)) w fun x6 =>
  RD Tryz.prog (Instr.fieldAt 35 x2 3) w fun x7 =>
  RD Tryz.prog (Instr.loadAt 23 x7) w fun x8 =>
  RD Tryz.prog (Builtin.len_ #[23] 3 [x8].toArray) w fun x9 =>
  RD Tryz.prog (bin .lss 3 (.tmp 0) (.tmp 0) x6 x9) w fun x10 =>
  BR x10
   (RD Tryz.prog (Instr.fieldAt 35 x2 3) w fun x11 =>
   RD Tryz.prog (Instr.loadAt 23 x11) w fun x12 =>
   RD Tryz.prog (bin .add 3 (.tmp 0) (.const undef) a1 (Value.int .i64 1)) w fun x14 =>
   RD Tryz.prog (Instr.indexAt 23 x12 x14) w fun x15 =>
   RD Tryz.prog (Instr.loadAt 3 x15) w fun x16 =>
   R x16 w)
   (RD Tryz.prog (Instr.fieldAt 35 x2 4) w fun x17 =>
   RD Tryz.prog (Instr.loadAt 33 x17) w fun x18 =>
   RD Tryz.prog (Builtin.len_ #[33] 3 [x18].toArray) w fun x19 =>
   R x19 w)
def cfg133 : Cfg := { ext := extL, joins := [], loops := [], draws := [], pars := [] }
theorem F133_eq (a0 a1 : Value) (w : World) (R : Value → World → Prop) : vcF Tryz.prog cfg133 Tryz.f133 [a0, a1] w R = F133 a0 a1 w R := by kernel_rfl
theorem F133_call {a0 a1 : Value} {w : World} {R : Value → World → Prop} (h : F133 a0 a1 w R) : CALL Tryz.prog 133 [a0, a1] w R :=
  call_of (g := cfg133) ent mixed Tryz.func133 (Nat.le_of_ble_eq_true (by kernel_rfl)) (by kernel_rfl) (F133_eq a0 a1 w R ▸ h)
theorem endOfProc_ok {w : World} {v0 : Value} {W0 : World} {c : DCode} {i : Nat}  (h0 : Is W0 v0 c) (e0 : Ext W0 w) (hi : i < 1000000000000) :
    CALL Tryz.prog 133 [v0, .int .i64 (i : Int)] w fun r w' => Ext w w' ∧ (r = .int .i64 (endB c i)) := by
  refine F133_call ?_
  unfold F133
  refine op_boxS ty35 rfl h0 e0 fun w1_ hx1_ hA2 hV2 => ?_
  refine rd_inc (by omega) ?_
  refine rd_fld fd35_3 ?_
  refine rd_load ty23 (at_DCode_3 hA2) (Ext.refl w1_) fun v8 h8 => ?_
  have hln9 := is_len h8
  refine rd_len u23 h8 ?_
  refine rd_lss ?_
  refine br (fun c1 => ?_) (fun c1 => ?_)
  · refine rd_fld fd35_3 ?_
    refine rd_load ty23 (at_DCode_3 hA2) (Ext.refl w1_) fun v12 h12 => ?_
    refine rd_inc (by omega) ?_
    refine rd_indexN u23 ty3 h12 (by omega) fun b15 o15 h15 => ?_
    refine rd_loadI ty3 h15 (Ext.refl w1_) fun hI16 => ?_
    refine ⟨hx1_, ?_⟩
    unfold endB; rw [if_pos (by omega), en_get]
  · refine rd_fld fd35_4 ?_
    refine rd_load ty33 (at_DCode_4 hA2) (Ext.refl w1_) fun v18 h18 => ?_
    have hln19 := is_len h18
    refine rd_len u33 h18 ?_
    refine ⟨hx1_, ?_⟩
    unfold endB; rw [if_neg (by omega)]
/-- the facts of entries that both tests share -/
structure EntF (c : DCode) : Prop where
  len : c.entry.length = c.procs.length
  ins : c.ins.length ≤ 1500
  zero : en c 0 = 0
  lt : ∀ i, i < c.entry.length → en c i < endB c i ∧ endB c i ≤ c.ins.length
theorem EntF.nonneg {c : DCode} (h : EntF c) {i : Nat} (hi : i < c.entry.length) : 0 ≤ en c i := entI_nonneg h.zero hi fun j hj => (h.lt j (by omega)).1
theorem EntF.step {c : DCode} (h : EntF c) {i : Nat} (hi : i + 1 < c.entry.length) : endB c i = en c (i + 1) := by unfold endB; rw [if_pos hi]
theorem EntF.last {c : DCode} (h : EntF c) {i : Nat} (hi : i + 1 = c.entry.length) : endB c i = c.ins.length := by unfold endB; rw [if_neg (by omega)]
theorem EntF.mono {c : DCode} (h : EntF c) : ∀ {i j : Nat}, i < j → j < c.entry.length → endB c i ≤ en c j
  | i, j + 1, hij, hj => by
    by_cases e : i = j
    · subst e; rw [h.step hj]; exact Int.le_refl _
    · have h1 := h.mono (i := i) (j := j) (by omega) (by omega)
      have h2 := (h.lt j (by omega)).1
      rw [h.step hj] at h2
      omega
/-- where a place lies -/
theorem EntF.proc {c : DCode} (h : EntF c) {i : Nat} {a : Int} (hi : i < c.entry.length) (h1 : en c i ≤ a) (h2 : a < endB c i) : procOf c a = i := by
  unfold procOf
  rw [prc_skip (m := i + 1) (by omega) fun j hj1 hj2 => by have := h.mono (i := i) (j := j) (by omega) hj2; omega]
  rw [prc, if_pos h1]
theorem EntF.find {c : DCode} (h : EntF c) (hp : 0 < c.procs.length) {a : Int} (h0 : 0 ≤ a) (h1 : a < c.ins.length) : ∃ i, i < c.entry.length ∧ en c i ≤ a ∧ a < endB c i ∧ procOf c a = i := by
  have hlen := h.len
  have h2 : 0 ≤ procOf c a := prc_nonneg (by rw [h.zero]; exact h0) (by omega)
  have h3 := (procOf_lt (c := c) (a := a)).2
  have key : ∀ n, n ≤ c.entry.length → (∀ j, n ≤ j → j < c.entry.length → a < en c j) → 0 < n → ∃ i, i < n ∧ en c i ≤ a ∧ a < endB c i := by
    intro n
    induction n with
    | zero => intro _ _ h; omega
    | succ n ih =>
      intro hn hj _
      by_cases hle : en c n ≤ a
      · refine ⟨n, by omega, hle, ?_⟩
        by_cases hl : n + 1 < c.entry.length
        · rw [h.step hl]; exact hj (n + 1) (by omega) hl
        · rw [h.last (by omega)]; exact h1
      · by_cases h0n : n = 0
        · subst h0n; rw [h.zero] at hle; omega
        · obtain ⟨i, hi, hx⟩ := ih (by omega) (fun j hj1 hj2 => by
            by_cases e : j = n
            · subst e; omega
            · exact hj j (by omega) hj2) (by omega)
          exact ⟨i, by omega, hx⟩
  obtain ⟨i, hi, hx, hy⟩ := key c.entry.length (Nat.le_refl _) (fun j hj1 hj2 => by omega) (by omega)
  exact ⟨i, hi, hx, hy, h.proc hi hx hy⟩
theorem EntS.f {c : DCode} (h : EntS c) (hp : 0 < c.procs.length) : EntF c := by
  obtain ⟨h1, h2, h3, h4⟩ := h
  refine ⟨h1, h2, (h3 0 (by omega)).1 rfl, fun i hi => ?_⟩
  unfold endB
  split
  · rename_i hl
    have := h3 (i + 1) hl
    have h5 := this.2.1 (by omega)
    simp only [Nat.add_sub_cancel] at h5
    exact ⟨h5, by omega⟩
  · exact ⟨(h3 i hi).2.2, Int.le_refl _⟩
theorem EntI.f {c : DCode} (h : EntI c) : EntF c := ⟨h.2.1, h.1, h.2.2.1, fun i hi => ⟨(h.2.2.2.2 i hi).1, (h.2.2.2.2 i hi).2.1⟩⟩
theorem ends_eq (c : DCode) (a : Nat) : ∀ (d : Nat), ends c a ≤ ends c (a + d) ∧ (ends c (a + d) = ends c a ↔ ∀ j, a ≤ j → j < a + d → ¬ (insAt c j).op = 9)
  | 0 => ⟨Nat.le_refl _, ⟨fun _ j h1 h2 => by omega, fun _ => rfl⟩⟩
  | d + 1 => by
    obtain ⟨h1, h2⟩ := ends_eq c a d
    rw [← Nat.add_assoc, ends]
    refine ⟨by omega, ?_⟩
    split
    · rename_i h9
      exact ⟨fun h => by omega, fun h => absurd h9 (h (a + d) (by omega) (by omega))⟩
    · rename_i h9
      rw [Nat.add_zero, h2]
      constructor
      · intro h j hj1 hj2
        by_cases e : j = a + d
        · subst e; exact h9
        · exact h j hj1 (by omega)
      · exact fun h j hj1 hj2 => h j hj1 (by omega)
/-- where the n-th procedure begins, or the code ends -/
def eb (c : DCode) (n : Nat) : Nat := if n = 0 then 0 else (endB c (n - 1)).toNat
theorem EntF.eb_en {c : DCode} (h : EntF c) {n : Nat} (hn : n < c.entry.length) : (eb c n : Int) = en c n := by
  unfold eb
  split
  · rename_i h0; subst h0; rw [h.zero]; rfl
  · have h1 := h.nonneg hn
    have h2 : endB c (n - 1) = en c n := by
      have := h.step (i := n - 1) (by omega)
      rwa [show n - 1 + 1 = n by omega] at this
    rw [h2]; omega
theorem EntF.eb_succ {c : DCode} (h : EntF c) {n : Nat} (hn : n < c.entry.length) : (eb c (n + 1) : Int) = endB c n := by
  unfold eb
  rw [if_neg (by omega), Nat.add_sub_cancel]
  have := (h.lt n hn).1
  have := h.nonneg hn
  omega
/-- with an end at the end of each procedure there are as many ends as procedures just when there is no other -/
theorem ends_count {c : DCode} (h : EntF c) (he : ∀ i, i < c.entry.length → (insAt c (endB c i - 1).toNat).op = 9) : ∀ n, n ≤ c.entry.length →
    n ≤ ends c (eb c n) ∧ (ends c (eb c n) = n ↔ ∀ j : Nat, j < eb c n → (insAt c j).op = 9 → ∃ i, i < n ∧ endB c i = j + 1)
  | 0, _ => ⟨Nat.zero_le _, ⟨fun _ j hj => by simp [eb] at hj, fun _ => rfl⟩⟩
  | n + 1, hn => by
    obtain ⟨h1, h2⟩ := ends_count h he n (by omega)
    have ha := h.eb_en (n := n) (by omega)
    have hb := h.eb_succ (n := n) (by omega)
    have hlt := (h.lt n (by omega)).1
    have h9 := he n (by omega)
    have e9 : (endB c n - 1).toNat = eb c (n + 1) - 1 := by omega
    rw [e9] at h9
    obtain ⟨d, hd⟩ : ∃ d, eb c (n + 1) = eb c n + d + 1 := ⟨eb c (n + 1) - eb c n - 1, by omega⟩
    have hd' : eb c (n + 1) - 1 = eb c n + d := by omega
    rw [hd'] at h9
    obtain ⟨h3, h4⟩ := ends_eq c (eb c n) d
    rw [hd, ends, if_pos h9]
    refine ⟨by omega, ?_⟩
    have hsplit : ends c (eb c n + d) + 1 = n + 1 ↔ (ends c (eb c n) = n ∧ ends c (eb c n + d) = ends c (eb c n)) := by omega
    rw [hsplit, h2, h4]
    constructor
    · rintro ⟨p1, p2⟩ j hj hj9
      by_cases hja : j < eb c n
      · obtain ⟨i, hi, hx⟩ := p1 j hja hj9
        exact ⟨i, by omega, hx⟩
      · by_cases hje : j = eb c n + d
        · exact ⟨n, by omega, by omega⟩
        · exact absurd hj9 (p2 j (by omega) (by omega))
    · intro p
      constructor
      · intro j hj hj9
        obtain ⟨i, hi, hx⟩ := p j (by omega) hj9
        by_cases hin : i = n
        · subst hin; omega
        · exact ⟨i, by omega, hx⟩
      · intro j hj1 hj2 hj9
        obtain ⟨i, hi, hx⟩ := p j (by omega) hj9
        by_cases hin : i = n
        · subst hin; omega
        · have := h.mono (i := i) (j := n) (by omega) (by omega)
          omega
theorem ent_iff {c : DCode} (hp : 0 < c.procs.length) : EntI c ↔ EntS c := by
  constructor
  · intro h
    have hf := h.f
    obtain ⟨_, _, _, hc, hall⟩ := h
    have hlen := hf.len
    have he : ∀ i, i < c.entry.length → (insAt c (endB c i - 1).toNat).op = 9 := fun i hi => (hall i hi).2.2
    obtain ⟨_, h2⟩ := ends_count hf he c.entry.length (Nat.le_refl _)
    have hb : eb c c.entry.length = c.ins.length := by
      have := hf.eb_succ (n := c.entry.length - 1) (by omega)
      rw [hf.last (by omega), show c.entry.length - 1 + 1 = c.entry.length by omega] at this
      omega
    rw [hb] at h2
    have h3 := h2.1 hc
    refine ⟨hf.len, hf.ins, fun i hi => ⟨fun _ => hf.zero, fun h0 => ?_, ?_⟩, fun j hj => ?_⟩
    · have h4 := (hf.lt (i - 1) (by omega)).1
      have h5 := hf.step (i := i - 1) (by omega)
      rw [show i - 1 + 1 = i by omega] at h5
      omega
    · have := hf.lt i hi; omega
    · obtain ⟨i, hi, hx, hy, hpr⟩ := hf.find hp (a := j) (by omega) (by omega)
      rw [hpr, endOf_eq]
      constructor
      · intro h9
        obtain ⟨i', hi', hx'⟩ := h3 j hj h9
        have := hf.lt i' hi'
        have hpr' := hf.proc (a := j) hi' (by omega) (by omega)
        have : i' = i := by omega
        subst this
        omega
      · intro h9
        have := he i hi
        rwa [show (endB c i - 1).toNat = j by omega] at this
  · intro h
    have hf := h.f hp
    have hlen := hf.len
    have h4 := h.2.2.2
    have he : ∀ i, i < c.entry.length → (insAt c (endB c i - 1).toNat).op = 9 := fun i hi => by
      have h1 := hf.lt i hi
      have h0 := hf.nonneg hi
      have := (h4 (endB c i - 1).toNat (by omega)).2
      refine this ?_
      rw [hf.proc (i := i) hi (by omega) (by omega), endOf_eq]
      omega
    obtain ⟨_, h2⟩ := ends_count hf he c.entry.length (Nat.le_refl _)
    have hb : eb c c.entry.length = c.ins.length := by
      have := hf.eb_succ (n := c.entry.length - 1) (by omega)
      rw [hf.last (by omega), show c.entry.length - 1 + 1 = c.entry.length by omega] at this
      omega
    rw [hb] at h2
    refine ⟨hf.ins, hf.len, hf.zero, h2.2 fun j hj h9 => ?_, fun i hi => ⟨(hf.lt i hi).1, (hf.lt i hi).2, he i hi⟩⟩
    obtain ⟨i, hi, hx, hy, hpr⟩ := hf.find hp (a := j) (by omega) (by omega)
    have := (h4 j hj).1 h9
    rw [hpr, endOf_eq] at this
    exact ⟨i, hi, by omega⟩
theorem codeR_iff {c : DCode} (hn : NamesR c) (he : EntI c) : CodeR c ↔ ∀ i, i < c.entry.length → ∀ j : Nat, en c i ≤ j → (j : Int) < endB c i → InsR c (insAt c j) (en c i) (endB c i) := by
  have hf := he.f
  have hp := hn.procs8.2
  constructor
  · intro h i hi j h1 h2
    have h3 := hf.lt i hi
    have := h.2.2 j (by omega)
    rw [hf.proc hi h1 h2, endOf_eq, Int.toNat_natCast] at this
    rwa [Int.sub_add_cancel] at this
  · intro h
    refine ⟨hn, (ent_iff hp).1 he, fun j hj => ?_⟩
    obtain ⟨i, hi, hx, hy, hpr⟩ := hf.find hp (a := j) (by omega) (by omega)
    rw [hpr, endOf_eq, Int.toNat_natCast, Int.sub_add_cancel]
    exact h i hi j hx hy
/-- impl.CodeOk -/
def F125 (a0 : Value) (w : World) (R : Value → World → Prop) : Prop :=
  OP Tryz.prog (Instr.box 35 a0) w fun x1 w =>
  RD Tryz.prog (Instr.loadAt 35 x1) w fun x8 =>
  CALL Tryz.prog 191 [x8] w fun x9 w =>
  RD Tryz.prog (Op.unary .not x9) w fun x10 =>
  BR x10
  (R (Value.bool false) w)
  (RD Tryz.prog (Instr.loadAt 35 x1) w fun x12 =>
  CALL Tryz.prog 192 [x12] w fun x13 w =>
  RD Tryz.prog (Op.unary .not x13) w fun x14 =>
  BR x14
   (R (Value.bool false) w)
   (RD Tryz.prog (Instr.fieldAt 35 x1 3) w fun x16 =>
   RD Tryz.prog (Instr.loadAt 23 x16) w fun x17 =>
   RD Tryz.prog (Builtin.len_ #[23] 3 [x17].toArray) w fun x18 =>
   LOOPI [19] [(Value.int .i64 0)] w fun u4 w next4 =>
    RD Tryz.prog (bin .lss 3 (.tmp 0) (.tmp 0) (u4 19) x18) w fun x20 =>
    BR x20
     (RD Tryz.prog (Instr.indexAt 23 x17 (u4 19)) w fun x22 =>
     RD Tryz.prog (Instr.loadAt 3 x22) w fun x23 =>
     RD Tryz.prog (Instr.loadAt 35 x1) w fun x24 =>
     CALL Tryz.prog 133 [x24, (u4 19)] w fun x26 w =>
     RD Tryz.prog (Instr.fieldAt 35 x1 4) w fun x27 =>
     RD Tryz.prog (Instr.loadAt 33 x27) w fun x28 =>
     RD Tryz.prog (Instr.sliceAt 33 x28 (some x23) (some x26) none) w fun x31 =>
     RD Tryz.prog (Builtin.len_ #[33] 3 [x31].toArray) w fun x32 =>
     LOOPI [33] [(Value.int .i64 0)] w fun u8 w next8 =>
      RD Tryz.prog (bin .lss 3 (.tmp 0) (.tmp 0) (u8 33) x32) w fun x34 =>
      BR x34
       (RD Tryz.prog (Instr.indexAt 33 x31 (u8 33)) w fun x35 =>
       RD Tryz.prog (Instr.loadAt 136 x35) w fun x36 =>
       OP Tryz.prog (Instr.alloc 136 true (.tuple #[])) w fun x7 w =>
       OPU Tryz.prog (Instr.storeAt 136 x7 x36) w fun w =>
       RD Tryz.prog (Instr.loadAt 35 x1) w fun x37 =>
       RD Tryz.prog (Instr.loadAt 136 x7) w fun x38 =>
       CALL Tryz.prog 193 [x37, x38, x23, x26] w fun x41 w =>
       RD Tryz.prog (Op.unary .not x41) w fun x42 =>
       BR x42
        (R (Value.bool false) w)
        (RD Tryz.prog (bin .add 3 (.tmp 0) (.const undef) (u8 33) (Value.int .i64 1)) w fun x43 =>
        next8 [x43] w))
       (RD Tryz.prog (bin .add 3 (.tmp 0) (.const undef) (u4 19) (Value.int .i64 1)) w fun x44 =>
       next4 [x44] w))
     (R (Value.bool true) w)))
def cfg125 : Cfg := { ext := extL, joins := [], loops := [(4, 35184371564732, [19]), (8, 17583596109956, [33])], draws := [], pars := [] }
theorem F125_eq (a0 : Value) (w : World) (R : Value → World → Prop) : vcF Tryz.prog cfg125 Tryz.f125 [a0] w R = F125 a0 w R := by kernel_rfl
theorem F125_call {a0 : Value} {w : World} {R : Value → World → Prop} (h : F125 a0 w R) : CALL Tryz.prog 125 [a0] w R :=
  call_of (g := cfg125) ent mixed Tryz.func125 (Nat.le_of_ble_eq_true (by kernel_rfl)) (by kernel_rfl) (F125_eq a0 w R ▸ h)
theorem implCodeOk_ok {w : World} {v0 : Value} {W0 : World} {c : DCode}  (h0 : Is W0 v0 c) (e0 : Ext W0 w)  :
    CALL Tryz.prog 125 [v0] w fun r w' => Ext w w' ∧ (r = .bool (decide (CodeR c))) := by
  refine F125_call ?_
  unfold F125
  refine op_boxS ty35 rfl h0 e0 fun w1_ hx1_ hA1 hV1 => ?_
  refine rd_var hV1 (Ext.refl w1_) ?_
  refine (namesRight_ok h0 (e0.trans hx1_)).mono ?_
  rintro _ w2_ ⟨hx2_, rfl⟩
  refine rd_nodec ?_
  refine br (fun c1 => ?_) (fun c1 => ?_)
  · refine ⟨(hx1_.trans hx2_), ?_⟩
    have : ¬ CodeR c := fun h => c1 h.1
    simp only [this, decide_false]
  · refine rd_var hV1 hx2_ ?_
    refine (entriesRight_ok h0 (e0.trans (hx1_.trans hx2_)) (Decidable.not_not.1 c1).procs8.2).mono ?_
    rintro _ w3_ ⟨hx3_, rfl⟩
    refine rd_nodec ?_
    refine br (fun c2 => ?_) (fun c2 => ?_)
    · refine ⟨(hx1_.trans (hx2_.trans hx3_)), ?_⟩
      have : ¬ CodeR c := fun h => c2 ((ent_iff h.1.procs8.2).2 h.2.1)
      simp only [this, decide_false]
    · refine rd_fld fd35_3 ?_
      refine rd_load ty23 (at_DCode_3 hA1) (hx2_.trans hx3_) fun v17 h17 => ?_
      have hln18 := is_len h17
      refine rd_len u23 h17 ?_
      refine loopC (c.entry.length) (fun q us w' => us = [.int .i64 (q : Int)] ∧ Ext w3_ w' ∧ (∀ i, i < q → ∀ j : Nat, en c i ≤ j → (j : Int) < endB c i → InsR c (insAt c j) (en c i) (endB c i))) (0) (by omega) ⟨by simp, Ext.refl w3_, fun i h => by omega⟩ ?_
      rintro q m4 uu4 w4_ hk4 ⟨hu, hx4_, hent⟩
      simp only [List.map_cons, List.map_nil, List.cons.injEq, and_true] at hu
      try rw [hu]
      try clear hu
      replace c1 := Decidable.not_not.1 c1; replace c2 := Decidable.not_not.1 c2; have hln4 := is_len h17
      refine rd_lss ?_
      refine br (fun c3 => ?_) (fun c3 => ?_)
      · refine rd_indexN u23 ty3 h17 (by omega) fun b22 o22 h22 => ?_
        refine rd_loadI ty3 h22 (hx2_.trans (hx3_.trans hx4_)) fun hI23 => ?_
        rw [en_get]
        have h8 := c1.procs8
        have hlq := c2.f.lt q (by omega)
        have hnq := c2.f.nonneg (i := q) (by omega)
        have hlen := c2.f.len
        refine rd_var hV1 (hx2_.trans (hx3_.trans hx4_)) ?_
        refine (endOfProc_ok h0 (e0.trans (hx1_.trans (hx2_.trans (hx3_.trans hx4_)))) (by omega)).mono ?_
        rintro _ w5_ ⟨hx5_, rfl⟩
        refine rd_fld fd35_4 ?_
        refine rd_load ty33 (at_DCode_4 hA1) (hx2_.trans (hx3_.trans (hx4_.trans hx5_))) fun v28 h28 => ?_
        refine rd_slice_both u33 ty136 h28 (by omega) (by omega) (by omega) fun v31 h31 => ?_
        have hln32 := is_len h31
        refine rd_len u33 h31 ?_
        refine loopC ((endB c q).toNat - (en c q).toNat) (fun k us w' => us = [.int .i64 (k : Int)] ∧ Ext w5_ w' ∧ (∀ j : Nat, en c q ≤ j → (j : Int) < en c q + k → InsR c (insAt c j) (en c q) (endB c q))) (0) (by omega) ⟨by simp, Ext.refl w5_, fun j h1 h2 => by omega⟩ ?_
        rintro k m8 uu8 w6_ hk8 ⟨hu, hx6_, hinv⟩
        simp only [List.map_cons, List.map_nil, List.cons.injEq, and_true] at hu
        try rw [hu]
        try clear hu
        have hl31 : ((c.ins.take (endB c q).toNat).drop (en c q).toNat).length = (endB c q).toNat - (en c q).toNat := by rw [List.length_drop, List.length_take]; omega
        refine rd_lss ?_
        refine br (fun c4 => ?_) (fun c4 => ?_)
        · refine rd_indexN u33 ty136 h31 (by omega) fun b35 o35 h35 => ?_
          refine rd_load ty136 h35 (hx2_.trans (hx3_.trans (hx4_.trans (hx5_.trans hx6_)))) fun v36 h36 => ?_
          rw [List.getElem_drop, List.getElem_take, insAt_get] at h36
          refine op_var zl136 rfl ty136 rfl h36 (hx2_.trans (hx3_.trans (hx4_.trans (hx5_.trans hx6_)))) fun w7_ hx7_ hA7 hV7 => ?_
          refine rd_var hV1 (hx2_.trans (hx3_.trans (hx4_.trans (hx5_.trans (hx6_.trans hx7_))))) ?_
          refine rd_var hV7 (Ext.refl w7_) ?_
          refine (insRight_ok h0 (e0.trans (hx1_.trans (hx2_.trans (hx3_.trans (hx4_.trans (hx5_.trans (hx6_.trans hx7_))))))) h36 (hx2_.trans (hx3_.trans (hx4_.trans (hx5_.trans (hx6_.trans hx7_)))))).mono ?_
          rintro _ w8_ ⟨hx8_, rfl⟩
          refine rd_nodec ?_
          refine br (fun c5 => ?_) (fun c5 => ?_)
          · refine ⟨(hx1_.trans (hx2_.trans (hx3_.trans (hx4_.trans (hx5_.trans (hx6_.trans (hx7_.trans hx8_))))))), ?_⟩
            have : ¬ CodeR c := fun h => c5 ((codeR_iff c1 c2).1 h q (by omega) _ (by omega) (by omega))
            simp only [this, decide_false]
          · refine rd_inc (by omega) ?_
            refine ⟨m8 - 1, by omega, k + 1, by omega, by simp, (hx6_.trans (hx7_.trans hx8_)), ?_⟩
            intro j h1 h2
            by_cases hj : j = (en c q).toNat + k
            · subst hj; exact Decidable.not_not.1 c5
            · exact hinv j h1 (by omega)
        · refine rd_inc (by omega) ?_
          refine ⟨m4 - 1, by omega, q + 1, by omega, by simp, (hx4_.trans (hx5_.trans hx6_)), ?_⟩
          intro i hi j h1 h2
          by_cases hiq : i = q
          · subst hiq; exact hinv j h1 (by omega)
          · exact hent i (by omega) j h1 h2
      · refine ⟨(hx1_.trans (hx2_.trans (hx3_.trans hx4_))), ?_⟩
        have : CodeR c := (codeR_iff c1 c2).2 fun i hi => hent i (by omega)
        simp only [this, decide_true]
end Go.Proofs.YtjgfldfbljmhhaaGreat
namespace Go.Proofs.YtjgfldfbljmhhaaGreat
open Go Go.Sh Go.Proofs
set_option linter.unusedVariables false
set_option linter.unusedSimpArgs false
theorem CodeR.f {c : DCode} (h : CodeR c) : EntF c := h.2.1.f h.1.procs8.2
/-- impl.isPlace -/
def F160 (a0 a1 : Value) (w : World) (R : Value → World → Prop) : Prop :=
  OP Tryz.prog (Instr.box 35 a0) w fun x2 w =>
  RD Tryz.prog (bin .geq 3 (.tmp 0) (.const undef) a1 (Value.int .i64 0)) w fun x6 =>
  BR x6
  (RD Tryz.prog (Instr.fieldAt 35 x2 4) w fun x9 =>
  RD Tryz.prog (Instr.loadAt 33 x9) w fun x10 =>
  RD Tryz.prog (Builtin.len_ #[33] 3 [x10].toArray) w fun x11 =>
  RD Tryz.prog (bin .lss 3 (.tmp 0) (.tmp 0) a1 x11) w fun x12 =>
  R x12 w)
  (R (Value.bool false) w)
def cfg160 : Cfg := { ext := extL, joins := [], loops := [], draws := [], pars := [] }
theorem F160_eq (a0 a1 : Value) (w : World) (R : Value → World → Prop) : vcF Tryz.prog cfg160 Tryz.f160 [a0, a1] w R = F160 a0 a1 w R := by kernel_rfl
theorem F160_call {a0 a1 : Value} {w : World} {R : Value → World → Prop} (h : F160 a0 a1 w R) : CALL Tryz.prog 160 [a0, a1] w R :=
  call_of (g := cfg160) ent mixed Tryz.func160 (Nat.le_of_ble_eq_true (by kernel_rfl)) (by kernel_rfl) (F160_eq a0 a1 w R ▸ h)
theorem isPlace_ok {w : World} {v0 : Value} {W0 : World} {c : DCode} {a : Int}  (h0 : Is W0 v0 c) (e0 : Ext W0 w)  :
    CALL Tryz.prog 160 [v0, .int .i64 a] w fun r w' => Ext w w' ∧ (r = .bool (decide (0 ≤ a ∧ a < c.ins.length))) := by
  refine F160_call ?_
  unfold F160
  refine op_boxS ty35 rfl h0 e0 fun w1_ hx1_ hA2 hV2 => ?_
  refine rd_geq ?_
  refine br (fun c1 => ?_) (fun c1 => ?_)
  · refine rd_fld fd35_4 ?_
    refine rd_load ty33 (at_DCode_4 hA2) (Ext.refl w1_) fun v10 h10 => ?_
    have hln11 := is_len h10
    refine rd_len u33 h10 ?_
    refine rd_lss ?_
    refine ⟨hx1_, ?_⟩
    simp [c1]
  · refine ⟨hx1_, ?_⟩
    simp [c1]
/-- impl.procIn -/
def F197 (a0 a1 : Value) (w : World) (R : Value → World → Prop) : Prop :=
  OP Tryz.prog (Instr.box 35 a0) w fun x2 w =>
  LOOPI [5] [(Value.int .i64 0)] w fun u2 w next2 =>
   RD Tryz.prog (bin .add 3 (.tmp 0) (.const undef) (u2 5) (Value.int .i64 1)) w fun x7 =>
   RD Tryz.prog (Instr.fieldAt 35 x2 3) w fun x8 =>
   RD Tryz.prog (Instr.loadAt 23 x8) w fun x9 =>
   RD Tryz.prog (Builtin.len_ #[23] 3 [x9].toArray) w fun x10 =>
   RD Tryz.prog (bin .lss 3 (.tmp 0) (.tmp 0) x7 x10) w fun x11 =>
   BR x11
   (RD Tryz.prog (Instr.fieldAt 35 x2 3) w fun x13 =>
   RD Tryz.prog (Instr.loadAt 23 x13) w fun x14 =>
   RD Tryz.prog (bin .add 3 (.tmp 0) (.const undef) (u2 5) (Value.int .i64 1)) w fun x16 =>
   RD Tryz.prog (Instr.indexAt 23 x14 x16) w fun x17 =>
   RD Tryz.prog (Instr.loadAt 3 x17) w fun x18 =>
   RD Tryz.prog (bin .leq 3 (.tmp 0) (.tmp 0) x18 a1) w fun x20 =>
   BR x20
    (RD Tryz.prog (bin .add 3 (.tmp 0) (.const undef) (u2 5) (Value.int .i64 1)) w fun x23 =>
    next2 [x23] w)
    (R (u2 5) w))
   (R (u2 5) w)
def cfg197 : Cfg := { ext := extL, joins := [], loops := [(2, 16777184, [5])], draws := [], pars := [] }
theorem F197_eq (a0 a1 : Value) (w : World) (R : Value → World → Prop) : vcF Tryz.prog cfg197 Tryz.f197 [a0, a1] w R = F197 a0 a1 w R := by kernel_rfl
theorem F197_call {a0 a1 : Value} {w : World} {R : Value → World → Prop} (h : F197 a0 a1 w R) : CALL Tryz.prog 197 [a0, a1] w R :=
  call_of (g := cfg197) ent mixed Tryz.func197 (Nat.le_of_ble_eq_true (by kernel_rfl)) (by kernel_rfl) (F197_eq a0 a1 w R ▸ h)
theorem procIn_ok {w : World} {v0 : Value} {W0 : World} {c : DCode} {a : Int}  (h0 : Is W0 v0 c) (e0 : Ext W0 w) (hc : CodeR c) (ha : 0 ≤ a) (ha2 : a < c.ins.length) :
    CALL Tryz.prog 197 [v0, .int .i64 a] w fun r w' => Ext w w' ∧ (r = .int .i64 (procOf c a)) := by
  refine F197_call ?_
  unfold F197
  have hf := hc.f
  have h8 := hc.1.procs8
  have hl := hf.len
  refine op_boxS ty35 rfl h0 e0 fun w1_ hx1_ hA2 hV2 => ?_
  refine loopC (c.entry.length - 1) (fun k us w' => us = [.int .i64 (k : Int)] ∧ Ext w1_ w' ∧ (en c k ≤ a)) (0) (by omega) ⟨by simp, Ext.refl w1_, by rw [hf.zero]; exact ha⟩ ?_
  rintro k m2 uu2 w2_ hk2 ⟨hu, hx2_, hinv⟩
  simp only [List.map_cons, List.map_nil, List.cons.injEq, and_true] at hu
  try rw [hu]
  try clear hu
  refine rd_inc (by omega) ?_
  refine rd_fld fd35_3 ?_
  refine rd_load ty23 (at_DCode_3 hA2) hx2_ fun v9 h9 => ?_
  have hln10 := is_len h9
  refine rd_len u23 h9 ?_
  refine rd_lss ?_
  refine br (fun c1 => ?_) (fun c1 => ?_)
  · refine rd_fld fd35_3 ?_
    refine rd_load ty23 (at_DCode_3 hA2) hx2_ fun v14 h14 => ?_
    refine rd_inc (by omega) ?_
    refine rd_indexN u23 ty3 h14 (by omega) fun b17 o17 h17 => ?_
    refine rd_loadI ty3 h17 hx2_ fun hI18 => ?_
    refine rd_leq ?_
    refine br (fun c2 => ?_) (fun c2 => ?_)
    · refine rd_inc (by omega) ?_
      refine ⟨m2 - 1, by omega, k + 1, by omega, by simp, hx2_, ?_⟩
      rwa [en_get] at c2
    · refine ⟨(hx1_.trans hx2_), ?_⟩
      rw [en_get] at c2
      rw [hf.proc (i := k) (by omega) hinv (by rw [hf.step (by omega)]; omega)]
  · refine ⟨(hx1_.trans hx2_), ?_⟩
    rw [hf.proc (i := k) (by omega) hinv (by rw [hf.last (by omega)]; omega)]
/-- the i-th place of a stack -/
def st (l : List Int) (i : Nat) : Int := l.getD i 0
theorem st_get {l : List Int} {i : Nat} (h : i < l.length) : l[i] = st l i := by unfold st; rw [List.getD_eq_getElem?_getD, List.getElem?_eq_getElem h]; rfl
def StackR (c : DCode) (l : List Int) : Prop := l.length ≤ 8 ∧ (∀ i, i < l.length → 0 ≤ st l i ∧ st l i < c.ins.length) ∧
  ∀ i, i < l.length - 1 → (insAt c (st l i).toNat).op = 4 ∧ procOf c (st l (i + 1)) = (insAt c (st l i).toNat).arg
instance (c : DCode) (l : List Int) : Decidable (StackR c l) := by unfold StackR; infer_instance
/-- spec.l21Stack -/
def F182 (a0 a1 : Value) (w : World) (R : Value → World → Prop) : Prop :=
  OP Tryz.prog (Instr.box 35 a0) w fun x2 w =>
  RD Tryz.prog (Builtin.len_ #[23] 3 [a1].toArray) w fun x9 =>
  RD Tryz.prog (bin .gtr 3 (.tmp 0) (.const undef) x9 (Value.int .i64 8)) w fun x10 =>
  BR x10
   (R (Value.bool false) w)
   (LOOPI [5] [(Value.int .i64 0)] w fun u4 w next4 =>
    RD Tryz.prog (Builtin.len_ #[23] 3 [a1].toArray) w fun x13 =>
    RD Tryz.prog (bin .lss 3 (.tmp 0) (.tmp 0) (u4 5) x13) w fun x14 =>
    BR x14
     ((fun w => RD Tryz.prog (Instr.indexAt 23 a1 (u4 5)) w fun x19 =>
     RD Tryz.prog (Instr.loadAt 3 x19) w fun x20 =>
     RD Tryz.prog (Instr.fieldAt 35 x2 4) w fun x21 =>
     RD Tryz.prog (Instr.loadAt 33 x21) w fun x22 =>
     RD Tryz.prog (Builtin.len_ #[33] 3 [x22].toArray) w fun x23 =>
     RD Tryz.prog (bin .sub 3 (.tmp 0) (.const undef) x23 (Value.int .i64 1)) w fun x24 =>
     CALL Tryz.prog 122 [x20, (Value.int .i64 0), x24] w fun x25 w =>
     RD Tryz.prog (Op.unary .not x25) w fun x26 =>
     BR x26
      (R (Value.bool false) w)
      (RD Tryz.prog (bin .add 3 (.tmp 0) (.const undef) (u4 5) (Value.int .i64 1)) w fun x16 =>
      next4 [x16] w)) (World.drew1 w))
     (LOOPI [6] [(Value.int .i64 0)] w fun u9 w next9 =>
      RD Tryz.prog (bin .add 3 (.tmp 0) (.const undef) (u9 6) (Value.int .i64 1)) w fun x28 =>
      RD Tryz.prog (Builtin.len_ #[23] 3 [a1].toArray) w fun x30 =>
      RD Tryz.prog (bin .lss 3 (.tmp 0) (.tmp 0) x28 x30) w fun x31 =>
      BR x31
       ((fun w => RD Tryz.prog (Instr.fieldAt 35 x2 4) w fun x34 =>
       RD Tryz.prog (Instr.loadAt 33 x34) w fun x35 =>
       RD Tryz.prog (Instr.indexAt 23 a1 (u9 6)) w fun x38 =>
       RD Tryz.prog (Instr.loadAt 3 x38) w fun x39 =>
       RD Tryz.prog (Instr.indexAt 33 x35 x39) w fun x40 =>
       RD Tryz.prog (Instr.loadAt 136 x40) w fun x41 =>
       (fun w_ => OP Tryz.prog (Instr.alloc 136 true (.tuple #[])) w_ fun x7 w =>
       Ext w_ w ∧
       (OPU Tryz.prog (Instr.storeAt 136 x7 x41) w fun w =>
       (fun w => RD Tryz.prog (Instr.fieldAt 136 x7 0) w fun x42 =>
       RD Tryz.prog (Instr.loadAt 3 x42) w fun x43 =>
       RD Tryz.prog (bin .neq 3 (.tmp 0) (.const undef) x43 (Value.int .i64 4)) w fun x44 =>
       BR x44
       (R (Value.bool false) w)
       (RD Tryz.prog (Instr.loadAt 35 x2) w fun x46 =>
       RD Tryz.prog (bin .add 3 (.tmp 0) (.const undef) (u9 6) (Value.int .i64 1)) w fun x49 =>
       RD Tryz.prog (Instr.indexAt 23 a1 x49) w fun x50 =>
       RD Tryz.prog (Instr.loadAt 3 x50) w fun x51 =>
       RD Tryz.prog (Instr.fieldAt 136 x7 1) w fun x53 =>
       RD Tryz.prog (Instr.loadAt 3 x53) w fun x54 =>
       (fun w_ => CALL Tryz.prog 175 [x46, x51] w_ fun x52 w =>
       Ext w_ w ∧
       RD Tryz.prog (bin .neq 3 (.tmp 0) (.tmp 0) x52 x54) w fun x55 =>
       BR x55
        (R (Value.bool false) w)
        (RD Tryz.prog (bin .add 3 (.tmp 0) (.const undef) (u9 6) (Value.int .i64 1)) w fun x33 =>
        next9 [x33] w)) w)) (World.drew1 w))) w) (World.drew1 w))
       (R (Value.bool true) w)))
def cfg182 : Cfg := { ext := extL, joins := [], loops := [(4, 134215728, [5]), (9, 144115187941638352, [6])], draws := [(6, [0, 1, 2, 3, 4, 5, 6, 7, 8, 9], 0), (11, [0, 1, 2, 3, 4, 5, 6, 7, 8, 9], 256), (12, [0, 1, 2, 3, 4, 5, 6, 7, 8, 9, 11, 12, 10, 13, 14], 1024)], pars := [] }
theorem F182_eq (a0 a1 : Value) (w : World) (R : Value → World → Prop) : vcF Tryz.prog cfg182 Tryz.f182 [a0, a1] w R = F182 a0 a1 w R := by kernel_rfl
theorem F182_call {a0 a1 : Value} {w : World} {R : Value → World → Prop} (h : F182 a0 a1 w R) : CALL Tryz.prog 182 [a0, a1] w R :=
  call_of (g := cfg182) ent mixed Tryz.func182 (Nat.le_of_ble_eq_true (by kernel_rfl)) (by kernel_rfl) (F182_eq a0 a1 w R ▸ h)
theorem l21Stack_ok {w : World} {v0 : Value} {W0 : World} {c : DCode} {v1 : Value} {W1 : World} {l : (List Int)}  (h0 : Is W0 v0 c) (e0 : Ext W0 w) (h1 : Is W1 v1 l) (e1 : Ext W1 w)  :
    CALL Tryz.prog 182 [v0, v1] w fun r w' => Ext w w' ∧ (r = .bool (decide (StackR c l))) := by
  refine F182_call ?_
  unfold F182
  have hln := is_len h1
  refine op_boxS ty35 rfl h0 e0 fun w1_ hx1_ hA2 hV2 => ?_
  have hln9 := is_len h1
  refine rd_len u23 h1 ?_
  refine rd_gtr ?_
  refine br (fun c1 => ?_) (fun c1 => ?_)
  · refine ⟨hx1_, ?_⟩
    have : ¬ StackR c l := fun h => by have := h.1; omega
    simp only [this, decide_false]
  · refine loopC (l.length) (fun k us w' => us = [.int .i64 (k : Int)] ∧ Ext w1_ w' ∧ (∀ i, i < k → 0 ≤ st l i ∧ st l i < c.ins.length)) (0) (by omega) ⟨by simp, Ext.refl w1_, fun i h => by omega⟩ ?_
    rintro k m4 uu4 w2_ hk4 ⟨hu, hx2_, hpl⟩
    simp only [List.map_cons, List.map_nil, List.cons.injEq, and_true] at hu
    try rw [hu]
    try clear hu
    have hln13 := is_len h1
    refine rd_len u23 h1 ?_
    refine rd_lss ?_
    refine br (fun c2 => ?_) (fun c2 => ?_)
    · have hx3_ := ext_drew w2_
      refine rd_indexN u23 ty3 h1 (by omega) fun b19 o19 h19 => ?_
      refine rd_loadI ty3 h19 (e1.trans (hx1_.trans (hx2_.trans hx3_))) fun hI20 => ?_
      refine rd_fld fd35_4 ?_
      refine rd_load ty33 (at_DCode_4 hA2) (hx2_.trans hx3_) fun v22 h22 => ?_
      have hln23 := is_len h22
      refine rd_len u33 h22 ?_
      refine rd_sub (by unfold I64; have := is_len h22; omega) ?_
      refine (l01In_ok ).mono ?_
      rintro _ w4_ ⟨hx4_, rfl⟩
      refine rd_nodec ?_
      refine br (fun c3 => ?_) (fun c3 => ?_)
      · refine ⟨(hx1_.trans (hx2_.trans (hx3_.trans hx4_))), ?_⟩
        rw [st_get] at c3
        have : ¬ StackR c l := fun h => c3 (by have := h.2.1 k (by omega); omega)
        simp only [this, decide_false]
      · refine rd_inc (by omega) ?_
        refine ⟨m4 - 1, by omega, k + 1, by omega, by simp, (hx2_.trans (hx3_.trans hx4_)), ?_⟩
        rw [st_get] at c3
        exact all_succ hpl (by omega)
    · refine loopC (l.length) (fun q us w' => us = [.int .i64 (q : Int)] ∧ Ext w2_ w' ∧ (∀ i, i < q → (insAt c (st l i).toNat).op = 4 ∧ procOf c (st l (i + 1)) = (insAt c (st l i).toNat).arg)) (0) (by omega) ⟨by simp, Ext.refl w2_, fun i h => by omega⟩ ?_
      rintro q m9 uu9 w5_ hk9 ⟨hu, hx5_, hinv⟩
      simp only [List.map_cons, List.map_nil, List.cons.injEq, and_true] at hu
      try rw [hu]
      try clear hu
      refine rd_inc (by omega) ?_
      have hln30 := is_len h1
      refine rd_len u23 h1 ?_
      refine rd_lss ?_
      refine br (fun c4 => ?_) (fun c4 => ?_)
      · have hx6_ := ext_drew w5_
        refine rd_fld fd35_4 ?_
        refine rd_load ty33 (at_DCode_4 hA2) (hx2_.trans (hx5_.trans hx6_)) fun v35 h35 => ?_
        refine rd_indexN u23 ty3 h1 (by omega) fun b38 o38 h38 => ?_
        refine rd_loadI ty3 h38 (e1.trans (hx1_.trans (hx2_.trans (hx5_.trans hx6_)))) fun hI39 => ?_
        rw [st_get]
        have hst := hpl q (by omega)
        refine rd_index u33 ty136 h35 (by omega) (by omega) fun b40 o40 h40 => ?_
        refine rd_load ty136 h40 (hx2_.trans (hx5_.trans hx6_)) fun v41 h41 => ?_
        rw [insAt_get] at h41
        refine op_varX zl136 rfl ty136 rfl h41 (hx2_.trans (hx5_.trans hx6_)) fun w7_ hx7_ hA7 hV7 => ?_
        have hx8_ := ext_drew w7_
        refine rd_fld fd136_0 ?_
        refine rd_loadI ty3 (at_DIns_0 hA7) hx8_ fun hI43 => ?_
        refine rd_neq ?_
        refine br (fun c5 => ?_) (fun c5 => ?_)
        · refine ⟨(hx1_.trans (hx2_.trans (hx5_.trans (hx6_.trans (hx7_.trans hx8_))))), ?_⟩
          have : ¬ StackR c l := fun h => c5 (h.2.2 q (by omega)).1
          simp only [this, decide_false]
        · refine rd_var hV2 (hx2_.trans (hx5_.trans (hx6_.trans (hx7_.trans hx8_)))) ?_
          refine rd_inc (by omega) ?_
          refine rd_indexN u23 ty3 h1 (by omega) fun b50 o50 h50 => ?_
          refine rd_loadI ty3 h50 (e1.trans (hx1_.trans (hx2_.trans (hx5_.trans (hx6_.trans (hx7_.trans hx8_)))))) fun hI51 => ?_
          refine rd_fld fd136_1 ?_
          refine rd_loadI ty3 (at_DIns_1 hA7) hx8_ fun hI54 => ?_
          refine (l08Proc_ok h0 (e0.trans (hx1_.trans (hx2_.trans (hx5_.trans (hx6_.trans (hx7_.trans hx8_))))))).mono ?_
          rintro _ w9_ ⟨hx9_, rfl⟩
          refine ⟨hx9_, ?_⟩
          refine rd_neq ?_
          refine br (fun c6 => ?_) (fun c6 => ?_)
          · refine ⟨(hx1_.trans (hx2_.trans (hx5_.trans (hx6_.trans (hx7_.trans (hx8_.trans hx9_)))))), ?_⟩
            rw [st_get] at c6
            have : ¬ StackR c l := fun h => c6 (h.2.2 q (by omega)).2
            simp only [this, decide_false]
          · refine rd_inc (by omega) ?_
            refine ⟨m9 - 1, by omega, q + 1, by omega, by simp, (hx5_.trans (hx6_.trans (hx7_.trans (hx8_.trans hx9_)))), ?_⟩
            rw [st_get] at c6
            exact all_succ hinv ⟨Decidable.not_not.1 c5, Decidable.not_not.1 c6⟩
      · refine ⟨(hx1_.trans (hx2_.trans hx5_)), ?_⟩
        have : StackR c l := ⟨by omega, fun i hi => hpl i (by omega), fun i hi => hinv i (by omega)⟩
        simp only [this, decide_true]
/-- impl.stackRight -/
def F129 (a0 a1 : Value) (w : World) (R : Value → World → Prop) : Prop :=
  OP Tryz.prog (Instr.box 35 a0) w fun x2 w =>
  RD Tryz.prog (Builtin.len_ #[23] 3 [a1].toArray) w fun x8 =>
  RD Tryz.prog (bin .gtr 3 (.tmp 0) (.const undef) x8 (Value.int .i64 8)) w fun x9 =>
  BR x9
   (R (Value.bool false) w)
   (RD Tryz.prog (Builtin.len_ #[23] 3 [a1].toArray) w fun x11 =>
   LOOPI [12] [(Value.int .i64 0)] w fun u4 w next4 =>
    RD Tryz.prog (bin .lss 3 (.tmp 0) (.tmp 0) (u4 12) x11) w fun x13 =>
    BR x13
     (RD Tryz.prog (Instr.indexAt 23 a1 (u4 12)) w fun x15 =>
     RD Tryz.prog (Instr.loadAt 3 x15) w fun x16 =>
     RD Tryz.prog (Instr.loadAt 35 x2) w fun x17 =>
     CALL Tryz.prog 160 [x17, x16] w fun x19 w =>
     RD Tryz.prog (Op.unary .not x19) w fun x20 =>
     BR x20
      (R (Value.bool false) w)
      (RD Tryz.prog (bin .add 3 (.tmp 0) (.const undef) (u4 12) (Value.int .i64 1)) w fun x22 =>
      RD Tryz.prog (Builtin.len_ #[23] 3 [a1].toArray) w fun x24 =>
      RD Tryz.prog (bin .eql 3 (.tmp 0) (.tmp 0) x22 x24) w fun x25 =>
      BR x25
       (R (Value.bool true) w)
       ((fun w => RD Tryz.prog (Instr.fieldAt 35 x2 4) w fun x26 =>
       RD Tryz.prog (Instr.loadAt 33 x26) w fun x27 =>
       RD Tryz.prog (Instr.indexAt 33 x27 x16) w fun x29 =>
       RD Tryz.prog (Instr.fieldAt 136 x29 0) w fun x30 =>
       RD Tryz.prog (Instr.loadAt 3 x30) w fun x31 =>
       RD Tryz.prog (bin .neq 3 (.tmp 0) (.const undef) x31 (Value.int .i64 4)) w fun x32 =>
       BR x32
       (R (Value.bool false) w)
       (RD Tryz.prog (Instr.loadAt 35 x2) w fun x34 =>
       RD Tryz.prog (bin .add 3 (.tmp 0) (.const undef) (u4 12) (Value.int .i64 1)) w fun x37 =>
       RD Tryz.prog (Instr.indexAt 23 a1 x37) w fun x38 =>
       RD Tryz.prog (Instr.loadAt 3 x38) w fun x39 =>
       CALL Tryz.prog 160 [x34, x39] w fun x40 w =>
       RD Tryz.prog (Op.unary .not x40) w fun x41 =>
       BR x41
       (R (Value.bool false) w)
       (RD Tryz.prog (Instr.loadAt 35 x2) w fun x44 =>
       RD Tryz.prog (bin .add 3 (.tmp 0) (.const undef) (u4 12) (Value.int .i64 1)) w fun x47 =>
       RD Tryz.prog (Instr.indexAt 23 a1 x47) w fun x48 =>
       RD Tryz.prog (Instr.loadAt 3 x48) w fun x49 =>
       RD Tryz.prog (Instr.fieldAt 35 x2 4) w fun x51 =>
       RD Tryz.prog (Instr.loadAt 33 x51) w fun x52 =>
       RD Tryz.prog (Instr.indexAt 33 x52 x16) w fun x54 =>
       RD Tryz.prog (Instr.fieldAt 136 x54 1) w fun x55 =>
       RD Tryz.prog (Instr.loadAt 3 x55) w fun x56 =>
       (fun w_ => CALL Tryz.prog 197 [x44, x49] w_ fun x50 w =>
       Ext w_ w ∧
       RD Tryz.prog (bin .neq 3 (.tmp 0) (.tmp 0) x50 x56) w fun x57 =>
       BR x57
        (R (Value.bool false) w)
        (RD Tryz.prog (bin .add 3 (.tmp 0) (.const undef) (u4 12) (Value.int .i64 1)) w fun x59 =>
        next4 [x59] w)) w))) (World.drew1 w))))
     (R (Value.bool true) w))
def cfg129 : Cfg := { ext := extL, joins := [], loops := [(4, 1152921504606842992, [12])], draws := [(9, [0, 1, 2, 3, 4, 5, 6, 7, 8, 9, 10, 11, 12, 13, 14, 15, 16, 17, 18, 19, 20, 21, 22, 23, 25, 26, 27, 28, 29, 30, 24, 31, 32], 16777216)], pars := [] }
theorem F129_eq (a0 a1 : Value) (w : World) (R : Value → World → Prop) : vcF Tryz.prog cfg129 Tryz.f129 [a0, a1] w R = F129 a0 a1 w R := by kernel_rfl
theorem F129_call {a0 a1 : Value} {w : World} {R : Value → World → Prop} (h : F129 a0 a1 w R) : CALL Tryz.prog 129 [a0, a1] w R :=
  call_of (g := cfg129) ent mixed Tryz.func129 (Nat.le_of_ble_eq_true (by kernel_rfl)) (by kernel_rfl) (F129_eq a0 a1 w R ▸ h)
theorem stackRight_ok {w : World} {v0 : Value} {W0 : World} {c : DCode} {v1 : Value} {W1 : World} {l : (List Int)}  (h0 : Is W0 v0 c) (e0 : Ext W0 w) (h1 : Is W1 v1 l) (e1 : Ext W1 w) (hc : CodeR c) :
    CALL Tryz.prog 129 [v0, v1] w fun r w' => Ext w w' ∧ (r = .bool (decide (StackR c l))) := by
  refine F129_call ?_
  unfold F129
  have hln := is_len h1
  refine op_boxS ty35 rfl h0 e0 fun w1_ hx1_ hA2 hV2 => ?_
  have hln8 := is_len h1
  refine rd_len u23 h1 ?_
  refine rd_gtr ?_
  refine br (fun c1 => ?_) (fun c1 => ?_)
  · refine ⟨hx1_, ?_⟩
    have : ¬ StackR c l := fun h => by have := h.1; omega
    simp only [this, decide_false]
  · have hln11 := is_len h1
    refine rd_len u23 h1 ?_
    refine loopC (l.length) (fun k us w' => us = [.int .i64 (k : Int)] ∧ Ext w1_ w' ∧ (k ≤ l.length - 1 ∧ (∀ i, i < k → 0 ≤ st l i ∧ st l i < c.ins.length) ∧ ∀ i, i < k → (insAt c (st l i).toNat).op = 4 ∧ procOf c (st l (i + 1)) = (insAt c (st l i).toNat).arg)) (0) (by omega) ⟨by simp, Ext.refl w1_, by omega, fun i h => by omega, fun i h => by omega⟩ ?_
    rintro k m4 uu4 w2_ hk4 ⟨hu, hx2_, hkl, hpl, hop⟩
    simp only [List.map_cons, List.map_nil, List.cons.injEq, and_true] at hu
    try rw [hu]
    try clear hu
    refine rd_lss ?_
    refine br (fun c2 => ?_) (fun c2 => ?_)
    · refine rd_indexN u23 ty3 h1 (by omega) fun b15 o15 h15 => ?_
      refine rd_loadI ty3 h15 (e1.trans (hx1_.trans hx2_)) fun hI16 => ?_
      rw [st_get]
      refine rd_var hV2 hx2_ ?_
      refine (isPlace_ok h0 (e0.trans (hx1_.trans hx2_))).mono ?_
      rintro _ w3_ ⟨hx3_, rfl⟩
      refine rd_nodec ?_
      refine br (fun c3 => ?_) (fun c3 => ?_)
      · refine ⟨(hx1_.trans (hx2_.trans hx3_)), ?_⟩
        have : ¬ StackR c l := fun h => c3 (by have := h.2.1 k (by omega); omega)
        simp only [this, decide_false]
      · refine rd_inc (by omega) ?_
        have hln24 := is_len h1
        refine rd_len u23 h1 ?_
        refine rd_eql ?_
        refine br (fun c4 => ?_) (fun c4 => ?_)
        · refine ⟨(hx1_.trans (hx2_.trans hx3_)), ?_⟩
          have : StackR c l := ⟨by omega, fun i hi => by
              by_cases e : i = k
              · subst e; omega
              · exact hpl i (by omega), fun i hi => hop i (by omega)⟩
          simp only [this, decide_true]
        · have hx4_ := ext_drew w3_
          refine rd_fld fd35_4 ?_
          refine rd_load ty33 (at_DCode_4 hA2) (hx2_.trans (hx3_.trans hx4_)) fun v27 h27 => ?_
          have hst1 : 0 ≤ st l k ∧ st l k < c.ins.length := by omega
          refine rd_index u33 ty136 h27 (by omega) (by omega) fun b29 o29 h29 => ?_
          refine rd_fld fd136_0 ?_
          refine rd_loadI ty3 (at_DIns_0 h29) (hx2_.trans (hx3_.trans hx4_)) fun hI31 => ?_
          refine rd_neq ?_
          refine br (fun c5 => ?_) (fun c5 => ?_)
          · refine ⟨(hx1_.trans (hx2_.trans (hx3_.trans hx4_))), ?_⟩
            rw [insAt_get] at c5
            have : ¬ StackR c l := fun h => c5 (h.2.2 k (by omega)).1
            simp only [this, decide_false]
          · refine rd_var hV2 (hx2_.trans (hx3_.trans hx4_)) ?_
            refine rd_inc (by omega) ?_
            refine rd_indexN u23 ty3 h1 (by omega) fun b38 o38 h38 => ?_
            refine rd_loadI ty3 h38 (e1.trans (hx1_.trans (hx2_.trans (hx3_.trans hx4_)))) fun hI39 => ?_
            refine (isPlace_ok h0 (e0.trans (hx1_.trans (hx2_.trans (hx3_.trans hx4_))))).mono ?_
            rintro _ w5_ ⟨hx5_, rfl⟩
            refine rd_nodec ?_
            refine br (fun c6 => ?_) (fun c6 => ?_)
            · refine ⟨(hx1_.trans (hx2_.trans (hx3_.trans (hx4_.trans hx5_)))), ?_⟩
              rw [st_get] at c6
              have : ¬ StackR c l := fun h => c6 (by have := h.2.1 (k + 1) (by omega); omega)
              simp only [this, decide_false]
            · refine rd_var hV2 (hx2_.trans (hx3_.trans (hx4_.trans hx5_))) ?_
              refine rd_inc (by omega) ?_
              refine rd_indexN u23 ty3 h1 (by omega) fun b48 o48 h48 => ?_
              refine rd_loadI ty3 h48 (e1.trans (hx1_.trans (hx2_.trans (hx3_.trans (hx4_.trans hx5_))))) fun hI49 => ?_
              refine rd_fld fd35_4 ?_
              refine rd_load ty33 (at_DCode_4 hA2) (hx2_.trans (hx3_.trans (hx4_.trans hx5_))) fun v52 h52 => ?_
              refine rd_index u33 ty136 h52 (by omega) (by omega) fun b54 o54 h54 => ?_
              refine rd_fld fd136_1 ?_
              refine rd_loadI ty3 (at_DIns_1 h54) (hx2_.trans (hx3_.trans (hx4_.trans hx5_))) fun hI56 => ?_
              rw [st_get] at c6
              rw [st_get]
              refine (procIn_ok h0 (e0.trans (hx1_.trans (hx2_.trans (hx3_.trans (hx4_.trans hx5_))))) (by assumption) (by omega) (by omega)).mono ?_
              rintro _ w6_ ⟨hx6_, rfl⟩
              refine ⟨hx6_, ?_⟩
              refine rd_neq ?_
              refine br (fun c7 => ?_) (fun c7 => ?_)
              · refine ⟨(hx1_.trans (hx2_.trans (hx3_.trans (hx4_.trans (hx5_.trans hx6_))))), ?_⟩
                rw [insAt_get] at c7
                have : ¬ StackR c l := fun h => c7 (h.2.2 k (by omega)).2
                simp only [this, decide_false]
              · refine rd_inc (by omega) ?_
                refine ⟨m4 - 1, by omega, k + 1, by omega, by simp, (hx2_.trans (hx3_.trans (hx4_.trans (hx5_.trans hx6_)))), ?_⟩
                rw [insAt_get] at c7 c5
                exact ⟨by omega, all_succ hpl hst1, all_succ hop ⟨Decidable.not_not.1 c5, Decidable.not_not.1 c7⟩⟩
    · refine ⟨(hx1_.trans hx2_), ?_⟩
      have : StackR c l := ⟨by omega, fun i hi => hpl i (by omega), fun i hi => hop i (by omega)⟩
      simp only [this, decide_true]
def StateR (c : DCode) (s : DState) : Prop := s.vars.length = c.globals.length ∧ s.owner.length = c.locks.length ∧ (1 ≤ s.stacks.length ∧ s.stacks.length ≤ 6) ∧ (∀ v ∈ s.vars, 0 ≤ v ∧ v ≤ 999) ∧
  (∀ o ∈ s.owner, -1 ≤ o ∧ o < s.stacks.length) ∧ ∀ l ∈ s.stacks, StackR c l
instance (c : DCode) (s : DState) : Decidable (StateR c s) := by unfold StateR; infer_instance
theorem mem_succ {α : Type} {P : α → Prop} {l : List α} {k : Nat} (hk : k < l.length) (h : ∀ x ∈ l.take k, P x) (hp : P l[k]) : ∀ x ∈ l.take (k + 1), P x := by
  intro x hx
  rw [List.take_succ_eq_append_getElem hk] at hx
  rcases List.mem_append.1 hx with hx | hx
  · exact h x hx
  · simp only [List.mem_cons, List.not_mem_nil, or_false] at hx
    subst hx; exact hp
theorem mem_all {α : Type} {P : α → Prop} {l : List α} {k : Nat} (hk : l.length ≤ k) (h : ∀ x ∈ l.take k, P x) : ∀ x ∈ l, P x := by
  rwa [List.take_of_length_le hk] at h
/-- spec.l21Right -/
def F111 (a0 a1 : Value) (w : World) (R : Value → World → Prop) : Prop :=
  OP Tryz.prog (Instr.box 35 a0) w fun x2 w =>
  OP Tryz.prog (Instr.box 37 a1) w fun x3 w =>
  RD Tryz.prog (Instr.fieldAt 37 x3 0) w fun x8 =>
  RD Tryz.prog (Instr.loadAt 23 x8) w fun x9 =>
  RD Tryz.prog (Builtin.len_ #[23] 3 [x9].toArray) w fun x10 =>
  RD Tryz.prog (Instr.fieldAt 35 x2 0) w fun x11 =>
  RD Tryz.prog (Instr.loadAt 22 x11) w fun x12 =>
  RD Tryz.prog (Builtin.len_ #[22] 3 [x12].toArray) w fun x13 =>
  RD Tryz.prog (bin .neq 3 (.tmp 0) (.tmp 0) x10 x13) w fun x14 =>
  BR x14
  (R (Value.bool false) w)
  (RD Tryz.prog (Instr.fieldAt 37 x3 1) w fun x16 =>
  RD Tryz.prog (Instr.loadAt 23 x16) w fun x17 =>
  RD Tryz.prog (Builtin.len_ #[23] 3 [x17].toArray) w fun x18 =>
  RD Tryz.prog (Instr.fieldAt 35 x2 1) w fun x19 =>
  RD Tryz.prog (Instr.loadAt 22 x19) w fun x20 =>
  RD Tryz.prog (Builtin.len_ #[22] 3 [x20].toArray) w fun x21 =>
  RD Tryz.prog (bin .neq 3 (.tmp 0) (.tmp 0) x18 x21) w fun x22 =>
  BR x22
  (R (Value.bool false) w)
  (RD Tryz.prog (Instr.fieldAt 37 x3 2) w fun x25 =>
  RD Tryz.prog (Instr.loadAt 27 x25) w fun x26 =>
  RD Tryz.prog (Builtin.len_ #[27] 3 [x26].toArray) w fun x27 =>
  CALL Tryz.prog 122 [x27, (Value.int .i64 1), (Value.int .i64 6)] w fun x28 w =>
  RD Tryz.prog (Op.unary .not x28) w fun x29 =>
  BR x29
   (R (Value.bool false) w)
   (LOOPI [5] [(Value.int .i64 0)] w fun u4 w next4 =>
    RD Tryz.prog (Instr.fieldAt 37 x3 0) w fun x32 =>
    RD Tryz.prog (Instr.loadAt 23 x32) w fun x33 =>
    RD Tryz.prog (Builtin.len_ #[23] 3 [x33].toArray) w fun x34 =>
    RD Tryz.prog (bin .lss 3 (.tmp 0) (.tmp 0) (u4 5) x34) w fun x35 =>
    BR x35
     (RD Tryz.prog (Instr.fieldAt 37 x3 0) w fun x38 =>
     RD Tryz.prog (Instr.loadAt 23 x38) w fun x39 =>
     RD Tryz.prog (Instr.indexAt 23 x39 (u4 5)) w fun x41 =>
     RD Tryz.prog (Instr.loadAt 3 x41) w fun x42 =>
     CALL Tryz.prog 122 [x42, (Value.int .i64 0), (Value.int .i64 999)] w fun x43 w =>
     RD Tryz.prog (Op.unary .not x43) w fun x44 =>
     BR x44
      (R (Value.bool false) w)
      (RD Tryz.prog (bin .add 3 (.tmp 0) (.const undef) (u4 5) (Value.int .i64 1)) w fun x37 =>
      next4 [x37] w))
     (LOOPI [6] [(Value.int .i64 0)] w fun u9 w next9 =>
      RD Tryz.prog (Instr.fieldAt 37 x3 1) w fun x46 =>
      RD Tryz.prog (Instr.loadAt 23 x46) w fun x47 =>
      RD Tryz.prog (Builtin.len_ #[23] 3 [x47].toArray) w fun x48 =>
      RD Tryz.prog (bin .lss 3 (.tmp 0) (.tmp 0) (u9 6) x48) w fun x49 =>
      BR x49
       ((fun w => RD Tryz.prog (Instr.fieldAt 37 x3 1) w fun x52 =>
       RD Tryz.prog (Instr.loadAt 23 x52) w fun x53 =>
       RD Tryz.prog (Instr.indexAt 23 x53 (u9 6)) w fun x55 =>
       RD Tryz.prog (Instr.loadAt 3 x55) w fun x56 =>
       RD Tryz.prog (Instr.fieldAt 37 x3 2) w fun x57 =>
       RD Tryz.prog (Instr.loadAt 27 x57) w fun x58 =>
       RD Tryz.prog (Builtin.len_ #[27] 3 [x58].toArray) w fun x59 =>
       RD Tryz.prog (bin .sub 3 (.tmp 0) (.const undef) x59 (Value.int .i64 1)) w fun x60 =>
       CALL Tryz.prog 122 [x56, (Value.int .i64 (-1)), x60] w fun x61 w =>
       RD Tryz.prog (Op.unary .not x61) w fun x62 =>
       BR x62
        (R (Value.bool false) w)
        (RD Tryz.prog (bin .add 3 (.tmp 0) (.const undef) (u9 6) (Value.int .i64 1)) w fun x51 =>
        next9 [x51] w)) (World.drew1 w))
       (LOOPI [7] [(Value.int .i64 0)] w fun u14 w next14 =>
        RD Tryz.prog (Instr.fieldAt 37 x3 2) w fun x64 =>
        RD Tryz.prog (Instr.loadAt 27 x64) w fun x65 =>
        RD Tryz.prog (Builtin.len_ #[27] 3 [x65].toArray) w fun x66 =>
        RD Tryz.prog (bin .lss 3 (.tmp 0) (.tmp 0) (u14 7) x66) w fun x67 =>
        BR x67
         ((fun w => RD Tryz.prog (Instr.loadAt 35 x2) w fun x70 =>
         RD Tryz.prog (Instr.fieldAt 37 x3 2) w fun x71 =>
         RD Tryz.prog (Instr.loadAt 27 x71) w fun x72 =>
         RD Tryz.prog (Instr.indexAt 27 x72 (u14 7)) w fun x74 =>
         RD Tryz.prog (Instr.loadAt 23 x74) w fun x75 =>
         CALL Tryz.prog 182 [x70, x75] w fun x76 w =>
         RD Tryz.prog (Op.unary .not x76) w fun x77 =>
         BR x77
          (R (Value.bool false) w)
          (RD Tryz.prog (bin .add 3 (.tmp 0) (.const undef) (u14 7) (Value.int .i64 1)) w fun x69 =>
          next14 [x69] w)) (World.drew1 w))
         (R (Value.bool true) w))))))
def cfg111 : Cfg := { ext := extL, joins := [], loops := [(4, 35182224605232, [5]), (9, 9223336852482687056, [6]), (14, 302222231531620438900880, [7])], draws := [(11, [0, 1, 2, 3, 4, 5, 6, 7, 8, 9, 10], 0), (16, [0, 1, 2, 3, 4, 5, 6, 7], 0)], pars := [] }
theorem F111_eq (a0 a1 : Value) (w : World) (R : Value → World → Prop) : vcF Tryz.prog cfg111 Tryz.f111 [a0, a1] w R = F111 a0 a1 w R := by kernel_rfl
theorem F111_call {a0 a1 : Value} {w : World} {R : Value → World → Prop} (h : F111 a0 a1 w R) : CALL Tryz.prog 111 [a0, a1] w R :=
  call_of (g := cfg111) ent mixed Tryz.func111 (Nat.le_of_ble_eq_true (by kernel_rfl)) (by kernel_rfl) (F111_eq a0 a1 w R ▸ h)
theorem l21Right_ok {w : World} {v0 : Value} {W0 : World} {c : DCode} {v1 : Value} {W1 : World} {s : DState}  (h0 : Is W0 v0 c) (e0 : Ext W0 w) (h1 : Is W1 v1 s) (e1 : Ext W1 w)  :
    CALL Tryz.prog 111 [v0, v1] w fun r w' => Ext w w' ∧ (r = .bool (decide (StateR c s))) := by
  refine F111_call ?_
  unfold F111
  refine op_boxS ty35 rfl h0 e0 fun w1_ hx1_ hA2 hV2 => ?_
  refine op_boxS ty37 rfl h1 (e1.trans hx1_) fun w2_ hx2_ hA3 hV3 => ?_
  refine rd_fld fd37_0 ?_
  refine rd_load ty23 (at_DState_0 hA3) (Ext.refl w2_) fun v9 h9 => ?_
  have hln10 := is_len h9
  refine rd_len u23 h9 ?_
  refine rd_fld fd35_0 ?_
  refine rd_load ty22 (at_DCode_0 hA2) hx2_ fun v12 h12 => ?_
  have hln13 := is_len h12
  refine rd_len u22 h12 ?_
  refine rd_neq ?_
  refine br (fun c1 => ?_) (fun c1 => ?_)
  · refine ⟨(hx1_.trans hx2_), ?_⟩
    have : ¬ StateR c s := fun h => by have := h.1; omega
    simp only [this, decide_false]
  · refine rd_fld fd37_1 ?_
    refine rd_load ty23 (at_DState_1 hA3) (Ext.refl w2_) fun v17 h17 => ?_
    have hln18 := is_len h17
    refine rd_len u23 h17 ?_
    refine rd_fld fd35_1 ?_
    refine rd_load ty22 (at_DCode_1 hA2) hx2_ fun v20 h20 => ?_
    have hln21 := is_len h20
    refine rd_len u22 h20 ?_
    refine rd_neq ?_
    refine br (fun c2 => ?_) (fun c2 => ?_)
    · refine ⟨(hx1_.trans hx2_), ?_⟩
      have : ¬ StateR c s := fun h => by have := h.2.1; omega
      simp only [this, decide_false]
    · refine rd_fld fd37_2 ?_
      refine rd_load ty27 (at_DState_2 hA3) (Ext.refl w2_) fun v26 h26 => ?_
      have hln27 := is_len h26
      refine rd_len u27 h26 ?_
      refine (l01In_ok ).mono ?_
      rintro _ w3_ ⟨hx3_, rfl⟩
      refine rd_nodec ?_
      refine br (fun c3 => ?_) (fun c3 => ?_)
      · refine ⟨(hx1_.trans (hx2_.trans hx3_)), ?_⟩
        have : ¬ StateR c s := fun h => by have := h.2.2.1; omega
        simp only [this, decide_false]
      · refine loopC (s.vars.length) (fun k us w' => us = [.int .i64 (k : Int)] ∧ Ext w3_ w' ∧ (∀ v ∈ s.vars.take k, 0 ≤ v ∧ v ≤ 999)) (0) (by omega) ⟨by simp, Ext.refl w3_, by simp⟩ ?_
        rintro k m4 uu4 w4_ hk4 ⟨hu, hx4_, hv1⟩
        simp only [List.map_cons, List.map_nil, List.cons.injEq, and_true] at hu
        try rw [hu]
        try clear hu
        refine rd_fld fd37_0 ?_
        refine rd_load ty23 (at_DState_0 hA3) (hx3_.trans hx4_) fun v33 h33 => ?_
        have hln34 := is_len h33
        refine rd_len u23 h33 ?_
        refine rd_lss ?_
        refine br (fun c4 => ?_) (fun c4 => ?_)
        · refine rd_fld fd37_0 ?_
          refine rd_load ty23 (at_DState_0 hA3) (hx3_.trans hx4_) fun v39 h39 => ?_
          refine rd_indexN u23 ty3 h39 (by omega) fun b41 o41 h41 => ?_
          refine rd_loadI ty3 h41 (hx3_.trans hx4_) fun hI42 => ?_
          refine (l01In_ok ).mono ?_
          rintro _ w5_ ⟨hx5_, rfl⟩
          refine rd_nodec ?_
          refine br (fun c5 => ?_) (fun c5 => ?_)
          · refine ⟨(hx1_.trans (hx2_.trans (hx3_.trans (hx4_.trans hx5_)))), ?_⟩
            have : ¬ StateR c s := fun h => c5 (h.2.2.2.1 _ (List.getElem_mem _))
            simp only [this, decide_false]
          · refine rd_inc (by omega) ?_
            refine ⟨m4 - 1, by omega, k + 1, by omega, by simp, (hx4_.trans hx5_), ?_⟩
            exact mem_succ (by omega) hv1 (Decidable.not_not.1 c5)
        · refine loopC (s.owner.length) (fun q us w' => us = [.int .i64 (q : Int)] ∧ Ext w4_ w' ∧ (∀ o ∈ s.owner.take q, -1 ≤ o ∧ o < s.stacks.length)) (0) (by omega) ⟨by simp, Ext.refl w4_, by simp⟩ ?_
          rintro q m9 uu9 w6_ hk9 ⟨hu, hx6_, hv2⟩
          simp only [List.map_cons, List.map_nil, List.cons.injEq, and_true] at hu
          try rw [hu]
          try clear hu
          refine rd_fld fd37_1 ?_
          refine rd_load ty23 (at_DState_1 hA3) (hx3_.trans (hx4_.trans hx6_)) fun v47 h47 => ?_
          have hln48 := is_len h47
          refine rd_len u23 h47 ?_
          refine rd_lss ?_
          refine br (fun c6 => ?_) (fun c6 => ?_)
          · have hx7_ := ext_drew w6_
            refine rd_fld fd37_1 ?_
            refine rd_load ty23 (at_DState_1 hA3) (hx3_.trans (hx4_.trans (hx6_.trans hx7_))) fun v53 h53 => ?_
            refine rd_indexN u23 ty3 h53 (by omega) fun b55 o55 h55 => ?_
            refine rd_loadI ty3 h55 (hx3_.trans (hx4_.trans (hx6_.trans hx7_))) fun hI56 => ?_
            refine rd_fld fd37_2 ?_
            refine rd_load ty27 (at_DState_2 hA3) (hx3_.trans (hx4_.trans (hx6_.trans hx7_))) fun v58 h58 => ?_
            have hln59 := is_len h58
            refine rd_len u27 h58 ?_
            refine rd_sub (by unfold I64; have := is_len h58; omega) ?_
            refine (l01In_ok ).mono ?_
            rintro _ w8_ ⟨hx8_, rfl⟩
            refine rd_nodec ?_
            refine br (fun c7 => ?_) (fun c7 => ?_)
            · refine ⟨(hx1_.trans (hx2_.trans (hx3_.trans (hx4_.trans (hx6_.trans (hx7_.trans hx8_)))))), ?_⟩
              have : ¬ StateR c s := fun h => c7 (by have := h.2.2.2.2.1 _ (List.getElem_mem (n := q) (by omega)); omega)
              simp only [this, decide_false]
            · refine rd_inc (by omega) ?_
              refine ⟨m9 - 1, by omega, q + 1, by omega, by simp, (hx6_.trans (hx7_.trans hx8_)), ?_⟩
              exact mem_succ (by omega) hv2 (by omega)
          · refine loopC (s.stacks.length) (fun p us w' => us = [.int .i64 (p : Int)] ∧ Ext w6_ w' ∧ (∀ l ∈ s.stacks.take p, StackR c l)) (0) (by omega) ⟨by simp, Ext.refl w6_, by simp⟩ ?_
            rintro p m14 uu14 w9_ hk14 ⟨hu, hx9_, hv3⟩
            simp only [List.map_cons, List.map_nil, List.cons.injEq, and_true] at hu
            try rw [hu]
            try clear hu
            refine rd_fld fd37_2 ?_
            refine rd_load ty27 (at_DState_2 hA3) (hx3_.trans (hx4_.trans (hx6_.trans hx9_))) fun v65 h65 => ?_
            have hln66 := is_len h65
            refine rd_len u27 h65 ?_
            refine rd_lss ?_
            refine br (fun c8 => ?_) (fun c8 => ?_)
            · have hx10_ := ext_drew w9_
              refine rd_var hV2 (hx2_.trans (hx3_.trans (hx4_.trans (hx6_.trans (hx9_.trans hx10_))))) ?_
              refine rd_fld fd37_2 ?_
              refine rd_load ty27 (at_DState_2 hA3) (hx3_.trans (hx4_.trans (hx6_.trans (hx9_.trans hx10_)))) fun v72 h72 => ?_
              refine rd_indexN u27 ty23 h72 (by omega) fun b74 o74 h74 => ?_
              refine rd_load ty23 h74 (hx3_.trans (hx4_.trans (hx6_.trans (hx9_.trans hx10_)))) fun v75 h75 => ?_
              refine (l21Stack_ok h0 (e0.trans (hx1_.trans (hx2_.trans (hx3_.trans (hx4_.trans (hx6_.trans (hx9_.trans hx10_))))))) h75 (hx3_.trans (hx4_.trans (hx6_.trans (hx9_.trans hx10_))))).mono ?_
              rintro _ w11_ ⟨hx11_, rfl⟩
              refine rd_nodec ?_
              refine br (fun c9 => ?_) (fun c9 => ?_)
              · refine ⟨(hx1_.trans (hx2_.trans (hx3_.trans (hx4_.trans (hx6_.trans (hx9_.trans (hx10_.trans hx11_))))))), ?_⟩
                have : ¬ StateR c s := fun h => c9 (h.2.2.2.2.2 _ (List.getElem_mem _))
                simp only [this, decide_false]
              · refine rd_inc (by omega) ?_
                refine ⟨m14 - 1, by omega, p + 1, by omega, by simp, (hx9_.trans (hx10_.trans hx11_)), ?_⟩
                exact mem_succ (by omega) hv3 (Decidable.not_not.1 c9)
            · refine ⟨(hx1_.trans (hx2_.trans (hx3_.trans (hx4_.trans (hx6_.trans hx9_))))), ?_⟩
              have : StateR c s := ⟨by omega, by omega, by omega, mem_all (by omega) hv1, mem_all (by omega) hv2, mem_all (by omega) hv3⟩
              simp only [this, decide_true]
/-- spec.StateOk -/
def F55 (a0 a1 : Value) (w : World) (R : Value → World → Prop) : Prop :=
  OP Tryz.prog (Instr.box 35 a0) w fun x2 w =>
  OP Tryz.prog (Instr.box 37 a1) w fun x3 w =>
  RD Tryz.prog (Instr.loadAt 35 x2) w fun x5 =>
  CALL Tryz.prog 73 [x5] w fun x6 w =>
  BR x6
  (RD Tryz.prog (Instr.loadAt 35 x2) w fun x8 =>
  RD Tryz.prog (Instr.loadAt 37 x3) w fun x9 =>
  CALL Tryz.prog 111 [x8, x9] w fun x10 w =>
  R x10 w)
  (R (Value.bool false) w)
def cfg55 : Cfg := { ext := extL, joins := [], loops := [], draws := [], pars := [] }
theorem F55_eq (a0 a1 : Value) (w : World) (R : Value → World → Prop) : vcF Tryz.prog cfg55 Tryz.f55 [a0, a1] w R = F55 a0 a1 w R := by kernel_rfl
theorem F55_call {a0 a1 : Value} {w : World} {R : Value → World → Prop} (h : F55 a0 a1 w R) : CALL Tryz.prog 55 [a0, a1] w R :=
  call_of (g := cfg55) ent mixed Tryz.func55 (Nat.le_of_ble_eq_true (by kernel_rfl)) (by kernel_rfl) (F55_eq a0 a1 w R ▸ h)
theorem specStateOk_ok {w : World} {v0 : Value} {W0 : World} {c : DCode} {v1 : Value} {W1 : World} {s : DState}  (h0 : Is W0 v0 c) (e0 : Ext W0 w) (h1 : Is W1 v1 s) (e1 : Ext W1 w)  :
    CALL Tryz.prog 55 [v0, v1] w fun r w' => Ext w w' ∧ (r = .bool (decide (CodeR c ∧ StateR c s))) := by
  refine F55_call ?_
  unfold F55
  refine op_boxS ty35 rfl h0 e0 fun w1_ hx1_ hA2 hV2 => ?_
  refine op_boxS ty37 rfl h1 (e1.trans hx1_) fun w2_ hx2_ hA3 hV3 => ?_
  refine rd_var hV2 hx2_ ?_
  refine (specCodeOk_ok h0 (e0.trans (hx1_.trans hx2_))).mono ?_
  rintro _ w3_ ⟨hx3_, rfl⟩
  refine br (fun c1 => ?_) (fun c1 => ?_)
  · refine rd_var hV2 (hx2_.trans hx3_) ?_
    refine rd_var hV3 hx3_ ?_
    refine (l21Right_ok h0 (e0.trans (hx1_.trans (hx2_.trans hx3_))) h1 (e1.trans (hx1_.trans (hx2_.trans hx3_)))).mono ?_
    rintro _ w4_ ⟨hx4_, rfl⟩
    refine ⟨(hx1_.trans (hx2_.trans (hx3_.trans hx4_))), ?_⟩
    simp [c1]
  · refine ⟨(hx1_.trans (hx2_.trans hx3_)), ?_⟩
    simp [c1]
/-- impl.stateRight -/
def F65 (a0 a1 : Value) (w : World) (R : Value → World → Prop) : Prop :=
  OP Tryz.prog (Instr.box 35 a0) w fun x2 w =>
  OP Tryz.prog (Instr.box 37 a1) w fun x3 w =>
  RD Tryz.prog (Instr.fieldAt 37 x3 2) w fun x12 =>
  RD Tryz.prog (Instr.loadAt 27 x12) w fun x13 =>
  RD Tryz.prog (Builtin.len_ #[27] 3 [x13].toArray) w fun x14 =>
  RD Tryz.prog (Instr.fieldAt 37 x3 0) w fun x15 =>
  RD Tryz.prog (Instr.loadAt 23 x15) w fun x16 =>
  RD Tryz.prog (Builtin.len_ #[23] 3 [x16].toArray) w fun x17 =>
  RD Tryz.prog (Instr.fieldAt 35 x2 0) w fun x18 =>
  RD Tryz.prog (Instr.loadAt 22 x18) w fun x19 =>
  RD Tryz.prog (Builtin.len_ #[22] 3 [x19].toArray) w fun x20 =>
  RD Tryz.prog (bin .neq 3 (.tmp 0) (.tmp 0) x17 x20) w fun x21 =>
  BR x21
  (R (Value.bool false) w)
  (RD Tryz.prog (Instr.fieldAt 37 x3 1) w fun x23 =>
  RD Tryz.prog (Instr.loadAt 23 x23) w fun x24 =>
  RD Tryz.prog (Builtin.len_ #[23] 3 [x24].toArray) w fun x25 =>
  RD Tryz.prog (Instr.fieldAt 35 x2 1) w fun x26 =>
  RD Tryz.prog (Instr.loadAt 22 x26) w fun x27 =>
  RD Tryz.prog (Builtin.len_ #[22] 3 [x27].toArray) w fun x28 =>
  RD Tryz.prog (bin .neq 3 (.tmp 0) (.tmp 0) x25 x28) w fun x29 =>
  BR x29
  (R (Value.bool false) w)
  (RD Tryz.prog (bin .lss 3 (.tmp 0) (.const undef) x14 (Value.int .i64 1)) w fun x33 =>
  BR x33
  (R (Value.bool false) w)
  (RD Tryz.prog (bin .gtr 3 (.tmp 0) (.const undef) x14 (Value.int .i64 6)) w fun x37 =>
  BR x37
   (R (Value.bool false) w)
   (RD Tryz.prog (Instr.fieldAt 37 x3 0) w fun x39 =>
   RD Tryz.prog (Instr.loadAt 23 x39) w fun x40 =>
   RD Tryz.prog (Builtin.len_ #[23] 3 [x40].toArray) w fun x41 =>
   LOOPI [42] [(Value.int .i64 0)] w fun u5 w next5 =>
    RD Tryz.prog (bin .lss 3 (.tmp 0) (.tmp 0) (u5 42) x41) w fun x43 =>
    BR x43
     (RD Tryz.prog (Instr.indexAt 23 x40 (u5 42)) w fun x44 =>
     RD Tryz.prog (Instr.loadAt 3 x44) w fun x45 =>
     RD Tryz.prog (bin .lss 3 (.tmp 0) (.const undef) x45 (Value.int .i64 0)) w fun x47 =>
     BR x47
     (R (Value.bool false) w)
     (RD Tryz.prog (bin .gtr 3 (.tmp 0) (.const undef) x45 (Value.int .i64 999)) w fun x50 =>
     BR x50
      (R (Value.bool false) w)
      (RD Tryz.prog (bin .add 3 (.tmp 0) (.const undef) (u5 42) (Value.int .i64 1)) w fun x52 =>
      next5 [x52] w)))
     (RD Tryz.prog (Instr.fieldAt 37 x3 1) w fun x53 =>
     RD Tryz.prog (Instr.loadAt 23 x53) w fun x54 =>
     RD Tryz.prog (Builtin.len_ #[23] 3 [x54].toArray) w fun x55 =>
     LOOPI [56] [(Value.int .i64 0)] w fun u11 w next11 =>
      RD Tryz.prog (bin .lss 3 (.tmp 0) (.tmp 0) (u11 56) x55) w fun x57 =>
      BR x57
       (RD Tryz.prog (Instr.indexAt 23 x54 (u11 56)) w fun x58 =>
       RD Tryz.prog (Instr.loadAt 3 x58) w fun x59 =>
       RD Tryz.prog (bin .lss 3 (.tmp 0) (.const undef) x59 (Value.int .i64 (-1))) w fun x61 =>
       BR x61
       (R (Value.bool false) w)
       (RD Tryz.prog (bin .geq 3 (.tmp 0) (.tmp 0) x59 x14) w fun x65 =>
       BR x65
        (R (Value.bool false) w)
        (RD Tryz.prog (bin .add 3 (.tmp 0) (.const undef) (u11 56) (Value.int .i64 1)) w fun x67 =>
        next11 [x67] w)))
       (RD Tryz.prog (Instr.fieldAt 37 x3 2) w fun x68 =>
       RD Tryz.prog (Instr.loadAt 27 x68) w fun x69 =>
       RD Tryz.prog (Builtin.len_ #[27] 3 [x69].toArray) w fun x70 =>
       LOOPI [71] [(Value.int .i64 0)] w fun u17 w next17 =>
        RD Tryz.prog (bin .lss 3 (.tmp 0) (.tmp 0) (u17 71) x70) w fun x72 =>
        BR x72
         (RD Tryz.prog (Instr.indexAt 27 x69 (u17 71)) w fun x73 =>
         RD Tryz.prog (Instr.loadAt 23 x73) w fun x74 =>
         RD Tryz.prog (Instr.loadAt 35 x2) w fun x75 =>
         CALL Tryz.prog 129 [x75, x74] w fun x77 w =>
         RD Tryz.prog (Op.unary .not x77) w fun x78 =>
         BR x78
          (R (Value.bool false) w)
          (RD Tryz.prog (bin .add 3 (.tmp 0) (.const undef) (u17 71) (Value.int .i64 1)) w fun x79 =>
          next17 [x79] w))
         (R (Value.bool true) w)))))))
def cfg65 : Cfg := { ext := extL, joins := [], loops := [(5, 9002801208230032, [42]), (11, 295075847585314898448, [56]), (17, 1206564636373194352101392, [71])], draws := [], pars := [] }
theorem F65_eq (a0 a1 : Value) (w : World) (R : Value → World → Prop) : vcF Tryz.prog cfg65 Tryz.f65 [a0, a1] w R = F65 a0 a1 w R := by kernel_rfl
theorem F65_call {a0 a1 : Value} {w : World} {R : Value → World → Prop} (h : F65 a0 a1 w R) : CALL Tryz.prog 65 [a0, a1] w R :=
  call_of (g := cfg65) ent mixed Tryz.func65 (Nat.le_of_ble_eq_true (by kernel_rfl)) (by kernel_rfl) (F65_eq a0 a1 w R ▸ h)
theorem stateRight_ok {w : World} {v0 : Value} {W0 : World} {c : DCode} {v1 : Value} {W1 : World} {s : DState}  (h0 : Is W0 v0 c) (e0 : Ext W0 w) (h1 : Is W1 v1 s) (e1 : Ext W1 w) (hc : CodeR c) :
    CALL Tryz.prog 65 [v0, v1] w fun r w' => Ext w w' ∧ (r = .bool (decide (StateR c s))) := by
  refine F65_call ?_
  unfold F65
  refine op_boxS ty35 rfl h0 e0 fun w1_ hx1_ hA2 hV2 => ?_
  refine op_boxS ty37 rfl h1 (e1.trans hx1_) fun w2_ hx2_ hA3 hV3 => ?_
  refine rd_fld fd37_2 ?_
  refine rd_load ty27 (at_DState_2 hA3) (Ext.refl w2_) fun v13 h13 => ?_
  have hln14 := is_len h13
  refine rd_len u27 h13 ?_
  refine rd_fld fd37_0 ?_
  refine rd_load ty23 (at_DState_0 hA3) (Ext.refl w2_) fun v16 h16 => ?_
  have hln17 := is_len h16
  refine rd_len u23 h16 ?_
  refine rd_fld fd35_0 ?_
  refine rd_load ty22 (at_DCode_0 hA2) hx2_ fun v19 h19 => ?_
  have hln20 := is_len h19
  refine rd_len u22 h19 ?_
  refine rd_neq ?_
  refine br (fun c1 => ?_) (fun c1 => ?_)
  · refine ⟨(hx1_.trans hx2_), ?_⟩
    have : ¬ StateR c s := fun h => by have := h.1; omega
    simp only [this, decide_false]
  · refine rd_fld fd37_1 ?_
    refine rd_load ty23 (at_DState_1 hA3) (Ext.refl w2_) fun v24 h24 => ?_
    have hln25 := is_len h24
    refine rd_len u23 h24 ?_
    refine rd_fld fd35_1 ?_
    refine rd_load ty22 (at_DCode_1 hA2) hx2_ fun v27 h27 => ?_
    have hln28 := is_len h27
    refine rd_len u22 h27 ?_
    refine rd_neq ?_
    refine br (fun c2 => ?_) (fun c2 => ?_)
    · refine ⟨(hx1_.trans hx2_), ?_⟩
      have : ¬ StateR c s := fun h => by have := h.2.1; omega
      simp only [this, decide_false]
    · refine rd_lss ?_
      refine br (fun c3 => ?_) (fun c3 => ?_)
      · refine ⟨(hx1_.trans hx2_), ?_⟩
        have : ¬ StateR c s := fun h => by have := h.2.2.1; omega
        simp only [this, decide_false]
      · refine rd_gtr ?_
        refine br (fun c4 => ?_) (fun c4 => ?_)
        · refine ⟨(hx1_.trans hx2_), ?_⟩
          have : ¬ StateR c s := fun h => by have := h.2.2.1; omega
          simp only [this, decide_false]
        · refine rd_fld fd37_0 ?_
          refine rd_load ty23 (at_DState_0 hA3) (Ext.refl w2_) fun v40 h40 => ?_
          have hln41 := is_len h40
          refine rd_len u23 h40 ?_
          refine loopC (s.vars.length) (fun k us w' => us = [.int .i64 (k : Int)] ∧ Ext w2_ w' ∧ (∀ v ∈ s.vars.take k, 0 ≤ v ∧ v ≤ 999)) (0) (by omega) ⟨by simp, Ext.refl w2_, by simp⟩ ?_
          rintro k m5 uu5 w3_ hk5 ⟨hu, hx3_, hv1⟩
          simp only [List.map_cons, List.map_nil, List.cons.injEq, and_true] at hu
          try rw [hu]
          try clear hu
          refine rd_lss ?_
          refine br (fun c5 => ?_) (fun c5 => ?_)
          · refine rd_indexN u23 ty3 h40 (by omega) fun b44 o44 h44 => ?_
            refine rd_loadI ty3 h44 hx3_ fun hI45 => ?_
            refine rd_lss ?_
            refine br (fun c6 => ?_) (fun c6 => ?_)
            · refine ⟨(hx1_.trans (hx2_.trans hx3_)), ?_⟩
              have : ¬ StateR c s := fun h => by have := h.2.2.2.1 _ (List.getElem_mem (n := k) (by omega)); omega
              simp only [this, decide_false]
            · refine rd_gtr ?_
              refine br (fun c7 => ?_) (fun c7 => ?_)
              · refine ⟨(hx1_.trans (hx2_.trans hx3_)), ?_⟩
                have : ¬ StateR c s := fun h => by have := h.2.2.2.1 _ (List.getElem_mem (n := k) (by omega)); omega
                simp only [this, decide_false]
              · refine rd_inc (by omega) ?_
                refine ⟨m5 - 1, by omega, k + 1, by omega, by simp, hx3_, ?_⟩
                exact mem_succ (by omega) hv1 (by omega)
          · refine rd_fld fd37_1 ?_
            refine rd_load ty23 (at_DState_1 hA3) hx3_ fun v54 h54 => ?_
            have hln55 := is_len h54
            refine rd_len u23 h54 ?_
            refine loopC (s.owner.length) (fun q us w' => us = [.int .i64 (q : Int)] ∧ Ext w3_ w' ∧ (∀ o ∈ s.owner.take q, -1 ≤ o ∧ o < s.stacks.length)) (0) (by omega) ⟨by simp, Ext.refl w3_, by simp⟩ ?_
            rintro q m11 uu11 w4_ hk11 ⟨hu, hx4_, hv2⟩
            simp only [List.map_cons, List.map_nil, List.cons.injEq, and_true] at hu
            try rw [hu]
            try clear hu
            refine rd_lss ?_
            refine br (fun c8 => ?_) (fun c8 => ?_)
            · refine rd_indexN u23 ty3 h54 (by omega) fun b58 o58 h58 => ?_
              refine rd_loadI ty3 h58 (hx3_.trans hx4_) fun hI59 => ?_
              refine rd_lss ?_
              refine br (fun c9 => ?_) (fun c9 => ?_)
              · refine ⟨(hx1_.trans (hx2_.trans (hx3_.trans hx4_))), ?_⟩
                have : ¬ StateR c s := fun h => by have := h.2.2.2.2.1 _ (List.getElem_mem (n := q) (by omega)); omega
                simp only [this, decide_false]
              · refine rd_geq ?_
                refine br (fun c10 => ?_) (fun c10 => ?_)
                · refine ⟨(hx1_.trans (hx2_.trans (hx3_.trans hx4_))), ?_⟩
                  have : ¬ StateR c s := fun h => by have := h.2.2.2.2.1 _ (List.getElem_mem (n := q) (by omega)); omega
                  simp only [this, decide_false]
                · refine rd_inc (by omega) ?_
                  refine ⟨m11 - 1, by omega, q + 1, by omega, by simp, hx4_, ?_⟩
                  exact mem_succ (by omega) hv2 (by omega)
            · refine rd_fld fd37_2 ?_
              refine rd_load ty27 (at_DState_2 hA3) (hx3_.trans hx4_) fun v69 h69 => ?_
              have hln70 := is_len h69
              refine rd_len u27 h69 ?_
              refine loopC (s.stacks.length) (fun p us w' => us = [.int .i64 (p : Int)] ∧ Ext w4_ w' ∧ (∀ l ∈ s.stacks.take p, StackR c l)) (0) (by omega) ⟨by simp, Ext.refl w4_, by simp⟩ ?_
              rintro p m17 uu17 w5_ hk17 ⟨hu, hx5_, hv3⟩
              simp only [List.map_cons, List.map_nil, List.cons.injEq, and_true] at hu
              try rw [hu]
              try clear hu
              refine rd_lss ?_
              refine br (fun c11 => ?_) (fun c11 => ?_)
              · refine rd_indexN u27 ty23 h69 (by omega) fun b73 o73 h73 => ?_
                refine rd_load ty23 h73 (hx3_.trans (hx4_.trans hx5_)) fun v74 h74 => ?_
                refine rd_var hV2 (hx2_.trans (hx3_.trans (hx4_.trans hx5_))) ?_
                refine (stackRight_ok h0 (e0.trans (hx1_.trans (hx2_.trans (hx3_.trans (hx4_.trans hx5_))))) h74 (hx3_.trans (hx4_.trans hx5_)) (by assumption)).mono ?_
                rintro _ w6_ ⟨hx6_, rfl⟩
                refine rd_nodec ?_
                refine br (fun c12 => ?_) (fun c12 => ?_)
                · refine ⟨(hx1_.trans (hx2_.trans (hx3_.trans (hx4_.trans (hx5_.trans hx6_))))), ?_⟩
                  have : ¬ StateR c s := fun h => c12 (h.2.2.2.2.2 _ (List.getElem_mem _))
                  simp only [this, decide_false]
                · refine rd_inc (by omega) ?_
                  refine ⟨m17 - 1, by omega, p + 1, by omega, by simp, (hx5_.trans hx6_), ?_⟩
                  exact mem_succ (by omega) hv3 (Decidable.not_not.1 c12)
              · refine ⟨(hx1_.trans (hx2_.trans (hx3_.trans (hx4_.trans hx5_)))), ?_⟩
                have : StateR c s := ⟨by omega, by omega, by omega, mem_all (by omega) hv1, mem_all (by omega) hv2, mem_all (by omega) hv3⟩
                simp only [this, decide_true]
end Go.Proofs.YtjgfldfbljmhhaaGreat
namespace Go.Sh
set_option linter.unusedVariables false
set_option linter.unusedSimpArgs false
set_option linter.unusedSectionVars false
open Go.RowKit (Below)
open Rep (rep)
section
variable {P : Program} {w w0 w' : World} {α β γ : Type} [Rep α] [Rep β]
/-- v reads as x, by some of the blocks S, no two the same, that may be written -/
def OwnS (S : List Nat) (w : World) (v : Value) (x : α) : Prop := ∃ F, Mine F w v x ∧ ∀ b ∈ F, b ∈ S
theorem OwnS.mono {S T : List Nat} {v : Value} {x : α} (h : OwnS S w v x) (hs : ∀ b ∈ S, b ∈ T) : OwnS T w v x := by
  obtain ⟨F, hm, hF⟩ := h; exact ⟨F, hm, fun b hb => hs b (hF b hb)⟩
theorem OwnS.is {S : List Nat} {v : Value} {x : α} (h : OwnS S w v x) : Is w v x := by obtain ⟨F, hm, _⟩ := h; exact hm.is
theorem OwnS.ext {S : List Nat} {v : Value} {x : α} (h : OwnS S w v x) (hx : Ext w w') : OwnS S w' v x := by obtain ⟨F, hm, hF⟩ := h; exact ⟨F, hm.ext hx, hF⟩
theorem OwnS.chg {S T : List Nat} {v : Value} {x : α} (h : OwnS S w v x) (hc : Chg T w w') (hd : ∀ b ∈ S, b ∉ T) : OwnS S w' v x := by
  obtain ⟨F, hm, hF⟩ := h; exact ⟨F, hm.keep fun b hb => hc.block b (hm.lt b hb) (hd b (hF b hb)), hF⟩
theorem OwnS.toI {S : List Nat} {v : Value} {x : α} {lo hi : Nat} (h : OwnS S w v x) (hs : ∀ b ∈ S, lo ≤ b ∧ b < hi) : OwnI lo hi w v x := by
  obtain ⟨F, hm, hF⟩ := h; exact ⟨F, hm, fun b hb => hs b (hF b hb)⟩
/-- the place of an element -/
theorem rd_focus {t e : TypeId} {by_ : Nat} {F : List Nat} {v : Value} {l : List α} {k : Nat} {K : Value → Prop} (ht : P.underlying t = some (.slice e)) (he : tyI P e = some (Rep.size α, by_, Rep.agg α)) (hm : Mine F w v l) (hk : k < l.length)
    (kk : ∀ b o G, Lens (MH v) F w b o G l[k] (fun y => l.set k y) → K (.pointer (some ⟨b, o, none⟩))) : RD P (Instr.indexAt t v (.int .i64 (k : Int))) w K := by
  obtain ⟨b, a, cap, G, hv, hL⟩ := focus hm hk
  refine rd_of (v := .pointer (some ⟨b, a + k * Rep.size α, none⟩)) (fun w' _ => ?_) (kk _ _ _ hL)
  rw [hv, run_indexAt' ht he (by omega) (by omega)]; simp
/-- the value in a cell of a block that is known whole -/
theorem rd_blkV {ft by_ g e o : Nat} {cs : List Value} {v : Value} {K : Value → Prop} (hft : tyI P ft = some (1, by_, false)) (hB : Blk g e w cs) (ho : cs[o]? = some v) (k : K v) :
    RD P (Instr.loadAt ft (.pointer (some ⟨g, o, none⟩))) w K := by
  refine rd_of (fun w' hx' => ?_) k
  have h0 : w'.cell? ⟨g, o, none⟩ = some v := by simpa using (rangeAt_ext hB.range hx') o v ho
  have hA := run_isAgg hft w'
  simp [Instr.loadAt, Instr.sureAddr, loadVar, hA, h0]
/-- a struct in hand is put into a variable: its cells -/
theorem op_boxB {t : TypeId} {cs : Array Value} {K : Value → World → Prop} (k : ∀ w', Ext w w' → Blk w.heap.size t w' cs.toList → K (.pointer (some ⟨w.heap.size, 0, none⟩)) w') : OP P (Instr.box t (.agg cs)) w K :=
  ⟨_, w.alloc (.cells cs t), by simp [Instr.box, newVar, newRow, Value.cells], k _ (ext_alloc w _) (by unfold Blk; rw [heap_alloc_new w _])⟩
/-- a store of what has no blocks at such a place -/
theorem opu_lensF {t by_ b o : Nat} {F G : List Nat} {v : Value} {y y' : β} {upd : β → α} {u : Value} {K : World → Prop} (ht : tyI P t = some (Rep.size β, by_, Rep.agg β)) (h : Lens (MH v) F w b o G y upd)
    (hu : Mine [] w u y') (k : ∀ w' F', Chg F w w' → Mine F' w' v (upd y') → (∀ c ∈ F', c ∈ F) → K w') : OPU P (Instr.storeAt t (.pointer (some ⟨b, o, none⟩)) u) w K :=
  opu_lens ht h hu (by simp) fun w' hc ⟨F', h1, h2⟩ => k w' F' hc h1 fun c hc => by
    rcases h2 c hc with h | h
    · exact h
    · simp at h
theorem mine_int {x : Int} (h : I64 x) : Mine [] w (.int .i64 x) x := ⟨⟨_, ⟨rfl, rfl, h⟩, rfl⟩, List.nodup_nil, Wr.nil w⟩
theorem Chg.sub {F G : List Nat} {a b c : World} (h : Chg F a b) (k : Chg G b c) (hs : ∀ x ∈ G, x ∈ F) : Chg F a c := h.trans (k.mono hs)
/-- a[k].f = x -/
theorem st_fld {t e ft i off by_ by2 : Nat} {F : List Nat} {v u : Value} {l : List α} {k : Nat} {y' : β} {sel : α → β} {g : α → β → α} {K : World → Prop} (ht : P.underlying t = some (.slice e)) (he : tyI P e = some (Rep.size α, by_, Rep.agg α)) (hf : fldB P e i = some off) (hft : tyI P ft = some (Rep.size β, by2, Rep.agg β))
    (L : ∀ {a : α} {G : List Nat} {b o : Nat} {upd : α → List α}, Lens (MH v) F w b o G a upd → ∃ G1, Lens (MH v) F w b (o + off) G1 (sel a) (fun y => upd (g a y))) (hm : Mine F w v l) (hk : k < l.length) (hu : Mine [] w u y')
    (kk : ∀ w' F', Chg F w w' → Mine F' w' v (l.set k (g l[k] y')) → (∀ c ∈ F', c ∈ F) → K w') :
    RD P (Instr.indexAt t v (.int .i64 (k : Int))) w fun p => RD P (Instr.fieldAt e p i) w fun q => OPU P (Instr.storeAt ft q u) w K := by
  refine rd_focus ht he hm hk fun b o G hL => ?_
  refine rd_fld hf ?_
  obtain ⟨G1, hL1⟩ := L hL
  exact opu_lensF (upd := fun y => l.set k (g l[k] y)) hft hL1 hu kk
/-- from i on cur is as l -/
def RestL (i : Nat) (cur l : List α) : Prop := cur.length = l.length ∧ ∀ j, i ≤ j → cur[j]? = l[j]?
theorem RestL.set {i : Nat} {cur l : List α} (h : RestL i cur l) (x : α) : RestL (i + 1) (cur.set i x) l :=
  ⟨by rw [List.length_set]; exact h.1, fun j hj => by rw [List.getElem?_set_ne (by omega)]; exact h.2 j (by omega)⟩
theorem RestL.set1 {i : Nat} {cur l : List α} (h : RestL (i + 1) cur l) (x : α) : RestL (i + 1) (cur.set i x) l :=
  ⟨by rw [List.length_set]; exact h.1, fun j hj => by rw [List.getElem?_set_ne (by omega)]; exact h.2 j (by omega)⟩
/-- behind i cur is as l; at i its part f is as l's -/
def KeepF {γ : Type} (f : α → γ) (i : Nat) (cur l : List α) : Prop := RestL (i + 1) cur l ∧ ∃ (h : i < cur.length) (h' : i < l.length), f cur[i] = f l[i]
theorem KeepF.set {γ : Type} {f : α → γ} {i : Nat} {cur l : List α} (h : KeepF f i cur l) {x : α} (hx : ∀ h : i < cur.length, f x = f cur[i]) : KeepF f i (cur.set i x) l := by
  obtain ⟨h1, h2, h3, h4⟩ := h
  exact ⟨h1.set1 x, by rw [List.length_set]; exact h2, h3, by rw [List.getElem_set_self, hx h2, h4]⟩
theorem Var.chgI {t g a b : Nat} {v : Value} (h : Var P t w g v) (hc : ChgI a b w w') (hd : g < a ∨ b ≤ g) : Var P t w' g v := h.keep (hc.block g h.lt hd)
end
end Go.Sh
namespace Go.Proofs.YtjgfldfbljmhhaaGreat
open Go Go.Sh Go.Proofs
set_option linter.unusedVariables false
def overIn (s : DState) : Prop := ∀ x ∈ s.stacks, x = []
instance (s : DState) : Decidable (overIn s) := inferInstanceAs (Decidable (∀ x ∈ s.stacks, x = []))
end Go.Proofs.YtjgfldfbljmhhaaGreat
namespace Go.Proofs.YtjgfldfbljmhhaaGreat
open Go Go.Sh Go.Proofs
set_option linter.unusedVariables false
set_option linter.unusedSimpArgs false
/-- the owner of a lock -/
def ow (s : DState) (i : Int) : Int := s.owner.getD i.toNat 0
/-- the stack of a thread -/
def stk (s : DState) (t : Int) : List Int := s.stacks.getD t.toNat []
theorem stk_get {s : DState} {t : Int} (h : t.toNat < s.stacks.length) : s.stacks[t.toNat] = stk s t := by unfold stk; rw [List.getD_eq_getElem?_getD, List.getElem?_eq_getElem h]; rfl
/-- the instruction that a thread is ahead of -/
def atI (c : DCode) (s : DState) (t : Int) : DIns := insAt c (atOf s t).toNat
theorem at_stack {s : DState} {t : Int} (h0 : 0 ≤ t) (h1 : t.toNat < s.stacks.length) : atOf s t = (stk s t).getLastD (-1) := by
  unfold atOf; rw [dif_pos ⟨h0, h1⟩, stk_get h1]
theorem last_st {l : List Int} (h : l ≠ []) : l.getLastD (-1) = st l (l.length - 1) := by
  unfold st
  rw [List.getLastD_eq_getLast?, List.getLast?_eq_getElem?, List.getD_eq_getElem?_getD]
  have : l.length - 1 < l.length := by have := List.length_pos_iff.2 h; omega
  rw [List.getElem?_eq_getElem this]; rfl
theorem at_lt {c : DCode} {s : DState} (hs : StateR c s) (t : Int) : -1 ≤ atOf s t ∧ atOf s t < c.ins.length := by
  by_cases h : 0 ≤ t ∧ t.toNat < s.stacks.length
  · rw [at_stack h.1 h.2]
    by_cases hn : stk s t = []
    · rw [hn]; simp [List.getLastD]; omega
    · have hl := List.length_pos_iff.2 hn
      have hm := hs.2.2.2.2.2 (stk s t) (by rw [← stk_get h.2]; exact List.getElem_mem _)
      rw [last_st hn]
      have := hm.2.1 ((stk s t).length - 1) (by omega)
      omega
  · unfold atOf; rw [dif_neg h]; omega
/-- what a right instruction's argument is -/
theorem ins_right {c : DCode} (hc : CodeR c) {j : Nat} (hj : j < c.ins.length) : InsR c (insAt c j) (en c (procOf c j).toNat) (endOf c (procOf c j) + 1) := hc.2.2 j hj
theorem lock_arg {c : DCode} (hc : CodeR c) {j : Nat} (hj : j < c.ins.length) (h : (insAt c j).op = 6 ∨ (insAt c j).op = 7) : 0 ≤ (insAt c j).arg ∧ (insAt c j).arg < c.locks.length := by
  have := (ins_right hc hj).2.1
  unfold argMost at this
  rwa [if_neg (by omega), if_neg (by omega), if_pos h] at this
theorem NamesR.locks6 {c : DCode} (h : NamesR c) : c.locks.length ≤ 6 := by
  have h1 := h.2.1
  simp only [Bool.and_eq_true, decide_eq_true_eq] at h1
  omega
def GoR (c : DCode) (s : DState) (t : Int) : Prop := 0 ≤ atOf s t ∧ ((atI c s t).op = 6 → ow s (atI c s t).arg = -1) ∧ ((atI c s t).op = 4 → ((stk s t).length : Int) < 8)
instance (c : DCode) (s : DState) (t : Int) : Decidable (GoR c s t) := by unfold GoR; infer_instance
/-- the first k threads that can go -/
def readyTo (c : DCode) (s : DState) : Nat → List Int
  | 0 => []
  | k + 1 => if GoR c s k then readyTo c s k ++ [(k : Int)] else readyTo c s k
def readyL (c : DCode) (s : DState) : List Int := readyTo c s s.stacks.length
def stoppedIn (c : DCode) (s : DState) : Prop := (CodeR c ∧ StateR c s) ∧ ¬ overIn s ∧ readyL c s = []
instance (c : DCode) (s : DState) : Decidable (stoppedIn c s) := by unfold stoppedIn; infer_instance
end Go.Proofs.YtjgfldfbljmhhaaGreat
namespace Go.Sh
set_option linter.unusedVariables false
set_option linter.unusedSimpArgs false
open Rep (rep)
section
variable {P : Program} {w w0 : World} {α : Type} [Rep α]
theorem cells_rep [RepZ α] {z : Value} (hz : RepZ.zc α = [z]) (w : World) : ∀ n, Cells [] w (List.replicate n z) (List.replicate n (RepZ.zv : α))
  | 0 => ⟨rfl, rfl⟩
  | n + 1 => ⟨[], [], [z], List.replicate n z, rfl, rfl, hz ▸ RepZ.zr w, cells_rep hz w n⟩
theorem made_one (z : Value) (n : Nat) : (madeCells #[z] n).toList = List.replicate n z := by
  apply List.ext_getElem
  · simp [madeCells]
  · intro i h1 h2
    simp [madeCells, Nat.mod_one]
/-- make([]T, n) of what takes one cell -/
theorem op_makeZ [RepZ α] {t e : TypeId} {by_ : Nat} {z : Value} {K : Value → World → Prop} {n : Nat} (ht : P.underlying t = some (.slice e)) (he : tyI P e = some (Rep.size α, by_, Rep.agg α)) (h1 : Rep.size α = 1) (hzc : RepZ.zc α = [z]) (hz : zeroL P e = some [z])
    (hb : by_ * n ≤ 281474976710656) (hm : n ≤ 9223372036854775807)
    (k : ∀ w', Ext w w' → RowI w.heap.size w'.heap.size e w' (.slice (some ⟨w.heap.size, 0, none⟩) n n) (List.replicate n (RepZ.zv : α)) → K (.slice (some ⟨w.heap.size, 0, none⟩) n n) w') :
    OP P (Instr.makeSlice t (.int .i64 (n : Int)) (.int .i64 (n : Int))) w K := by
  obtain ⟨i, d, hi, hd, hs, hby, hg⟩ := tyI_info he
  unfold zeroL at hz
  rw [hi] at hz
  obtain ⟨zz, hzz, hcz⟩ := Option.map_eq_some_iff.1 hz
  have hb' : (i.bytes : Int) * (n : Int) ≤ 281474976710656 := by
    have h : ((i.bytes * n : Nat) : Int) ≤ 281474976710656 := by rw [hby]; omega
    rwa [Int.natCast_mul] at h
  have hr := run_make (P := P) w t e i zz ht hi hzz .i64 .i64 n n (by omega) (Int.le_refl _) hb' (by omega)
  simp only [Int.toNat_natCast] at hr
  have hcells : zz.cells = #[z] := by apply Array.ext'; simpa using hcz
  have hlen : n * i.size = n := by rw [hs, h1, Nat.mul_one]
  rw [hcells, hlen] at hr
  refine ⟨_, _, hr, k _ (ext_alloc w _) (.inr ⟨[w.heap.size], ⟨List.replicate n z, [], ⟨?_, .inr ⟨w.heap.size, n, madeCells #[z] n, ?_, Nat.zero_le _, heap_alloc_new w _, by simp, by rw [maxLen_eq]; omega, ?_, ?_⟩⟩, cells_rep hzc _ n, rfl, Wr.nil _⟩, by simp, ?_⟩)⟩
  · simp [h1]
  · simp
  · rw [h1]; simp [madeCells]
  · rw [made_one, List.length_replicate, h1, Nat.mul_one, List.take_of_length_le (by simp)]
  · intro b hb
    simp only [List.mem_cons, List.not_mem_nil, or_false] at hb
    subst hb
    exact ⟨Nat.le_refl _, (Array.getElem?_eq_some_iff.1 (heap_alloc_new w _)).1⟩
theorem rd_build {K : Value → Prop} {t : TypeId} {parts : Array (Nat × Value)} {cells : Array Value} (h : P.built t parts.toList = some cells) (k : K (.agg cells)) : RD P (Instr.build t parts) w K :=
  rd_of (fun w' _ => run_build w' t parts cells h) k
/-- .. what is written into one cell -/
theorem opu_blkC {t by_ g e o : Nat} {cs : List Value} {u : Value} {lo hi : Nat} {x : α} {K : World → Prop} (ht : tyI P t = some (1, by_, false)) (h1 : Rep.size α = 1) (ha : Rep.agg α = false) (hB : Blk g e w cs) (ho : o < cs.length) (hu : OwnI lo hi w u x)
    (k : ∀ w', ChgI g (g + 1) w w' → Blk g e w' (cs.set o u) → K w') : OPU P (Instr.storeAt t (.pointer (some ⟨g, o, none⟩)) u) w K := by
  obtain ⟨F, ⟨⟨cs', hr, hv⟩, _⟩, _⟩ := hu
  have hl' := Rep.len hr
  rw [h1] at hl'
  obtain ⟨c, rfl⟩ := List.length_eq_one_iff.1 hl'
  have huc : u = c := by simpa [mkv, ha] using hv
  subst huc
  refine opu_blk (by rw [h1, ha]; exact ht) hB hr hv (by omega) fun w' hc hB' => k w' (hc.toI (by simp)) ?_
  have : cs.set o u = cs.take o ++ [u] ++ cs.drop (o + 1) := by
    rw [List.set_eq_take_append_cons_drop, if_pos ho]; simp
  rw [this]; exact hB'
theorem Blk.chgI {g e a b : Nat} {w' : World} {cs : List Value} (h : Blk g e w cs) (hc : ChgI a b w w') (hd : g < a ∨ b ≤ g) : Blk g e w' cs := h.keep (hc.block g h.lt hd)
end
end Go.Sh
namespace Go.Sh
set_option linter.unusedVariables false
set_option linter.unusedSimpArgs false
set_option linter.unusedSectionVars false
open Rep (rep)
/-- a row, or a slice that holds nothing and has no room -/
def RowG {α : Type} [Rep α] (F : List Nat) (e : TypeId) (w : World) (v : Value) (l : List α) : Prop := (∃ a, v = .slice a 0 0 ∧ l = [] ∧ F = []) ∨ RowF F e w v l
section
variable {P : Program} {w w0 w' : World} {α β γ : Type} [Rep α] [Rep β] {e lo hi : Nat} {v : Value} {l : List α} {F : List Nat}
theorem RowG.lt (h : RowG F e w v l) : ∀ b ∈ F, b < w.heap.size := by
  rcases h with ⟨a, _, _, rfl⟩ | h
  · simp
  · exact h.lt
theorem RowG.keep (h : RowG F e w v l) (hk : ∀ b ∈ F, w'.heap[b]? = w.heap[b]?) : RowG F e w' v l := by
  rcases h with h | h
  · exact .inl h
  · exact .inr (h.keep hk)
theorem RowG.own (h : RowG F e w v l) : OwnF F w v l := by
  rcases h with ⟨a, rfl, rfl, rfl⟩ | h
  · exact ⟨_, ⟨a, 0, [], [], rfl, Nat.le_refl _, Nat.zero_le _, ⟨rfl, rfl⟩, .inl ⟨rfl, rfl⟩⟩, rfl⟩
  · exact h.own
theorem RowG.wr (h : RowG F e w v l) : Wr F w := by
  rcases h with ⟨a, _, _, rfl⟩ | h
  · exact Wr.nil w
  · exact h.wr
theorem RowG.one (h : RowG F e w v l) : v.oneCell' = true := by
  obtain ⟨cs, ⟨a, cap, Fi, xs, rfl, _⟩, rfl⟩ := h.own
  rfl
theorem rowI_iff : RowI lo hi e w v l ↔ ∃ F, RowG F e w v l ∧ F.Nodup ∧ ∀ b ∈ F, lo ≤ b ∧ b < hi := by
  constructor
  · rintro (⟨a, h1, h2⟩ | ⟨F, h1, h2, h3⟩)
    · exact ⟨[], .inl ⟨a, h1, h2, rfl⟩, List.nodup_nil, by simp⟩
    · exact ⟨F, .inr h1, h2, h3⟩
  · rintro ⟨F, (⟨a, h1, h2, _⟩ | h1), h2', h3⟩
    · exact .inl ⟨a, h1, h2⟩
    · exact .inr ⟨F, h1, h2', h3⟩
end
/-- a slice that is appended to, with its value -/
structure RV (α : Type) (e : TypeId) where
  v : Value
  l : List α
instance {α : Type} [Rep α] {e : TypeId} : Rep (RV α e) where
  size := 1
  agg := false
  rep F w cs x := cs = [x.v] ∧ RowG F e w x.v x.l
  pos := by decide
  sz _ := rfl
  len := by rintro _ _ _ _ ⟨rfl, _⟩; rfl
  one := by rintro _ _ _ _ ⟨rfl, h⟩ v hv; simp at hv; subst hv; exact h.one
  keep := by rintro _ _ _ _ _ ⟨rfl, h⟩ hk; exact ⟨rfl, h.keep hk⟩
  lt := by rintro _ _ _ _ ⟨rfl, h⟩; exact h.lt
section
variable {P : Program} {w w0 w' : World} {α β γ : Type} [Rep α] [Rep β] {e lo hi : Nat} {v : Value} {l : List α} {F : List Nat}
instance : RepZ (RV α e) := ⟨⟨.slice none 0 0, []⟩, [.slice none 0 0], fun _ => ⟨rfl, .inl ⟨none, rfl, rfl, rfl⟩⟩⟩
end
end Go.Sh
namespace Go.Sh
set_option linter.unusedVariables false
open Rep (rep)
abbrev RInts := RV Int 3
abbrev RIntss := RV RInts 23
structure DStV where
  vars : List Int
  owner : List Int
  stacks : RIntss
theorem DStV.ext_iff {x y : DStV} : x = y ↔ (x.vars = y.vars ∧ x.owner = y.owner ∧ x.stacks = y.stacks) := ⟨fun h => by rw [h]; exact ⟨rfl, rfl, rfl⟩, fun h => by obtain ⟨h0, h1, h2⟩ := h; cases x; cases y; simp only at h0 h1 h2; simp only [h0, h1, h2]⟩
instance : Rep DStV := Rep.via fun x => (x.vars, x.owner, x.stacks)
instance : RepZ DStV := ⟨⟨(RepZ.zv : List Int), (RepZ.zv : List Int), (RepZ.zv : RIntss)⟩, RepZ.zc ((List Int) × (List Int) × RIntss), fun w => RepZ.zr (α := (List Int) × (List Int) × RIntss) w⟩
section
variable {w : World}
end
end Go.Sh
namespace Go.Proofs.YtjgfldfbljmhhaaGreat
open Go Go.Sh Go.Proofs
set_option linter.unusedVariables false
set_option linter.unusedVariables false
set_option linter.unusedSimpArgs false
end Go.Proofs.YtjgfldfbljmhhaaGreat
namespace Go.Sh
set_option linter.unusedVariables false
set_option linter.unusedSimpArgs false
set_option linter.unusedSectionVars false
open Rep (rep)
/-- a cell as it is -/
structure Raw where
  v : Value
instance : Rep Raw where
  size := 1
  agg := false
  rep F _ cs x := F = [] ∧ cs = [x.v] ∧ x.v.oneCell' = true
  pos := by decide
  sz _ := rfl
  len := by rintro _ _ _ _ ⟨_, rfl, _⟩; rfl
  one := by rintro _ _ _ _ ⟨_, rfl, h⟩ v hv; simp at hv; subst hv; exact h
  keep := by rintro _ _ _ _ _ h _; exact h
  lt := by rintro _ _ _ _ ⟨rfl, _⟩ b hb; cases hb
section
variable {P : Program} {w w0 w' w1 : World} {α β γ : Type} [Rep α] [Rep β] {e lo hi : Nat} {v : Value} {F G S : List Nat} {b o g : Nat}
theorem ChgAt.ext_left {n : Nat} (hx : Ext w w1) (h : ChgAt b o n G w1 w') : ChgAt b o n G w w' :=
  ⟨(hx.chg _).trans h.chg, fun c e hc => h.cell c e (by rw [hx.heap (Array.getElem?_eq_some_iff.1 hc).1]; exact hc)⟩
theorem OAt.ext {x : α} (h : OAt G w b o x) (hx : Ext w w1) : OAt G w1 b o x := h.keep fun c hc => hx.heap (h.lts c hc)
/-- a place stays while the world grows -/
theorem Lens.ext {H : List Nat → World → γ → Prop} {y : β} {upd : β → γ} (h : Lens H S w b o G y upd) (hx : Ext w w1) : Lens H S w1 b o G y upd :=
  ⟨h.here.ext hx, h.sub, fun w' G' y' hch hO hs => h.back w' G' y' (hch.ext_left hx) hO hs⟩
theorem VarI.mono {lo' hi' : Nat} {x : α} (h : VarI lo hi w g x) (h1 : lo' ≤ lo) (h2 : hi ≤ hi') : VarI lo' hi' w g x := by
  obtain ⟨F, h, hF⟩ := h; exact ⟨F, h, fun b hb => by have := hF b hb; omega⟩
/-- append(v, x), told by the blocks -/
theorem op_pushB {t ty : TypeId} {by_ : Nat} {u : Value} {x : β} {l : List β} {GX : List Nat} {K : World → Value → World → Prop} {C : Value → World → Prop} (ht : P.underlying t = some (.slice e)) (he : tyI P e = some (Rep.size β, by_, Rep.agg β)) (hz : zeroOf P e = true)
    (hzc : (P.info? e).map (fun i => (i.zero.map (·.cells.size))) = some (some (Rep.size β))) (hsz : Rep.size β ≤ 1000) (hv : RowG G e w v l) (hn : G.Nodup) (hx : Mine GX w u x) (hd : ∀ c ∈ GX, c ∉ G) (hm : l.length + 1 ≤ maxLen) (hb : (l.length + 1) * by_ ≤ 140737488355328)
    (k : ∀ w1 v' w' G', Ext w w1 → Chg G w1 w' → RowG G' e w' v' (l ++ [x]) → G'.Nodup → (∀ c ∈ G', c ∈ G ∨ c ∈ GX ∨ w.heap.size ≤ c) → K w1 v' w')
    (hC : ∀ s w1, Ext w w1 → OP P (Builtin.append_ #[t, t] ty [v, s].toArray) w1 (K w1) → C s w1) : OP P (Instr.buildSlice t 1 #[(0, u)]) w C := by
  refine op_build1 ht he hz hsz hx fun w1 hx1 hm1 => ?_
  obtain ⟨⟨cs, ⟨a, cap, Fi, xs, rfl, h1, h2, hc, h4⟩, hveq⟩, hn1, hw1⟩ := hm1
  simp only [mkv, Rep.agg, cond_false, List.headD_cons, Value.slice.injEq, List.length_cons, List.length_nil] at hveq
  obtain ⟨rfl, _, rfl⟩ := hveq
  rcases h4 with ⟨h4, _⟩ | ⟨b, o, hab, hFe, hra, hbl⟩
  · simp at h4
  simp only [List.cons.injEq] at hFe
  obtain ⟨_, rfl⟩ := hFe
  refine hC _ w1 hx1 ?_
  have key : ∀ (v : Value) (F : List Nat), RowF F e w v l → F.Nodup → (∀ c ∈ F, c ∈ G) → OP P (Builtin.append_ #[t, t] ty [v, .slice (some ⟨w.heap.size, 0, none⟩) 1 1].toArray) w1 (K w1) := by
    intro v F hF hFn hFG
    have hF1 := hF.ext hx1
    have hdd : (GX ++ F).Nodup := by
      rw [List.nodup_append]
      exact ⟨hx.nodup, hFn, fun p hp q hq e => hd p hp (hFG _ (e ▸ hq))⟩
    refine op_append (m := [x]) ht he hzc hF1 hFn rfl hc (.inr ⟨b, o, hab, hra⟩) (hw1.sub (by simp +contextual)) hdd (by simpa using hm) (by simpa using hb) fun v' w' F' hch hfull hr' hn' hs' => ?_
    have hown : ∀ c ∈ v.ownBlock.toList, c ∈ G := fun c hc => by
      obtain ⟨xs, Fi, _, _, rfl, _⟩ := hF
      exact hFG c (by simp only [List.mem_append]; exact .inl hc)
    refine k w1 v' w' F' hx1 (hch.mono hown) (.inr hr') hn' fun c hc => ?_
    rcases hs' c hc with h | h | h
    · exact .inl (hFG c h)
    · exact .inr (.inl h)
    · exact .inr (.inr (Nat.le_trans hx1.size h))
  rcases hv with ⟨a0, rfl, rfl, rfl⟩ | hF
  · have kn := key (.slice none 0 0) [] (rowF_none e w) List.nodup_nil (by simp)
    cases a0 with
    | none => exact kn
    | some x0 =>
      simp only [Option.some.injEq, Addr.mk.injEq] at hab
      obtain ⟨rfl, rfl, _⟩ := hab
      exact op_of_eq (append_zcap (α := β) (n := 1) ht he hzc (by simpa using Cells.len hc) hra (by omega) (by rw [maxLen_eq]; omega) (by simpa using hb)) kn
  · exact key v G hF hn (fun _ h => h)
/-- a literal of one element without blocks: a row -/
theorem op_build1R [Flat β] {t : TypeId} {by_ : Nat} {u : Value} {x : β} {K : Value → World → Prop} (ht : P.underlying t = some (.slice e)) (he : tyI P e = some (Rep.size β, by_, Rep.agg β)) (hz : zeroOf P e = true) (hsz : Rep.size β ≤ 1000) (hx : Mine [] w u x)
    (k : ∀ v w', Ext w w' → RowI w.heap.size w'.heap.size e w' v [x] → K v w') : OP P (Instr.buildSlice t 1 #[(0, u)]) w K := by
  obtain ⟨⟨cs, hr, rfl⟩, hn, hw⟩ := hx
  have hcl := mkv_cells hr
  have hlen := Rep.len hr
  have hvs : (mkv β cs).cells.size = Rep.size β := by rw [← Array.length_toList, hcl, hlen]
  obtain ⟨i, d, hi, hd, hs, hby, hg⟩ := tyI_info he
  unfold zeroOf at hz
  rw [hi] at hz
  obtain ⟨z, hz⟩ := Option.isSome_iff_exists.1 hz
  have hpos := Rep.pos (α := β)
  refine ⟨_, w.alloc (.cells (mkv β cs).cells e), ?_, k (.slice (some ⟨w.heap.size, 0, none⟩) 1 1) _ (ext_alloc w _) (.inr ⟨[w.heap.size], ⟨cs, [], ⟨by simp [hlen], .inr ⟨w.heap.size, 1, (mkv β cs).cells, rfl, Nat.zero_le _, heap_alloc_new w _, Nat.le_refl _, by rw [maxLen_eq]; omega, by rw [hvs, Nat.one_mul], ?_⟩⟩, Cells.single (rep_ext hr (ext_alloc w _)), rfl, Wr.nil _⟩, by simp, ?_⟩)⟩
  · have hne : ¬ Rep.size β = 0 := by omega
    have h24 : ¬ 2 ^ 24 < Rep.size β := by omega
    simp only [Instr.buildSlice, Sem.run_bind, run_underlying ht, Result.andThen_ok, run_sizeOf' he, Nat.one_mul]
    simp [h24, hne, zeroValue, typeInfo, hi, hz, fill_one _ _ _ hvs, newRow]
  · rw [hcl, List.length_singleton, Nat.one_mul, List.take_of_length_le (by omega)]
  · intro b hb
    simp only [List.mem_cons, List.not_mem_nil, or_false] at hb
    subst hb
    exact ⟨Nat.le_refl _, (Array.getElem?_eq_some_iff.1 (heap_alloc_new w _)).1⟩
end
end Go.Sh
namespace Go.Proofs.YtjgfldfbljmhhaaGreat
open Go Go.Sh Go.Proofs
set_option linter.unusedVariables false
set_option linter.unusedVariables false
set_option linter.unusedSimpArgs false
theorem main_lt {c : DCode} (hc : CodeR c) : 0 ≤ plc mainS c.procs ∧ (plc mainS c.procs).toNat < c.entry.length := by
  have h1 := plc_iff.2 hc.1.2.2.2.2.2.2
  have h2 := plc_lt (s := mainS) (l := c.procs)
  have h3 := hc.2.1.1
  omega
/-- spec.l14Main -/
def F188 (a0 : Value) (w : World) (R : Value → World → Prop) : Prop :=
  OP Tryz.prog (Instr.box 35 a0) w fun x1 w =>
  RD Tryz.prog (Instr.fieldAt 35 x1 2) w fun x3 =>
  RD Tryz.prog (Instr.loadAt 22 x3) w fun x4 =>
  CALL Tryz.prog 204 [x4, (Value.string (ByteArray.mk #[109, 97, 105, 110]))] w fun x5 w =>
  R x5 w
def cfg188 : Cfg := { ext := extL, joins := [], loops := [], draws := [], pars := [] }
theorem F188_eq (a0 : Value) (w : World) (R : Value → World → Prop) : vcF Tryz.prog cfg188 Tryz.f188 [a0] w R = F188 a0 w R := by kernel_rfl
theorem F188_call {a0 : Value} {w : World} {R : Value → World → Prop} (h : F188 a0 w R) : CALL Tryz.prog 188 [a0] w R :=
  call_of (g := cfg188) ent mixed Tryz.func188 (Nat.le_of_ble_eq_true (by kernel_rfl)) (by kernel_rfl) (F188_eq a0 w R ▸ h)
theorem l14Main_ok {w : World} {v0 : Value} {W0 : World} {c : DCode}  (h0 : Is W0 v0 c) (e0 : Ext W0 w)  :
    CALL Tryz.prog 188 [v0] w fun r w' => Ext w w' ∧ (r = .int .i64 (plc mainS c.procs)) := by
  refine F188_call ?_
  unfold F188
  refine op_boxS ty35 rfl h0 e0 fun w1_ hx1_ hA1 hV1 => ?_
  refine rd_fld fd35_2 ?_
  refine rd_load ty22 (at_DCode_2 hA1) (Ext.refl w1_) fun v4 h4 => ?_
  refine (specPlaceOf_ok h4 (Ext.refl w1_)).mono ?_
  rintro _ w2_ ⟨hx2_, rfl⟩
  refine ⟨(hx1_.trans hx2_), ?_⟩
  rfl
end Go.Proofs.YtjgfldfbljmhhaaGreat
namespace Go.Proofs.YtjgfldfbljmhhaaGreat
open Go Go.Sh Go.Proofs
set_option linter.unusedVariables false
set_option linter.unusedSimpArgs false
theorem mem_set {α : Type} {l : List α} {i : Nat} {x y : α} (h : y ∈ l.set i x) : y = x ∨ y ∈ l := by
  rcases List.mem_or_eq_of_mem_set h with h | h
  · exact .inr h
  · exact .inl h
/-- the place behind one that is no end lies in the same procedure -/
theorem proc_next {c : DCode} (hc : CodeR c) {a : Int} (h0 : 0 ≤ a) (h1 : a < c.ins.length) (ho : (insAt c a.toNat).op ≠ 9) : a + 1 < c.ins.length ∧ procOf c (a + 1) = procOf c a := by
  obtain ⟨i, hi, h2, h3, h4⟩ := hc.f.find hc.1.procs8.2 h0 h1
  have h5 := (hc.2.1.2.2.2 a.toNat (by omega))
  rw [Int.toNat_of_nonneg h0, h4, endOf_eq] at h5
  have h6 : endB c i - 1 ≠ a := fun e => ho (h5.2 e)
  have h7 := (hc.f.lt i hi).2
  exact ⟨by omega, by rw [h4]; exact hc.f.proc hi (by omega) (by omega)⟩
/-- where a jump leads lies in the same procedure -/
theorem proc_to {c : DCode} (hc : CodeR c) {a : Int} (h0 : 0 ≤ a) (h1 : a < c.ins.length) (ho : (insAt c a.toNat).op = 2 ∨ (insAt c a.toNat).op = 3) :
    0 ≤ (insAt c a.toNat).to ∧ (insAt c a.toNat).to < c.ins.length ∧ procOf c (insAt c a.toNat).to = procOf c a := by
  obtain ⟨i, hi, h2, h3, h4⟩ := hc.f.find hc.1.procs8.2 h0 h1
  have h5 := (ins_right hc (j := a.toNat) (by omega)).2.2.2
  rw [if_pos ho, Int.toNat_of_nonneg h0, h4, endOf_eq, Int.toNat_natCast] at h5
  have h6 := hc.f.nonneg hi
  have h7 := (hc.f.lt i hi).2
  exact ⟨by omega, by omega, by rw [h4]; exact hc.f.proc hi h5.1 (by omega)⟩
theorem proc_en {c : DCode} (hc : CodeR c) {i : Nat} (hi : i < c.entry.length) : 0 ≤ en c i ∧ en c i < c.ins.length ∧ procOf c (en c i) = i := by
  have h6 := hc.f.nonneg hi
  have h7 := hc.f.lt i hi
  exact ⟨h6, by omega, hc.f.proc hi (Int.le_refl _) h7.1⟩
end Go.Proofs.YtjgfldfbljmhhaaGreat
namespace Go.Sh
set_option linter.unusedVariables false
/-- numbers as the program's -/
def ints (l : List Nat) : List Int := l.map fun x : Nat => (x : Int)
theorem ints_len (l : List Nat) : (ints l).length = l.length := by simp [ints]
theorem ints_get {l : List Nat} {i : Nat} (h : i < (ints l).length) : (ints l)[i] = ((l[i]'(by rw [← ints_len]; exact h) : Nat) : Int) := by simp [ints]
theorem ints_append (l m : List Nat) : ints (l ++ m) = ints l ++ ints m := by simp [ints]
theorem ints_take (l : List Nat) (k : Nat) : ints (l.take k) = (ints l).take k := by simp [ints]
/-- is it marked? -/
def mkd (ms : List Bool) (i : Nat) : Prop := ms.getD i false = true
theorem mkd_get {ms : List Bool} {i : Nat} (h : i < ms.length) : mkd ms i ↔ ms[i] = true := by
  unfold mkd; rw [List.getD_eq_getElem?_getD, List.getElem?_eq_getElem h]; rfl
theorem mkd_lt {ms : List Bool} {i : Nat} (h : mkd ms i) : i < ms.length := by
  rcases Nat.lt_or_ge i ms.length with h' | h'
  · exact h'
  · unfold mkd at h; rw [List.getD_eq_getElem?_getD, List.getElem?_eq_none h'] at h; cases h
theorem mkd_set {ms : List Bool} {i j : Nat} (hi : i < ms.length) : mkd (ms.set i true) j ↔ mkd ms j ∨ j = i := by
  unfold mkd
  rw [List.getD_eq_getElem?_getD, List.getD_eq_getElem?_getD, List.getElem?_set]
  by_cases h : i = j
  · subst h; simp [hi]
  · have : ¬ j = i := fun e => h e.symm
    simp [h, this]
theorem mkd_replicate {n i : Nat} : ¬ mkd (List.replicate n false) i := by
  unfold mkd
  rw [List.getD_eq_getElem?_getD, List.getElem?_replicate]
  split <;> simp
theorem marks_ext {ms ns : List Bool} (hl : ms.length = ns.length) (h : ∀ i, i < ms.length → (mkd ms i ↔ mkd ns i)) : ms = ns := by
  refine List.ext_getElem hl fun i h1 h2 => ?_
  have := h i h1
  rw [mkd_get h1, mkd_get h2] at this
  cases e1 : ms[i] <;> cases e2 : ns[i] <;> simp_all
def cntM (ms : List Bool) : Nat := ms.count true
theorem cntM_le (ms : List Bool) : cntM ms ≤ ms.length := List.count_le_length
theorem cntM_set : ∀ {ms : List Bool} {i : Nat}, i < ms.length → ¬ mkd ms i → cntM (ms.set i true) = cntM ms + 1
  | b :: ms, 0, _, h => by
    have : b = false := by cases b <;> simp_all [mkd]
    subst this
    simp [cntM]
  | b :: ms, i + 1, hi, h => by
    have ih := cntM_set (ms := ms) (i := i) (by simpa using hi) (by simpa [mkd] using h)
    simp only [cntM, List.set_cons_succ, List.count_cons] at ih ⊢
    omega
/-- met by one step or more -/
inductive RP (nx : Nat → List Nat) (a : Nat) : Nat → Prop
  | one {b : Nat} (h : b ∈ nx a) : RP nx a b
  | more {b d : Nat} (h : RP nx a b) (k : d ∈ nx b) : RP nx a d
theorem RP.trans {nx : Nat → List Nat} {a b d : Nat} (h : RP nx a b) (k : RP nx b d) : RP nx a d := by
  induction k with
  | one h1 => exact .more h h1
  | more _ h2 ih => exact .more ih h2
theorem RP.keeps {nx : Nat → List Nat} {p : Nat → Prop} {a b : Nat} (h : RP nx a b) (ha : p a) (hp : ∀ i j, p i → j ∈ nx i → p j) : p b := by
  induction h with
  | one h => exact hp _ _ ha h
  | more _ h ih => exact hp _ _ ih h
structure SInv (nx : Nat → List Nat) (n a : Nat) (M0 ms : List Bool) (td : List Nat) (k : Nat) : Prop where
  len : ms.length = n
  sub : ∀ i, mkd M0 i → mkd ms i
  src : ∀ i, mkd ms i → mkd M0 i ∨ RP nx a i
  tdo : ∀ i ∈ td, (i = a ∨ RP nx a i) ∧ i < n
  clo : ∀ i, (i = a ∨ (mkd ms i ∧ ¬ mkd M0 i)) → i ∈ td ∨ ∀ j ∈ nx i, mkd ms j
  cnt : td.length + k + cntM M0 = 1 + cntM ms
/-- inside a round: q of x's steps are done -/
structure SIn2 (nx : Nat → List Nat) (n a : Nat) (M0 ms : List Bool) (td : List Nat) (k x q : Nat) : Prop where
  len : ms.length = n
  sub : ∀ i, mkd M0 i → mkd ms i
  src : ∀ i, mkd ms i → mkd M0 i ∨ RP nx a i
  tdo : ∀ i ∈ td, (i = a ∨ RP nx a i) ∧ i < n
  clo : ∀ i, (i = a ∨ (mkd ms i ∧ ¬ mkd M0 i)) → i ∈ td ∨ (i = x ∧ ∀ j ∈ (nx x).take q, mkd ms j) ∨ ∀ j ∈ nx i, mkd ms j
  cnt : td.length + k + 1 + cntM M0 = 1 + cntM ms
  met : x = a ∨ RP nx a x
section
variable {nx : Nat → List Nat} {n a k x q : Nat} {M0 ms : List Bool} {td td' : List Nat}
theorem SInv.start (hl : M0.length = n) (ha : a < n) : SInv nx n a M0 M0 [a] 0 :=
  ⟨hl, fun _ h => h, fun _ h => .inl h, fun i hi => by simp only [List.mem_cons, List.not_mem_nil, or_false] at hi; exact ⟨.inl hi, hi ▸ ha⟩, fun i hi => by
    rcases hi with rfl | ⟨h1, h2⟩
    · exact .inl (by simp)
    · exact absurd h1 h2, by simp⟩
theorem SInv.bound (h : SInv nx n a M0 ms td k) : td.length + k ≤ 1 + n := by
  have h1 := h.cnt
  have h2 := cntM_le ms
  rw [h.len] at h2
  omega
theorem SInv.pop (h : SInv nx n a M0 ms td k) (hm : ∀ i, i ∈ td ↔ i ∈ td' ∨ i = x) (hl : td.length = td'.length + 1) : SIn2 nx n a M0 ms td' k x 0 :=
  ⟨h.len, h.sub, h.src, fun i hi => h.tdo i ((hm i).2 (.inl hi)), fun i hi => by
    rcases h.clo i hi with h1 | h1
    · rcases (hm i).1 h1 with h1 | rfl
      · exact .inl h1
      · exact .inr (.inl ⟨rfl, by simp⟩)
    · exact .inr (.inr h1), by have := h.cnt; omega, (h.tdo x ((hm x).2 (.inr rfl))).1⟩
theorem SIn2.skip (h : SIn2 nx n a M0 ms td k x q) (hq : q < (nx x).length) (hmk : mkd ms (nx x)[q]) : SIn2 nx n a M0 ms td k x (q + 1) :=
  ⟨h.len, h.sub, h.src, h.tdo, fun i hi => by
    rcases h.clo i hi with h1 | ⟨rfl, h1⟩ | h1
    · exact .inl h1
    · refine .inr (.inl ⟨rfl, fun j hj => ?_⟩)
      rw [List.take_succ_eq_append_getElem hq] at hj
      rcases List.mem_append.1 hj with hj | hj
      · exact h1 j hj
      · simp only [List.mem_cons, List.not_mem_nil, or_false] at hj
        rw [hj]; exact hmk
    · exact .inr (.inr h1), h.cnt, h.met⟩
theorem SIn2.push (h : SIn2 nx n a M0 ms td k x q) (hq : q < (nx x).length) (hn : (nx x)[q] < n) (hmk : ¬ mkd ms (nx x)[q]) : SIn2 nx n a M0 (ms.set (nx x)[q] true) (td ++ [(nx x)[q]]) k x (q + 1) := by
  have hs := fun j => mkd_set (ms := ms) (i := (nx x)[q]) (j := j) (by rw [h.len]; exact hn)
  have hr : RP nx a (nx x)[q] := by
    rcases h.met with e | e
    · exact .one (e ▸ List.getElem_mem hq)
    · exact .more e (List.getElem_mem hq)
  refine ⟨by simp [h.len], fun i hi => (hs i).2 (.inl (h.sub i hi)), fun i hi => ?_, fun i hi => ?_, fun i hi => ?_, ?_, h.met⟩
  · rcases (hs i).1 hi with h1 | h1
    · exact h.src i h1
    · exact .inr (h1 ▸ hr)
  · rcases List.mem_append.1 hi with h1 | h1
    · exact h.tdo i h1
    · simp only [List.mem_cons, List.not_mem_nil, or_false] at h1
      exact ⟨.inr (h1 ▸ hr), h1 ▸ hn⟩
  · have hi' : i = (nx x)[q] ∨ (i = a ∨ (mkd ms i ∧ ¬ mkd M0 i)) := by
      rcases hi with h1 | ⟨h1, h2⟩
      · exact .inr (.inl h1)
      · rcases (hs i).1 h1 with h1 | h1
        · exact .inr (.inr ⟨h1, h2⟩)
        · exact .inl h1
    rcases hi' with h1 | h1
    · exact .inl (List.mem_append_right _ (by simp [h1]))
    · rcases h.clo i h1 with h1 | ⟨rfl, h1⟩ | h1
      · exact .inl (List.mem_append_left _ h1)
      · refine .inr (.inl ⟨rfl, fun j hj => ?_⟩)
        rw [List.take_succ_eq_append_getElem hq] at hj
        rcases List.mem_append.1 hj with hj | hj
        · exact (hs j).2 (.inl (h1 j hj))
        · simp only [List.mem_cons, List.not_mem_nil, or_false] at hj
          exact (hs j).2 (.inr hj)
      · exact .inr (.inr fun j hj => (hs j).2 (.inl (h1 j hj)))
  · have := h.cnt
    rw [cntM_set (by rw [h.len]; exact hn) hmk, List.length_append]
    simp only [List.length_cons, List.length_nil]
    omega
theorem SIn2.done (h : SIn2 nx n a M0 ms td k x q) (hq : (nx x).length ≤ q) : SInv nx n a M0 ms td (k + 1) :=
  ⟨h.len, h.sub, h.src, h.tdo, fun i hi => by
    rcases h.clo i hi with h1 | ⟨rfl, h1⟩ | h1
    · exact .inl h1
    · rw [List.take_of_length_le hq] at h1; exact .inr h1
    · exact .inr h1, by have := h.cnt; omega⟩
theorem SInv.fin (h : SInv nx n a M0 ms [] k) (hc : ∀ i, mkd M0 i → i ≠ a → ∀ j ∈ nx i, mkd M0 j) (i : Nat) : mkd ms i ↔ mkd M0 i ∨ RP nx a i := by
  refine ⟨h.src i, fun hi => ?_⟩
  rcases hi with hi | hi
  · exact h.sub i hi
  have hcl : ∀ b, (b = a ∨ mkd ms b) → ∀ j ∈ nx b, mkd ms j := fun b hb => by
    by_cases hba : b = a
    · rcases h.clo b (.inl hba) with h1 | h1
      · cases h1
      · exact h1
    · have hb := hb.resolve_left hba
      by_cases hm : mkd M0 b
      · exact fun j hj => h.sub j (hc b hm hba j hj)
      · rcases h.clo b (.inr ⟨hb, hm⟩) with h1 | h1
        · cases h1
        · exact h1
  induction hi with
  | one h1 => exact hcl a (.inl rfl) _ h1
  | more _ h2 ih => exact hcl _ (.inr ih) _ h2
end
/-- the marks of those below n that p holds of -/
noncomputable def setB (n : Nat) (p : Nat → Prop) : List Bool := (List.range n).map fun i => @decide (p i) (Classical.propDecidable _)
/-- those below n that p holds of -/
noncomputable def setL (n : Nat) (p : Nat → Prop) : List Nat := (List.range n).filter fun i => @decide (p i) (Classical.propDecidable _)
/-- the same by bits -/
noncomputable def setN (p : Nat → Prop) : Nat → Nat
  | 0 => 0
  | n + 1 => setN p n ||| (if @decide (p n) (Classical.propDecidable _) then 2 ^ n else 0)
section
variable {n : Nat} {p q : Nat → Prop}
theorem setB_len : (setB n p).length = n := by simp [setB]
theorem mkd_setB {i : Nat} : mkd (setB n p) i ↔ i < n ∧ p i := by
  constructor
  · intro h
    have hl := mkd_lt h
    rw [mkd_get hl] at h
    rw [setB_len] at hl
    refine ⟨hl, ?_⟩
    simpa [setB] using h
  · rintro ⟨h1, h2⟩
    rw [mkd_get (by rw [setB_len]; exact h1)]
    simpa [setB] using h2
theorem marks_setB {ms : List Bool} (hl : ms.length = n) (h : ∀ i, i < n → (mkd ms i ↔ p i)) : ms = setB n p :=
  marks_ext (by rw [hl, setB_len]) fun i hi => by
    rw [mkd_setB, h i (hl ▸ hi)]
    exact ⟨fun h => ⟨hl ▸ hi, h⟩, fun h => h.2⟩
theorem setB_congr (h : ∀ i, i < n → (p i ↔ q i)) : setB n p = setB n q := marks_setB setB_len fun i hi => by rw [mkd_setB, ← h i hi]; exact ⟨fun h => h.2, fun h => ⟨hi, h⟩⟩
theorem mem_setL {i : Nat} : i ∈ setL n p ↔ i < n ∧ p i := by simp [setL]
theorem setL_succ : setL (n + 1) p = setL n p ++ (if @decide (p n) (Classical.propDecidable _) then [n] else []) := by
  simp only [setL, List.range_succ, List.filter_append, List.filter_cons, List.filter_nil]
theorem setL_yes (h : p n) : setL (n + 1) p = setL n p ++ [n] := by rw [setL_succ]; simp [h]
theorem setL_no (h : ¬ p n) : setL (n + 1) p = setL n p := by rw [setL_succ]; simp [h]
theorem setL_len : (setL n p).length ≤ n := Nat.le_trans (List.length_filter_le _ _) (by simp)
theorem setN_bit {i : Nat} : (setN p n).testBit i = true ↔ i < n ∧ p i := by
  induction n with
  | zero => simp [setN]
  | succ n ih =>
    rw [setN, Nat.testBit_or, Bool.or_eq_true, ih]
    by_cases hp : p n
    · simp only [hp, decide_true, if_true, Nat.testBit_two_pow, decide_eq_true_eq]
      constructor
      · rintro (⟨h1, h2⟩ | rfl)
        · exact ⟨by omega, h2⟩
        · exact ⟨by omega, hp⟩
      · rintro ⟨h1, h2⟩
        rcases Nat.lt_or_eq_of_le (Nat.lt_succ_iff.1 h1) with h | h
        · exact .inl ⟨h, h2⟩
        · exact .inr h.symm
    · simp only [hp, decide_false, Bool.false_eq_true, if_false, Nat.zero_testBit, or_false]
      constructor
      · rintro ⟨h1, h2⟩; exact ⟨by omega, h2⟩
      · rintro ⟨h1, h2⟩
        rcases Nat.lt_or_eq_of_le (Nat.lt_succ_iff.1 h1) with h | h
        · exact ⟨h, h2⟩
        · exact absurd (h ▸ h2) hp
theorem setN_lt : setN p n < 2 ^ n := by
  refine Nat.lt_pow_two_of_testBit _ fun i hi => ?_
  cases h : (setN p n).testBit i
  · rfl
  · have := (setN_bit.1 h).1; omega
theorem eq_setN {m : Nat} (h : ∀ i, m.testBit i = true ↔ i < n ∧ p i) : m = setN p n :=
  Nat.eq_of_testBit_eq fun i => by
    have h1 := h i
    rw [← setN_bit] at h1
    cases e1 : m.testBit i <;> cases e2 : (setN p n).testBit i <;> simp_all
theorem setN_congr (h : ∀ i, i < n → (p i ↔ q i)) : setN p n = setN q n := eq_setN fun i => by
  rw [setN_bit]
  exact ⟨fun ⟨h1, h2⟩ => ⟨h1, (h i h1).1 h2⟩, fun ⟨h1, h2⟩ => ⟨h1, (h i h1).2 h2⟩⟩
end
end Go.Sh
namespace Go.Proofs.YtjgfldfbljmhhaaGreat
open Go Go.Sh Go.Proofs
set_option linter.unusedVariables false
/-- (*impl.world).nextIn -/
def F135 (a0 a1 : Value) (w : World) (R : Value → World → Prop) : Prop :=
  NIL a0 <|
  RD Tryz.prog (Instr.fieldAt 144 a0 0) w fun x8 =>
  RD Tryz.prog (Instr.fieldAt 35 x8 4) w fun x9 =>
  RD Tryz.prog (Instr.loadAt 33 x9) w fun x10 =>
  RD Tryz.prog (Instr.indexAt 33 x10 a1) w fun x12 =>
  RD Tryz.prog (Instr.loadAt 136 x12) w fun x13 =>
  OP Tryz.prog (Instr.alloc 136 true (.tuple #[])) w fun x5 w =>
  OPU Tryz.prog (Instr.storeAt 136 x5 x13) w fun w =>
  RD Tryz.prog (Instr.fieldAt 136 x5 0) w fun x14 =>
  RD Tryz.prog (Instr.loadAt 3 x14) w fun x15 =>
  RD Tryz.prog (bin .eql 3 (.tmp 0) (.const undef) x15 (Value.int .i64 9)) w fun x17 =>
  BR x17
   (R (Value.slice none 0 0) w)
   (RD Tryz.prog (bin .eql 3 (.tmp 0) (.const undef) x15 (Value.int .i64 3)) w fun x19 =>
   BR x19
    (RD Tryz.prog (Instr.fieldAt 136 x5 3) w fun x20 =>
    RD Tryz.prog (Instr.loadAt 3 x20) w fun x21 =>
    OP Tryz.prog (Instr.buildSlice 23 1 #[(0, x21)]) w fun x22 w =>
    R x22 w)
    (RD Tryz.prog (bin .eql 3 (.tmp 0) (.const undef) x15 (Value.int .i64 2)) w fun x24 =>
    BR x24
     (RD Tryz.prog (Instr.fieldAt 136 x5 3) w fun x25 =>
     RD Tryz.prog (Instr.loadAt 3 x25) w fun x26 =>
     RD Tryz.prog (bin .add 3 (.tmp 0) (.const undef) a1 (Value.int .i64 1)) w fun x28 =>
     RD Tryz.prog (bin .neq 3 (.tmp 0) (.tmp 0) x26 x28) w fun x29 =>
     BR x29
      (RD Tryz.prog (bin .add 3 (.tmp 0) (.const undef) a1 (Value.int .i64 1)) w fun x31 =>
      RD Tryz.prog (Instr.fieldAt 136 x5 3) w fun x32 =>
      RD Tryz.prog (Instr.loadAt 3 x32) w fun x33 =>
      OP Tryz.prog (Instr.buildSlice 23 2 #[(0, x31), (1, x33)]) w fun x34 w =>
      R x34 w)
      (RD Tryz.prog (bin .add 3 (.tmp 0) (.const undef) a1 (Value.int .i64 1)) w fun x36 =>
      OP Tryz.prog (Instr.buildSlice 23 1 #[(0, x36)]) w fun x37 w =>
      R x37 w))
     (RD Tryz.prog (bin .add 3 (.tmp 0) (.const undef) a1 (Value.int .i64 1)) w fun x36 =>
     OP Tryz.prog (Instr.buildSlice 23 1 #[(0, x36)]) w fun x37 w =>
     R x37 w)))
def cfg135 : Cfg := { ext := extL, joins := [], loops := [], draws := [], pars := [] }
theorem F135_eq (a0 a1 : Value) (w : World) (R : Value → World → Prop) : vcF Tryz.prog cfg135 Tryz.f135 [a0, a1] w R = F135 a0 a1 w R := by kernel_rfl
theorem F135_call {a0 a1 : Value} {w : World} {R : Value → World → Prop} (h : F135 a0 a1 w R) : CALL Tryz.prog 135 [a0, a1] w R :=
  call_of (g := cfg135) ent mixed Tryz.func135 (Nat.le_of_ble_eq_true (by kernel_rfl)) (by kernel_rfl) (F135_eq a0 a1 w R ▸ h)
/-- spec.l09Next -/
def F121 (a0 a1 : Value) (w : World) (R : Value → World → Prop) : Prop :=
  OP Tryz.prog (Instr.box 35 a0) w fun x2 w =>
  RD Tryz.prog (Instr.fieldAt 35 x2 4) w fun x6 =>
  RD Tryz.prog (Instr.loadAt 33 x6) w fun x7 =>
  RD Tryz.prog (Instr.indexAt 33 x7 a1) w fun x9 =>
  RD Tryz.prog (Instr.loadAt 136 x9) w fun x10 =>
  OP Tryz.prog (Instr.alloc 136 true (.tuple #[])) w fun x5 w =>
  OPU Tryz.prog (Instr.storeAt 136 x5 x10) w fun w =>
  RD Tryz.prog (Instr.fieldAt 136 x5 0) w fun x11 =>
  RD Tryz.prog (Instr.loadAt 3 x11) w fun x12 =>
  RD Tryz.prog (bin .eql 3 (.tmp 0) (.const undef) x12 (Value.int .i64 2)) w fun x14 =>
  BR x14
   (RD Tryz.prog (Instr.fieldAt 136 x5 3) w fun x15 =>
   RD Tryz.prog (Instr.loadAt 3 x15) w fun x16 =>
   RD Tryz.prog (bin .add 3 (.tmp 0) (.const undef) a1 (Value.int .i64 1)) w fun x18 =>
   RD Tryz.prog (bin .eql 3 (.tmp 0) (.tmp 0) x16 x18) w fun x19 =>
   BR x19
    (RD Tryz.prog (bin .add 3 (.tmp 0) (.const undef) a1 (Value.int .i64 1)) w fun x21 =>
    OP Tryz.prog (Instr.buildSlice 23 1 #[(0, x21)]) w fun x22 w =>
    R x22 w)
    (RD Tryz.prog (bin .add 3 (.tmp 0) (.const undef) a1 (Value.int .i64 1)) w fun x24 =>
    RD Tryz.prog (Instr.fieldAt 136 x5 3) w fun x25 =>
    RD Tryz.prog (Instr.loadAt 3 x25) w fun x26 =>
    OP Tryz.prog (Instr.buildSlice 23 2 #[(0, x24), (1, x26)]) w fun x27 w =>
    R x27 w))
   (RD Tryz.prog (bin .eql 3 (.tmp 0) (.const undef) x12 (Value.int .i64 3)) w fun x29 =>
   BR x29
    (RD Tryz.prog (Instr.fieldAt 136 x5 3) w fun x30 =>
    RD Tryz.prog (Instr.loadAt 3 x30) w fun x31 =>
    OP Tryz.prog (Instr.buildSlice 23 1 #[(0, x31)]) w fun x32 w =>
    R x32 w)
    (RD Tryz.prog (bin .eql 3 (.tmp 0) (.const undef) x12 (Value.int .i64 9)) w fun x34 =>
    BR x34
     (OP Tryz.prog (Instr.buildSlice 23 0 #[]) w fun x35 w =>
     R x35 w)
     (RD Tryz.prog (bin .add 3 (.tmp 0) (.const undef) a1 (Value.int .i64 1)) w fun x37 =>
     OP Tryz.prog (Instr.buildSlice 23 1 #[(0, x37)]) w fun x38 w =>
     R x38 w)))
def cfg121 : Cfg := { ext := extL, joins := [], loops := [], draws := [], pars := [] }
theorem F121_eq (a0 a1 : Value) (w : World) (R : Value → World → Prop) : vcF Tryz.prog cfg121 Tryz.f121 [a0, a1] w R = F121 a0 a1 w R := by kernel_rfl
theorem F121_call {a0 a1 : Value} {w : World} {R : Value → World → Prop} (h : F121 a0 a1 w R) : CALL Tryz.prog 121 [a0, a1] w R :=
  call_of (g := cfg121) ent mixed Tryz.func121 (Nat.le_of_ble_eq_true (by kernel_rfl)) (by kernel_rfl) (F121_eq a0 a1 w R ▸ h)
set_option linter.unusedVariables false
set_option linter.unusedSimpArgs false
/-- the places behind a place -/
def nextN (c : DCode) (i : Nat) : List Nat :=
  if (insAt c i).op = 9 then [] else if (insAt c i).op = 3 then [(insAt c i).to.toNat] else if (insAt c i).op = 2 ∧ (insAt c i).to ≠ (i : Int) + 1 then [i + 1, (insAt c i).to.toNat] else [i + 1]
theorem nextN_lt {c : DCode} (hc : CodeR c) {i j : Nat} (hi : i < c.ins.length) (h : j ∈ nextN c i) : j < c.ins.length ∧ procOf c j = procOf c i := by
  have h9 := proc_next hc (a := (i : Int)) (by omega) (by omega)
  have hto := proc_to hc (a := (i : Int)) (by omega) (by omega)
  simp only [Int.toNat_natCast] at h9 hto
  unfold nextN at h
  split at h
  · cases h
  · rename_i ho
    have h1 := h9 ho
    have e1 : ((i + 1 : Nat) : Int) = (i : Int) + 1 := by omega
    split at h
    · rename_i h3
      simp only [List.mem_cons, List.not_mem_nil, or_false] at h
      subst h
      have h2 := hto (.inr h3)
      rw [Int.toNat_of_nonneg h2.1]
      exact ⟨by omega, h2.2.2⟩
    · split at h
      · rename_i h2
        simp only [List.mem_cons, List.not_mem_nil, or_false] at h
        rcases h with rfl | rfl
        · exact ⟨by omega, by rw [e1]; exact h1.2⟩
        · have h2 := hto (.inl h2.1)
          rw [Int.toNat_of_nonneg h2.1]
          exact ⟨by omega, h2.2.2⟩
      · simp only [List.mem_cons, List.not_mem_nil, or_false] at h
        subst h
        exact ⟨by omega, by rw [e1]; exact h1.2⟩
theorem nextN_len (c : DCode) (i : Nat) : (nextN c i).length ≤ 2 := by
  unfold nextN
  split
  · simp
  · split
    · simp
    · split <;> simp
section
variable {P : Program} {w : World} {K : Value → World → Prop}
def vsI (l : List Int) : List Value := l.map fun x => .int .i64 x
theorem cells_vsI {w : World} : ∀ {l : List Int}, (∀ x ∈ l, I64 x) → Cells [] w (vsI l) l
  | [], _ => ⟨rfl, rfl⟩
  | x :: l, h => ⟨[], [], [.int .i64 x], vsI l, rfl, rfl, ⟨rfl, rfl, h x (by simp)⟩, cells_vsI fun y hy => h y (by simp [hy])⟩
theorem own_vsI {l : List Int} {e : Nat} (hl : ∀ x ∈ l, I64 x) (hm : l.length ≤ maxLen) : Own w.heap.size (w.alloc (.cells (vsI l).toArray e)) (.slice (some ⟨w.heap.size, 0, none⟩) l.length l.length) l := by
  have hB : Blk w.heap.size e (w.alloc (.cells (vsI l).toArray e)) (vsI l) := heap_alloc_new w _
  refine ⟨[w.heap.size], ⟨⟨_, ⟨some ⟨w.heap.size, 0, none⟩, l.length, [], vsI l, rfl, Nat.le_refl _, hm, cells_vsI hl, .inr ⟨_, _, rfl, rfl, hB.range, ?_⟩⟩, rfl⟩, by simp, fun i hi => ?_⟩, by simp⟩
  · exact (Array.getElem?_eq_some_iff.1 hB).1
  · simp only [List.mem_cons, List.not_mem_nil, or_false] at hi
    subst hi
    exact ⟨_, _, hB⟩
theorem op_build2I {t e : TypeId} {by_ : Nat} {x y : Int} (ht : P.underlying t = some (.slice e)) (he : tyI P e = some (1, by_, false)) (hz : zeroL P e = some [.int .i64 0]) (hx : I64 x) (hy : I64 y)
    (k : ∀ v w', Ext w w' → Own w.heap.size w' v [x, y] → K v w') : OP P (Instr.buildSlice t 2 #[(0, .int .i64 x), (1, .int .i64 y)]) w K := by
  unfold zeroL at hz
  cases hi : P.info? e with
  | none => simp [hi] at hz
  | some i =>
    simp only [hi] at hz
    obtain ⟨v, hv, hvc⟩ := Option.map_eq_some_iff.1 hz
    refine ⟨_, w.alloc (.cells (vsI [x, y]).toArray e), ?_, k _ _ (ext_alloc w _) (own_vsI (l := [x, y]) (e := e) (by simp [hx, hy]) (by simp [maxLen]))⟩
    have hvc' : v.cells = #[.int .i64 0] := Array.ext' (by simpa using hvc)
    have e1 : ∀ n : Int, (Value.int .i64 n).cells = #[.int .i64 n] := fun _ => rfl
    simp only [Instr.buildSlice, Sem.run_bind, run_underlying ht, Result.andThen_ok, run_sizeOf' he]
    have e2 : Array.range 2 = #[0, 1] := by decide
    simp [zeroValue, typeInfo, hi, hv, newRow, Instr.fill, hvc', vsI, e1, e2]
end
theorem zlIf : zeroL Tryz.prog 3 = some [.int .i64 0] := by kernel_rfl
theorem nextIn_ok {w W0 : World} {b : Nat} {c : DCode} {i : Nat} (hA : At W0 b 0 c) (e0 : Ext W0 w) (hc : CodeR c) (hi : i < c.ins.length) :
    CALL Tryz.prog 135 [.pointer (some ⟨b, 0, none⟩), .int .i64 (i : Int)] w fun r w' => Ext w w' ∧ Own w.heap.size w' r (ints (nextN c i)) := by
  refine F135_call ?_
  unfold F135
  have hil := hc.f.ins
  have hto := proc_to hc (a := (i : Int)) (by omega) (by omega)
  simp only [Int.toNat_natCast] at hto
  refine NIL.mk rfl ?_
  refine rd_fld fd144_0 ?_
  refine rd_fld fd35_4 ?_
  refine rd_load ty33 (at_DCode_4 hA) e0 fun v10 h10 => ?_
  refine rd_indexN u33 ty136 h10 hi fun b12 o12 h12 => ?_
  rw [insAt_get] at h12
  have hnx : nextN c i = if (insAt c i).op = 9 then [] else if (insAt c i).op = 3 then [(insAt c i).to.toNat] else if (insAt c i).op = 2 ∧ (insAt c i).to ≠ (i : Int) + 1 then [i + 1, (insAt c i).to.toNat] else [i + 1] := rfl
  generalize insAt c i = I at *
  refine rd_load ty136 h12 e0 fun v13 h13 => ?_
  refine op_var zl136 rfl ty136 rfl h13 e0 fun w1 hx1 hA5 hV5 => ?_
  refine rd_fld fd136_0 ?_
  refine rd_loadI ty3 (at_DIns_0 hA5) (Ext.refl _) fun _ => ?_
  refine rd_eql ?_
  refine br (fun c9 => ?_) (fun c9 => ?_)
  · rw [hnx, if_pos c9]
    exact ⟨hx1, own_nil rfl⟩
  rw [if_neg c9] at hnx
  refine rd_eql ?_
  refine br (fun c3 => ?_) (fun c3 => ?_)
  · rw [if_pos c3] at hnx
    have ht := hto (.inr c3)
    refine rd_fld fd136_3 ?_
    refine rd_loadI ty3 (at_DIns_3 hA5) (Ext.refl _) fun hI => ?_
    refine op_build1R (x := I.to) u23 ty3 z3 (by decide) (mine_int hI) fun v w2 hx2 hr => ?_
    refine ⟨hx1.trans hx2, ?_⟩
    rw [hnx]
    have e : ints [I.to.toNat] = [I.to] := by simp [ints, Int.toNat_of_nonneg ht.1]
    rw [e]
    have := hx1.size
    exact hr.own.own.mono (by omega)
  rw [if_neg c3] at hnx
  have e1 : ints [i + 1] = [((i + 1 : Nat) : Int)] := by simp [ints]
  refine rd_eql ?_
  refine br (fun c2 => ?_) (fun c2 => ?_)
  · have ht := hto (.inl c2)
    refine rd_fld fd136_3 ?_
    refine rd_loadI ty3 (at_DIns_3 hA5) (Ext.refl _) fun hI => ?_
    refine rd_inc (by omega) ?_
    refine rd_neq ?_
    refine br (fun cn => ?_) (fun cn => ?_)
    · rw [if_pos ⟨c2, by omega⟩] at hnx
      refine rd_inc (by omega) ?_
      refine rd_fld fd136_3 ?_
      refine rd_loadI ty3 (at_DIns_3 hA5) (Ext.refl _) fun _ => ?_
      refine op_build2I u23 ty3 zlIf (by unfold I64; omega) hI fun v w2 hx2 hr => ?_
      refine ⟨hx1.trans hx2, ?_⟩
      have e : ints [i + 1, I.to.toNat] = [((i + 1 : Nat) : Int), I.to] := by simp [ints, Int.toNat_of_nonneg ht.1]
      rw [hnx, e]
      have := hx1.size
      exact hr.mono (by omega)
    · rw [if_neg (fun h => cn (by have := h.2; omega))] at hnx
      refine rd_inc (by omega) ?_
      refine op_build1R (x := ((i + 1 : Nat) : Int)) u23 ty3 z3 (by decide) (mine_int (by unfold I64; omega)) fun v w2 hx2 hr => ?_
      refine ⟨hx1.trans hx2, ?_⟩
      rw [hnx, e1]
      have := hx1.size
      exact hr.own.own.mono (by omega)
  · rw [if_neg (fun h => c2 h.1)] at hnx
    refine rd_inc (by omega) ?_
    refine op_build1R (x := ((i + 1 : Nat) : Int)) u23 ty3 z3 (by decide) (mine_int (by unfold I64; omega)) fun v w2 hx2 hr => ?_
    refine ⟨hx1.trans hx2, ?_⟩
    rw [hnx, e1]
    have := hx1.size
    exact hr.own.own.mono (by omega)
theorem l09Next_ok {w W0 : World} {v0 : Value} {c : DCode} {i : Nat} (h0 : Is W0 v0 c) (e0 : Ext W0 w) (hc : CodeR c) (hi : i < c.ins.length) :
    CALL Tryz.prog 121 [v0, .int .i64 (i : Int)] w fun r w' => Ext w w' ∧ Own w.heap.size w' r (ints (nextN c i)) := by
  refine F121_call ?_
  unfold F121
  have hil := hc.f.ins
  have hto := proc_to hc (a := (i : Int)) (by omega) (by omega)
  simp only [Int.toNat_natCast] at hto
  refine op_box h0 e0 fun w0 hx0 hA => ?_
  refine rd_fld fd35_4 ?_
  refine rd_load ty33 (at_DCode_4 hA) (Ext.refl _) fun v10 h10 => ?_
  refine rd_indexN u33 ty136 h10 hi fun b12 o12 h12 => ?_
  rw [insAt_get] at h12
  have hnx : nextN c i = if (insAt c i).op = 9 then [] else if (insAt c i).op = 3 then [(insAt c i).to.toNat] else if (insAt c i).op = 2 ∧ (insAt c i).to ≠ (i : Int) + 1 then [i + 1, (insAt c i).to.toNat] else [i + 1] := rfl
  generalize insAt c i = I at *
  refine rd_load ty136 h12 (Ext.refl _) fun v13 h13 => ?_
  refine op_var zl136 rfl ty136 rfl h13 (Ext.refl _) fun w1 hx1 hA5 hV5 => ?_
  have hs0 := hx0.size
  have hs1 := hx1.size
  have hx01 := hx0.trans hx1
  have e1 : ints [i + 1] = [((i + 1 : Nat) : Int)] := by simp [ints]
  refine rd_fld fd136_0 ?_
  refine rd_loadI ty3 (at_DIns_0 hA5) (Ext.refl _) fun _ => ?_
  refine rd_eql ?_
  refine br (fun c2 => ?_) (fun c2 => ?_)
  · have ht := hto (.inl c2)
    rw [if_neg (by omega), if_neg (by omega)] at hnx
    refine rd_fld fd136_3 ?_
    refine rd_loadI ty3 (at_DIns_3 hA5) (Ext.refl _) fun hI => ?_
    refine rd_inc (by omega) ?_
    refine rd_eql ?_
    refine br (fun cn => ?_) (fun cn => ?_)
    · rw [if_neg (fun h => h.2 (by omega))] at hnx
      refine rd_inc (by omega) ?_
      refine op_build1R (x := ((i + 1 : Nat) : Int)) u23 ty3 z3 (by decide) (mine_int (by unfold I64; omega)) fun v w2 hx2 hr => ?_
      refine ⟨hx01.trans hx2, ?_⟩
      rw [hnx, e1]
      exact hr.own.own.mono (by omega)
    · rw [if_pos ⟨c2, by omega⟩] at hnx
      refine rd_inc (by omega) ?_
      refine rd_fld fd136_3 ?_
      refine rd_loadI ty3 (at_DIns_3 hA5) (Ext.refl _) fun _ => ?_
      refine op_build2I u23 ty3 zlIf (by unfold I64; omega) hI fun v w2 hx2 hr => ?_
      refine ⟨hx01.trans hx2, ?_⟩
      have e : ints [i + 1, I.to.toNat] = [((i + 1 : Nat) : Int), I.to] := by simp [ints, Int.toNat_of_nonneg ht.1]
      rw [hnx, e]
      exact hr.mono (by omega)
  refine rd_eql ?_
  refine br (fun c3 => ?_) (fun c3 => ?_)
  · rw [if_neg (by omega), if_pos c3] at hnx
    have ht := hto (.inr c3)
    refine rd_fld fd136_3 ?_
    refine rd_loadI ty3 (at_DIns_3 hA5) (Ext.refl _) fun hI => ?_
    refine op_build1R (x := I.to) u23 ty3 z3 (by decide) (mine_int hI) fun v w2 hx2 hr => ?_
    refine ⟨hx01.trans hx2, ?_⟩
    rw [hnx]
    have e : ints [I.to.toNat] = [I.to] := by simp [ints, Int.toNat_of_nonneg ht.1]
    rw [e]
    exact hr.own.own.mono (by omega)
  refine rd_eql ?_
  refine br (fun c9 => ?_) (fun c9 => ?_)
  · rw [if_pos c9] at hnx
    rw [hnx]
    refine op_build0I (α := Int) u23 ty3 fun a w2 hx2 hr => ?_
    have hs2 := hx2.size
    exact ⟨hx01.trans hx2, hr.own.own.mono (by omega)⟩
  · rw [if_neg c9, if_neg c3, if_neg (fun h => c2 h.1)] at hnx
    refine rd_inc (by omega) ?_
    refine op_build1R (x := ((i + 1 : Nat) : Int)) u23 ty3 z3 (by decide) (mine_int (by unfold I64; omega)) fun v w2 hx2 hr => ?_
    refine ⟨hx01.trans hx2, ?_⟩
    rw [hnx, e1]
    exact hr.own.own.mono (by omega)
end Go.Proofs.YtjgfldfbljmhhaaGreat
namespace Go.Sh
set_option linter.unusedVariables false
set_option linter.unusedSimpArgs false
set_option linter.unusedSectionVars false
open Rep (rep)
section
variable {P : Program} {w w0 w' : World} {α : Type} [Rep α] {lo hi e : Nat} {v : Value} {l : List α}
theorem RowG.flat [Flat α] {F : List Nat} (h : RowG F e w v l) : F = [] ∨ ∃ b, F = [b] := by
  rcases h with ⟨_, _, _, rfl⟩ | ⟨xs, Fi, _, hc, rfl, _⟩
  · exact .inl rfl
  · have := Cells.flat (xs := xs) hc
    subst this
    rcases hv : v.ownBlock with _ | b
    · exact .inl (by simp)
    · exact .inr ⟨b, by simp⟩
theorem Chg.ofI {F : List Nat} (h : Chg F w w') (hF : ∀ b ∈ F, lo ≤ b ∧ b < hi) : ChgI lo hi w w' :=
  ⟨h.os, h.tape, h.output, h.size, fun b hb hx => h.block b hb fun hm => by have := hF b hm; omega⟩
theorem ChgI.ext_left {w1 : World} (hx : Ext w w1) (h : ChgI lo hi w1 w') : ChgI lo hi w w' :=
  ⟨h.os.trans hx.os, h.tape.trans hx.tape, h.output.trans hx.output, Nat.le_trans hx.size h.size, fun b hb ho => by rw [h.block b (Nat.lt_of_lt_of_le hb hx.size) ho, hx.block b hb]⟩
theorem op_pushD1 [Flat α] {t ty : TypeId} {by_ : Nat} {u : Value} {x : α} {lo2 hi2 : Nat} {K : Value → World → Prop} (ht : P.underlying t = some (.slice e)) (he : tyI P e = some (Rep.size α, by_, Rep.agg α)) (hz : zeroOf P e = true)
    (hzc : (P.info? e).map (fun i => (i.zero.map (·.cells.size))) = some (some (Rep.size α))) (hsz : Rep.size α ≤ 1000) (hv : RowI lo hi e w v l) (hx : OwnI lo2 hi2 w u x) (hm : l.length + 1 ≤ maxLen) (hb : (l.length + 1) * by_ ≤ 140737488355328)
    (k : ∀ v' w' lo' hi', ChgI lo hi w w' → RowI lo' hi' e w' v' (l ++ [x]) → (lo' = lo ∧ hi' = hi ∨ lo' = w.heap.size ∧ hi' = w'.heap.size) → K v' w') : OP P (Instr.buildSlice t 1 #[(0, u)]) w fun s w1 => OP P (Builtin.append_ #[t, t] ty [v, s].toArray) w1 K := by
  obtain ⟨F, h1, h2, h3⟩ := rowI_iff.1 hv
  obtain ⟨G, hmx, hG⟩ := hx
  have hGn : G = [] := by obtain ⟨cs, hr, _⟩ := hmx.own; exact Flat.flat hr
  subst hGn
  refine op_pushB (K := fun _ => K) ht he hz hzc hsz h1 h2 hmx (by simp) hm hb (fun w1 v' w' G' hx1 hc hR hN hs => ?_) fun _ _ _ h => h
  have hcI := ChgI.ext_left hx1 (hc.ofI h3)
  have hlt := hR.lt
  rcases hR.flat with rfl | ⟨b, rfl⟩
  · exact k v' w' lo hi hcI (rowI_iff.2 ⟨[], hR, hN, by simp⟩) (.inl ⟨rfl, rfl⟩)
  · rcases hs b (by simp) with h | h | h
    · exact k v' w' lo hi hcI (rowI_iff.2 ⟨[b], hR, hN, fun c hc => by simp at hc; subst hc; exact h3 _ h⟩) (.inl ⟨rfl, rfl⟩)
    · cases h
    · exact k v' w' w.heap.size w'.heap.size hcI (rowI_iff.2 ⟨[b], hR, hN, fun c hc => by simp at hc; subst hc; exact ⟨h, hlt _ (by simp)⟩⟩) (.inr ⟨rfl, rfl⟩)
end
end Go.Sh
namespace Go.Proofs.YtjgfldfbljmhhaaGreat
open Go Go.Sh Go.Proofs
set_option linter.unusedVariables false
/-- spec.l09Reach -/
def F235 (a0 a1 : Value) (w : World) (R : Value → World → Prop) : Prop :=
  OP Tryz.prog (Instr.box 35 a0) w fun x2 w =>
  RD Tryz.prog (Instr.fieldAt 35 x2 4) w fun x10 =>
  RD Tryz.prog (Instr.loadAt 33 x10) w fun x11 =>
  RD Tryz.prog (Builtin.len_ #[33] 3 [x11].toArray) w fun x12 =>
  OP Tryz.prog (Instr.makeSlice 72 x12 x12) w fun x13 w =>
  OP Tryz.prog (Instr.buildSlice 23 1 #[(0, a1)]) w fun x15 w =>
  LOOPI [6, 7] [x15, (Value.int .i64 0)] w fun u4 w next4 =>
   RD Tryz.prog (Builtin.len_ #[23] 3 [(u4 6)].toArray) w fun x18 =>
   RD Tryz.prog (bin .lss 3 (.tmp 0) (.tmp 0) (u4 7) x18) w fun x19 =>
   BR x19
    ((fun w => RD Tryz.prog (Instr.loadAt 35 x2) w fun x22 =>
    RD Tryz.prog (Instr.indexAt 23 (u4 6) (u4 7)) w fun x25 =>
    RD Tryz.prog (Instr.loadAt 3 x25) w fun x26 =>
    CALL Tryz.prog 121 [x22, x26] w fun x27 w =>
    LOOPI [6, 9] [(u4 6), (Value.int .i64 0)] w fun u8 w next8 =>
     RD Tryz.prog (Builtin.len_ #[23] 3 [x27].toArray) w fun x30 =>
     RD Tryz.prog (bin .lss 3 (.tmp 0) (.tmp 0) (u8 9) x30) w fun x31 =>
     BR x31
      (RD Tryz.prog (Instr.indexAt 23 x27 (u8 9)) w fun x37 =>
      RD Tryz.prog (Instr.loadAt 3 x37) w fun x38 =>
      RD Tryz.prog (Instr.indexAt 72 x13 x38) w fun x39 =>
      RD Tryz.prog (Instr.loadAt 4 x39) w fun x40 =>
      RD Tryz.prog (Op.unary .not x40) w fun x41 =>
      BR x41
       (RD Tryz.prog (Instr.indexAt 23 x27 (u8 9)) w fun x45 =>
       RD Tryz.prog (Instr.loadAt 3 x45) w fun x46 =>
       RD Tryz.prog (Instr.indexAt 72 x13 x46) w fun x47 =>
       OPU Tryz.prog (Instr.storeAt 4 x47 (Value.bool true)) w fun w =>
       RD Tryz.prog (Instr.indexAt 23 x27 (u8 9)) w fun x51 =>
       RD Tryz.prog (Instr.loadAt 3 x51) w fun x52 =>
       OP Tryz.prog (Instr.buildSlice 23 1 #[(0, x52)]) w fun x53 w =>
       OP Tryz.prog (Builtin.append_ #[23, 23] 23 [(u8 6), x53].toArray) w fun x54 w =>
       RD Tryz.prog (bin .add 3 (.tmp 0) (.const undef) (u8 9) (Value.int .i64 1)) w fun x33 =>
       next8 [x54, x33] w)
       (RD Tryz.prog (bin .add 3 (.tmp 0) (.const undef) (u8 9) (Value.int .i64 1)) w fun x33 =>
       next8 [(u8 6), x33] w))
      (RD Tryz.prog (bin .add 3 (.tmp 0) (.const undef) (u4 7) (Value.int .i64 1)) w fun x21 =>
      next4 [(u8 6), x21] w)) (World.drew1 w))
    (R x13 w)
def cfg235 : Cfg := { ext := extL, joins := [], loops := [(4, 36028797018899392, [6, 7]), (8, 36028796750529088, [6, 9])], draws := [(6, [0, 1, 2, 3, 4, 5, 6], 0)], pars := [] }
theorem F235_eq (a0 a1 : Value) (w : World) (R : Value → World → Prop) : vcF Tryz.prog cfg235 Tryz.f235 [a0, a1] w R = F235 a0 a1 w R := by kernel_rfl
theorem F235_call {a0 a1 : Value} {w : World} {R : Value → World → Prop} (h : F235 a0 a1 w R) : CALL Tryz.prog 235 [a0, a1] w R :=
  call_of (g := cfg235) ent mixed Tryz.func235 (Nat.le_of_ble_eq_true (by kernel_rfl)) (by kernel_rfl) (F235_eq a0 a1 w R ▸ h)
/-- (*impl.world).spread -/
def F126 (a0 a1 a2 : Value) (w : World) (R : Value → World → Prop) : Prop :=
  OP Tryz.prog (Instr.buildSlice 23 1 #[(0, a2)]) w fun x11 w =>
  LOOPI [6] [x11] w fun u1 w next1 =>
   RD Tryz.prog (Builtin.len_ #[23] 3 [(u1 6)].toArray) w fun x13 =>
   RD Tryz.prog (bin .gtr 3 (.tmp 0) (.const undef) x13 (Value.int .i64 0)) w fun x14 =>
   BR x14
    (RD Tryz.prog (Builtin.len_ #[23] 3 [(u1 6)].toArray) w fun x17 =>
    RD Tryz.prog (bin .sub 3 (.tmp 0) (.const undef) x17 (Value.int .i64 1)) w fun x18 =>
    RD Tryz.prog (Instr.indexAt 23 (u1 6) x18) w fun x19 =>
    RD Tryz.prog (Instr.loadAt 3 x19) w fun x20 =>
    RD Tryz.prog (Builtin.len_ #[23] 3 [(u1 6)].toArray) w fun x23 =>
    RD Tryz.prog (bin .sub 3 (.tmp 0) (.const undef) x23 (Value.int .i64 1)) w fun x24 =>
    RD Tryz.prog (Instr.sliceAt 23 (u1 6) none (some x24) none) w fun x25 =>
    CALL Tryz.prog 135 [a0, x20] w fun x28 w =>
    RD Tryz.prog (Builtin.len_ #[23] 3 [x28].toArray) w fun x29 =>
    LOOPI [6, 30] [x25, (Value.int .i64 0)] w fun u5 w next5 =>
     RD Tryz.prog (bin .lss 3 (.tmp 0) (.tmp 0) (u5 30) x29) w fun x31 =>
     BR x31
      (RD Tryz.prog (Instr.indexAt 23 x28 (u5 30)) w fun x32 =>
      RD Tryz.prog (Instr.loadAt 3 x32) w fun x33 =>
      RD Tryz.prog (Instr.indexAt 72 a1 x33) w fun x36 =>
      RD Tryz.prog (Instr.loadAt 4 x36) w fun x37 =>
      RD Tryz.prog (Op.unary .not x37) w fun x38 =>
      BR x38
       (RD Tryz.prog (Instr.indexAt 72 a1 x33) w fun x41 =>
       OPU Tryz.prog (Instr.storeAt 4 x41 (Value.bool true)) w fun w =>
       OP Tryz.prog (Instr.buildSlice 23 1 #[(0, x33)]) w fun x44 w =>
       OP Tryz.prog (Builtin.append_ #[23, 23] 23 [(u5 6), x44].toArray) w fun x45 w =>
       RD Tryz.prog (bin .add 3 (.tmp 0) (.const undef) (u5 30) (Value.int .i64 1)) w fun x46 =>
       next5 [x45, x46] w)
       (RD Tryz.prog (bin .add 3 (.tmp 0) (.const undef) (u5 30) (Value.int .i64 1)) w fun x46 =>
       next5 [(u5 6), x46] w))
      (next1 [(u5 6)] w))
    (R (Value.tuple #[]) w)
def cfg126 : Cfg := { ext := extL, joins := [], loops := [(1, 140737488351936, [6]), (5, 140736414614080, [6, 30])], draws := [], pars := [] }
theorem F126_eq (a0 a1 a2 : Value) (w : World) (R : Value → World → Prop) : vcF Tryz.prog cfg126 Tryz.f126 [a0, a1, a2] w R = F126 a0 a1 a2 w R := by kernel_rfl
theorem F126_call {a0 a1 a2 : Value} {w : World} {R : Value → World → Prop} (h : F126 a0 a1 a2 w R) : CALL Tryz.prog 126 [a0, a1, a2] w R :=
  call_of (g := cfg126) ent mixed Tryz.func126 (Nat.le_of_ble_eq_true (by kernel_rfl)) (by kernel_rfl) (F126_eq a0 a1 a2 w R ▸ h)
set_option linter.unusedVariables false
set_option linter.unusedSimpArgs false
set_option linter.unusedSectionVars false
section
variable {P : Program} {w w' : World}
theorem flat_one {α : Type} [Rep α] [Flat α] {F : List Nat} {v : Value} {l : List α} (hm : Mine F w v l) (hl : l ≠ []) : ∃ b o cap, v = .slice (some ⟨b, o, none⟩) l.length cap ∧ F = [b] := by
  obtain ⟨⟨cs, ⟨a, cap, Fi, xs, rfl, h1, h2, hc, h4⟩, rfl⟩, hn, hw⟩ := hm
  rcases h4 with ⟨h4, _⟩ | ⟨b, o, rfl, rfl, hr, hb⟩
  · exact absurd h4 hl
  have hFi := Cells.flat (xs := xs) hc
  subst hFi
  exact ⟨b, o, cap, rfl, rfl⟩
/-- a store into a list without inner blocks -/
theorem opu_elt {α : Type} [Rep α] [Flat α] (h1 : Rep.size α = 1) {t by_ m n i : Nat} {l : List α} {y : α} {u : Value} {K : World → Prop} (ht : tyI P t = some (1, by_, Rep.agg α)) (hm : Mine [m] w (.slice (some ⟨m, 0, none⟩) n n) l) (hl : l.length = n) (hi : i < n) (hu : Mine [] w u y)
    (k : ∀ w', Chg [m] w w' → Mine [m] w' (.slice (some ⟨m, 0, none⟩) n n) (l.set i y) → K w') : OPU P (Instr.storeAt t (.pointer (some ⟨m, i * 1, none⟩)) u) w K := by
  obtain ⟨b, a, cap, G, hv, hL⟩ := focus hm (k := i) (by omega)
  simp only [Value.slice.injEq, Option.some.injEq, Addr.mk.injEq, and_true] at hv
  obtain ⟨⟨rfl, rfl⟩, _⟩ := hv
  rw [h1, Nat.zero_add] at hL
  refine opu_lensF (y' := y) (by rw [h1]; exact ht) hL hu fun w8 F' hc8 hm8 hF8 => ?_
  have hF9 : F' = [m] := by
    obtain ⟨b, o, cap, hv, hF2⟩ := flat_one hm8 (by intro e; have h := congrArg List.length e; rw [List.length_set, hl] at h; simp only [List.length_nil] at h; omega)
    subst hF2
    have := hF8 b (by simp)
    simpa using this
  subst hF9
  exact k w8 hc8 hm8
theorem rd_elt {α : Type} [Rep α] {t e by_ m n i : Nat} {K : Value → Prop} (h1 : Rep.size α = 1) (ht : P.underlying t = some (.slice e)) (he : tyI P e = some (1, by_, Rep.agg α)) (hi : i < n) (kk : K (.pointer (some ⟨m, i * 1, none⟩))) :
    RD P (Instr.indexAt t (.slice (some ⟨m, 0, none⟩) n n) (.int .i64 (i : Int))) w K := rd_indexG ht he hi kk
end
/-- a search under way: what is to do, what is marked -/
structure WI (w1 w : World) (m n lo hi : Nat) (tv : Value) (L : List Nat) (ms : List Bool) : Prop where
  chg : ChgI m (m + 1) w1 w
  row : RowI lo hi 3 w tv (ints L)
  mks : Mine [m] w (.slice (some ⟨m, 0, none⟩) n n) ms
  l0 : w1.heap.size ≤ lo
  m1 : m < lo
  h2 : lo ≤ hi
  h3 : hi ≤ w.heap.size
section
variable {w1 w w' : World} {m n lo hi : Nat} {tv : Value} {L : List Nat} {ms : List Bool}
theorem WI.step (h : WI w1 w m n lo hi tv L ms) (hx : Ext w w') : WI w1 w' m n lo hi tv L ms :=
  ⟨h.chg.trans hx.toI, h.row.ext hx, h.mks.ext hx, h.l0, h.m1, h.h2, Nat.le_trans h.h3 hx.size⟩
theorem WI.push {tv' : Value} {x : Nat} {lo' hi' : Nat} (h : WI w1 w m n lo hi tv L ms) (hc : ChgI lo hi w w') (hr : RowI lo' hi' 3 w' tv' (ints L ++ [(x : Int)])) (hd : lo' = lo ∧ hi' = hi ∨ lo' = w.heap.size ∧ hi' = w'.heap.size) :
    WI w1 w' m n lo' hi' tv' (L ++ [x]) ms := by
  have hs := hc.size
  have h1 := h.l0
  have h2 := h.h2
  have h3 := h.h3
  have h4 := h.chg.size
  have h5 := h.m1
  have hml := h.mks.lt m (by simp)
  refine ⟨⟨hc.os.trans h.chg.os, hc.tape.trans h.chg.tape, hc.output.trans h.chg.output, Nat.le_trans h4 hs, fun b hb ho => (hc.block b (Nat.lt_of_lt_of_le hb h4) (by omega)).trans (h.chg.block b hb ho)⟩, by rw [ints_append]; exact hr, h.mks.keep fun b hb => ?_, by omega, by omega, by omega, by omega⟩
  simp only [List.mem_cons, List.not_mem_nil, or_false] at hb
  subst hb
  exact hc.block b hml (by omega)
theorem WI.mark {ms' : List Bool} (h : WI w1 w m n lo hi tv L ms) (hc : Chg [m] w w') (hm : Mine [m] w' (.slice (some ⟨m, 0, none⟩) n n) ms') : WI w1 w' m n lo hi tv L ms' := by
  have hc' : ChgI m (m + 1) w w' := hc.toI fun b hb => by simp only [List.mem_cons, List.not_mem_nil, or_false] at hb; omega
  have h5 := h.m1
  exact ⟨h.chg.trans hc', h.row.chg hc' (by omega), hm, h.l0, h5, h.h2, Nat.le_trans h.h3 hc'.size⟩
end
theorem zlBf : zeroL Tryz.prog 4 = some [.bool false] := by kernel_rfl
theorem ownI_int {w : World} {x : Int} (lo hi : Nat) (h : I64 x) : OwnI lo hi w (.int .i64 x) x := ⟨[], mine_int h, by simp⟩
theorem mine_boolT {w : World} {b : Bool} : Mine [] w (.bool b) b := ⟨⟨[.bool b], ⟨rfl, rfl⟩, rfl⟩, List.nodup_nil, Wr.nil w⟩
theorem l09ReachM_ok {w W0 : World} {v0 : Value} {c : DCode} {a : Nat} (h0 : Is W0 v0 c) (e0 : Ext W0 w) (hc : CodeR c) (ha : a < c.ins.length) :
    CALL Tryz.prog 235 [v0, .int .i64 (a : Int)] w fun r w' => Ext w w' ∧ ∃ m, r = .slice (some ⟨m, 0, none⟩) c.ins.length c.ins.length ∧ w.heap.size ≤ m ∧ Mine [m] w' (.slice (some ⟨m, 0, none⟩) c.ins.length c.ins.length) (setB c.ins.length (RP (nextN c) a)) := by
  refine F235_call ?_
  unfold F235
  have hil := hc.f.ins
  have hnl := fun {i j : Nat} => nextN_lt hc (i := i) (j := j)
  refine op_box h0 e0 fun w1 hx1 hA => ?_
  refine rd_fld fd35_4 ?_
  refine rd_load ty33 (at_DCode_4 hA) (Ext.refl _) fun v11 h11 => ?_
  refine rd_len u33 h11 ?_
  generalize hn : c.ins.length = n at *
  refine op_makeZ (α := Bool) u72 ty4 rfl rfl zlBf (by omega) (by omega) fun w2 hx2 hr2 => ?_
  have hs1 := hx1.size
  have hs2 := hx2.size
  have hM2 : Mine [w1.heap.size] w2 (.slice (some ⟨w1.heap.size, 0, none⟩) n n) (List.replicate n (RepZ.zv : Bool)) := by
    obtain ⟨F, hM, hF⟩ := hr2.own
    obtain ⟨b, o, cap, hv, hF2⟩ := flat_one hM (by intro e; have := congrArg List.length e; simp at this; omega)
    simp only [Value.slice.injEq, Option.some.injEq, Addr.mk.injEq, List.cons.injEq, and_true] at hv
    obtain ⟨⟨hb, ho⟩, _⟩ := hv
    rw [← hb] at hF2
    rwa [hF2] at hM
  have hzz : (List.replicate n (RepZ.zv : Bool)) = List.replicate n false := rfl
  rw [hzz] at hM2
  refine op_build1R (x := (a : Int)) u23 ty3 z3 (by decide) (mine_int (by unfold I64; omega)) fun v15 w3 hx3 hr3 => ?_
  have hs3 := hx3.size
  generalize hm : w1.heap.size = m at *
  have hW3 : WI w1 w3 m n w2.heap.size w3.heap.size v15 [a] (List.replicate n false) := ⟨(hx2.trans hx3).toI, hr3, hM2.ext hx3, by omega, by have := hM2.lt m (by simp); omega, hs3, Nat.le_refl _⟩
  refine loopC (1 + n) (fun h us w' => ∃ (tv : Value) (lo hi : Nat) (L : List Nat) (ms : List Bool), us = [tv, .int .i64 (h : Int)] ∧ h ≤ L.length ∧ WI w1 w' m n lo hi tv L ms ∧ SInv (nextN c) n a (List.replicate n false) ms (L.drop h) h) 0 (Nat.zero_le _) ⟨v15, _, _, [a], _, rfl, by simp, hW3, SInv.start (by simp) ha⟩ ?_
  rintro h mk u w4 hkm ⟨tv, lo, hi, L, ms, hu, hhL, hW4, hS4⟩
  simp only [List.map_cons, List.map_nil, List.cons.injEq, and_true] at hu
  obtain ⟨hu1, hu2⟩ := hu
  rw [hu1, hu2]
  have hb4 := hS4.bound
  rw [List.length_drop] at hb4
  refine rd_len u23 hW4.row.is ?_
  rw [ints_len]
  refine rd_lss ?_
  refine br (fun hlt => ?_) (fun hge => ?_)
  case refine_2 =>
    have hhe : h = L.length := by omega
    rw [hhe, List.drop_length] at hS4
    have hfin := hS4.fin fun i hi => absurd hi mkd_replicate
    have hms : ms = setB n (RP (nextN c) a) := marks_setB hS4.len fun i hi => by
      rw [hfin i]
      exact ⟨fun h => h.resolve_left mkd_replicate, .inr⟩
    rw [← hms]
    have hx4 : Ext w1 w4 := (Ext.refl w1).chgI hW4.chg (by omega)
    exact ⟨hx1.trans hx4, m, rfl, by omega, hW4.mks⟩
  have hh : h < L.length := by omega
  have hx5 := ext_drew w4
  have hW5 := hW4.step hx5
  generalize World.drew1 w4 = w5 at *
  have hxa : ∀ {w : World} {lo hi tv L ms}, WI w1 w m n lo hi tv L ms → Ext w1 w := fun h => (Ext.refl w1).chgI h.chg (by omega)
  refine rd_load ty35 hA (hxa hW5) fun v22 h22 => ?_
  refine rd_indexN u23 ty3 (i := h) hW5.row.is (by rw [ints_len]; exact hh) fun b1 o1 hA1 => ?_
  rw [ints_get] at hA1
  refine rd_loadI ty3 hA1 (Ext.refl _) fun _ => ?_
  generalize hx : L[h] = x at *
  have hdr : L.drop h = x :: L.drop (h + 1) := by rw [List.drop_eq_getElem_cons hh, hx]
  have hxn : x < n := (hS4.tdo x (by rw [hdr]; simp)).2
  refine (l09Next_ok h22 (hxa hW5) hc (by rw [hn]; exact hxn)).mono ?_
  rintro v27 w6 ⟨hx6, ho6⟩
  have hW6 := hW5.step hx6
  have hI6 := hW5.h3
  have hm6 := hW5.mks.lt m (by simp)
  have hS6 : SIn2 (nextN c) n a (List.replicate n false) ms (L.drop (h + 1)) h x 0 := hS4.pop (fun i => by rw [hdr]; simp [or_comm]) (by rw [hdr]; simp)
  have hl2 := nextN_len c x
  refine loopC (nextN c x).length (fun q us w' => ∃ (tv : Value) (lo hi : Nat) (L : List Nat) (ms : List Bool), us = [tv, .int .i64 (q : Int)] ∧ q ≤ (nextN c x).length ∧ h < L.length ∧ WI w1 w' m n lo hi tv L ms ∧ SIn2 (nextN c) n a (List.replicate n false) ms (L.drop (h + 1)) h x q ∧ OwnI w5.heap.size w6.heap.size w' v27 (ints (nextN c x)) ∧ (hi ≤ w5.heap.size ∨ w6.heap.size ≤ lo) ∧ w6.heap.size ≤ w'.heap.size) 0 (Nat.zero_le _) ⟨tv, lo, hi, L, ms, rfl, Nat.zero_le _, hh, hW6, hS6, ho6.toI, .inl hI6, Nat.le_refl _⟩ ?_
  rintro q mk8 u8 w7 hkm8 ⟨tv7, lo7, hi7, L7, ms7, hu8, hql, hh7, hW7, hS7, ho7, hd7, hz7⟩
  simp only [List.map_cons, List.map_nil, List.cons.injEq, and_true] at hu8
  obtain ⟨hu81, hu82⟩ := hu8
  rw [hu81, hu82]
  refine rd_len u23 ho7.is ?_
  rw [ints_len]
  refine rd_lss ?_
  refine br (fun hlt8 => ?_) (fun hge8 => ?_)
  case refine_2 =>
    refine rd_inc (by omega) ?_
    exact ⟨mk - 1, by omega, h + 1, by omega, tv7, lo7, hi7, L7, ms7, rfl, by omega, hW7, hS7.done (by omega)⟩
  have hq : q < (nextN c x).length := by omega
  have hrd : ∀ {w : World} {K : Value → Prop} (ho : OwnI w5.heap.size w6.heap.size w v27 (ints (nextN c x))) (k : K (.int .i64 (((nextN c x)[q] : Nat) : Int))), RD Tryz.prog (Instr.indexAt 23 v27 (.int .i64 (q : Int))) w fun x37 => RD Tryz.prog (Instr.loadAt 3 x37) w K := fun ho k => by
    refine rd_indexN u23 ty3 (i := q) ho.is (by rw [ints_len]; exact hq) fun b1 o1 hA1 => ?_
    rw [ints_get] at hA1
    exact rd_loadI ty3 hA1 (Ext.refl _) fun _ => k
  have hy := hnl hxn (List.getElem_mem hq)
  refine hrd ho7 ?_
  have hlen7 := hS7.len
  refine rd_indexN u72 ty4 hW7.mks.is (by rw [hlen7]; exact hy.1) fun b2 o2 hA2 => ?_
  refine rd_loadB ty4 hA2 (Ext.refl _) ?_
  refine rd_not ?_
  have hmk7 := mkd_get (ms := ms7) (i := (nextN c x)[q]) (by rw [hlen7]; exact hy.1)
  refine br_b (fun hf => ?_) (fun hf => ?_)
  · have hnm : ¬ mkd ms7 (nextN c x)[q] := by rw [hmk7]; simpa using hf
    refine hrd ho7 ?_
    refine rd_elt (α := Bool) rfl u72 ty4 hy.1 ?_
    refine opu_elt (α := Bool) rfl ty4 hW7.mks hlen7 hy.1 mine_boolT fun w8 hc8 hm8 => ?_
    have hW8 := hW7.mark hc8 hm8
    have hc8' : ChgI m (m + 1) w7 w8 := hc8.toI fun b hb => by simp only [List.mem_cons, List.not_mem_nil, or_false] at hb; omega
    have ho8 := ho7.chg hc8' (by omega)
    refine hrd ho8 ?_
    have hS8 := hS7.push hq hy.1 hnm
    generalize (nextN c x)[q] = y at *
    have hLb : L7.length ≤ 2 + n := by
      have h1 := hS7.cnt
      have h2 := cntM_le ms7
      rw [List.length_drop] at h1
      omega
    refine op_pushD1 (x := (y : Int)) u23 ty3 z3 zc3 (by decide) hW8.row (ownI_int 0 0 (by unfold I64; omega)) (by rw [maxLen_eq, ints_len]; omega) (by rw [ints_len]; omega) fun v54 w9 lo9 hi9 hc9 hr9 hd9 => ?_
    have hW9 := hW8.push hc9 hr9 hd9
    have hsz8 := hc8'.size
    have hsz7 := ho7.is
    refine rd_inc (by omega) ?_
    refine ⟨mk8 - 1, by omega, q + 1, by omega, v54, lo9, hi9, L7 ++ [y], _, rfl, by omega, by simp; omega, hW9, ?_, ho8.chg hc9 (by omega), by omega, by have := hc9.size; omega⟩
    rw [List.drop_append_of_le_length (by omega)]
    exact hS8
  · have hnm : mkd ms7 (nextN c x)[q] := by rw [hmk7]; simpa using hf
    refine rd_inc (by omega) ?_
    exact ⟨mk8 - 1, by omega, q + 1, by omega, tv7, lo7, hi7, L7, ms7, rfl, by omega, hh7, hW7, hS7.skip hq hnm, ho7, hd7, hz7⟩
section
variable {P : Program} {w : World} {α : Type} [Rep α] [Flat α] {lo hi e : Nat} {v : Value} {l : List α}
theorem rd_cutG {t e b o n cap k by_ : Nat} {K : Value → Prop} (ht : P.underlying t = some (.slice e)) (he : tyI P e = some (Rep.size α, by_, Rep.agg α)) (hk : k ≤ n) (hn : n ≤ cap) (kk : K (.slice (some ⟨b, o, none⟩) k cap)) :
    RD P (Instr.sliceAt t (.slice (some ⟨b, o, none⟩) n cap) none (some (.int .i64 (k : Int))) none) w K := by
  refine rd_of (fun w' _ => ?_) kk
  have hbd : (Instr.sliceBounds true n cap none (some (.int .i64 (k : Int))) none).run P w' = .ok (0, k, cap) w' := by
    have h5 : (k : Int) ≤ (cap : Int) := by omega
    simp [Instr.sliceBounds, Instr.sliceBound, asIntOf, h5]
    intro h6
    omega
  simp only [Instr.sliceAt, Instr.slice, Sem.run_bind, run_underlying ht, Result.andThen_ok, hbd, run_sizeOf' he]
  simp [Addr.add_mid]
/-- a row without its last elements is a row -/
theorem rowI_cut (h : RowI lo hi e w v l) (hl : l ≠ []) {k : Nat} (hk : k ≤ l.length) : ∃ g cap, v = .slice (some ⟨g, 0, none⟩) l.length cap ∧ l.length ≤ cap ∧ RowI lo hi e w (.slice (some ⟨g, 0, none⟩) k cap) (l.take k) := by
  rcases h with ⟨a, _, h⟩ | ⟨F, ⟨xs, Fi, ⟨hlen, ho⟩, hc, hF, hw⟩, hn, hb⟩
  · exact absurd h hl
  rcases ho with ⟨_, h0⟩ | ⟨g, cap, cur, rfl, _, hg, h1, h2, h3, h4⟩
  · exact absurd (List.eq_nil_of_length_eq_zero h0) hl
  refine ⟨g, cap, rfl, h1, .inr ⟨F, ⟨xs.take (k * Rep.size α), [], ⟨?_, .inr ⟨g, cap, cur, ?_, Nat.zero_le _, hg, by rw [List.length_take]; omega, h2, h3, ?_⟩⟩, ?_, ?_, Wr.nil w⟩, hn, hb⟩⟩
  · rw [List.length_take, List.length_take, hlen, Nat.min_eq_left hk]
    exact Nat.min_eq_left (Nat.mul_le_mul_right _ hk)
  · rw [List.length_take, Nat.min_eq_left hk]
  · rw [List.length_take, Nat.min_eq_left hk, ← h4, List.take_take, Nat.min_eq_left (Nat.mul_le_mul_right _ hk)]
  · have e1 : l = l.take k ++ l.drop k := by simp
    have hFi := Cells.flat (xs := xs) hc
    subst hFi
    rw [e1] at hc
    obtain ⟨F1, F2, x1, x2, hF12, hx12, c1, c2⟩ := Cells.split hc
    have hF1 := Cells.flat (xs := x1) c1
    subst hF1
    have hl1 := Cells.len c1
    rw [List.length_take, Nat.min_eq_left hk] at hl1
    rw [hx12, List.take_left' hl1]
    exact c1
  · have hFi := Cells.flat (xs := xs) hc
    subst hFi
    rw [hF]; rfl
end
/-- the code lies at the head of block b as it did in W0 -/
def KAt (W0 w : World) (b : Nat) (c : DCode) : Prop := ∃ F cs, Rep.rep F W0 cs c ∧ w.rangeAt b 0 cs ∧ b < w.heap.size
theorem KAt.at {W0 w : World} {b : Nat} {c : DCode} (h : KAt W0 w b c) (hx : Ext W0 w) : At w b 0 c := by
  obtain ⟨F, cs, hr, hc, _⟩ := h
  exact ⟨F, cs, rep_ext hr hx, hc⟩
theorem KAt.keep {W0 w w' : World} {b : Nat} {c : DCode} (h : KAt W0 w b c) (hb : w'.heap[b]? = w.heap[b]?) (hs : w.heap.size ≤ w'.heap.size) : KAt W0 w' b c := by
  obtain ⟨F, cs, hr, hc, hl⟩ := h
  exact ⟨F, cs, hr, rangeAt_keep hc hb, by omega⟩
theorem KAt.lt {W0 w : World} {b : Nat} {c : DCode} (h : KAt W0 w b c) : b < w.heap.size := by obtain ⟨_, _, _, _, h⟩ := h; exact h
theorem spread_ok {w W0 : World} {b m n a : Nat} {c : DCode} {ms0 : List Bool} (hk : KAt W0 w b c) (e0 : Ext W0 w) (hc : CodeR c) (hn : c.ins.length = n) (ha : a < n) (hM : Mine [m] w (.slice (some ⟨m, 0, none⟩) n n) ms0) (hl : ms0.length = n) (h0 : W0.heap.size ≤ m) (hb : b ≠ m)
    (hclo : ∀ i, mkd ms0 i → i ≠ a → ∀ j ∈ nextN c i, mkd ms0 j) :
    CALL Tryz.prog 126 [.pointer (some ⟨b, 0, none⟩), .slice (some ⟨m, 0, none⟩) n n, .int .i64 (a : Int)] w fun r w' => r = .tuple #[] ∧ ChgI m (m + 1) w w' ∧ Mine [m] w' (.slice (some ⟨m, 0, none⟩) n n) (setB n fun i => mkd ms0 i ∨ RP (nextN c) a i) := by
  refine F126_call ?_
  unfold F126
  have hil := hc.f.ins
  have hnl := fun {i j : Nat} => nextN_lt hc (i := i) (j := j)
  rw [hn] at hnl hil
  refine op_build1R (x := (a : Int)) u23 ty3 z3 (by decide) (mine_int (by unfold I64; omega)) fun v11 w1 hx1 hr1 => ?_
  have hW1 : WI w w1 m n w.heap.size w1.heap.size v11 [a] ms0 := ⟨hx1.toI, hr1, hM.ext hx1, Nat.le_refl _, hM.lt m (by simp), hx1.size, Nat.le_refl _⟩
  have hKA : ∀ {w' : World} {lo hi tv L ms}, WI w w' m n lo hi tv L ms → At w' b 0 c := fun h => (hk.keep (h.chg.block b hk.lt (by omega)) h.chg.size).at (e0.chgI h.chg h0)
  refine loopC (1 + n) (fun h us w' => ∃ (tv : Value) (lo hi : Nat) (L : List Nat) (ms : List Bool), us = [tv] ∧ WI w w' m n lo hi tv L ms ∧ SInv (nextN c) n a ms0 ms L h) 0 (Nat.zero_le _) ⟨v11, _, _, [a], _, rfl, hW1, SInv.start hl ha⟩ ?_
  rintro h mk u w4 hkm ⟨tv, lo, hi, L, ms, hu, hW4, hS4⟩
  simp only [List.map_cons, List.map_nil, List.cons.injEq, and_true] at hu
  rw [hu]
  have hb4 := hS4.bound
  refine rd_len u23 hW4.row.is ?_
  rw [ints_len]
  refine rd_gtr ?_
  refine br (fun hlt => ?_) (fun hge => ?_)
  case refine_2 =>
    have hL0 : L = [] := List.eq_nil_of_length_eq_zero (by omega)
    rw [hL0] at hS4
    have hfin := hS4.fin hclo
    have hms : ms = setB n (fun i => mkd ms0 i ∨ RP (nextN c) a i) := marks_setB hS4.len fun i hi => hfin i
    rw [← hms]
    exact ⟨rfl, hW4.chg, hW4.mks⟩
  obtain ⟨z, hz⟩ : ∃ z, L.length = z + 1 := ⟨L.length - 1, by omega⟩
  have hzl : z < L.length := by omega
  have hne : ints L ≠ [] := fun e => by have := congrArg List.length e; rw [ints_len, hz] at this; cases this
  refine rd_len u23 hW4.row.is ?_
  rw [ints_len]
  refine rd_sub (by unfold I64; omega) ?_
  have ez : (L.length : Int) - 1 = (z : Int) := by omega
  rw [ez]
  refine rd_indexN u23 ty3 (i := z) hW4.row.is (by rw [ints_len]; exact hzl) fun b1 o1 hA1 => ?_
  rw [ints_get] at hA1
  refine rd_loadI ty3 hA1 (Ext.refl _) fun _ => ?_
  generalize hx : L[z] = x at *
  refine rd_len u23 hW4.row.is ?_
  rw [ints_len]
  refine rd_sub (by unfold I64; omega) ?_
  rw [ez]
  obtain ⟨g, cap, hv4, hcap, hr4⟩ := rowI_cut hW4.row hne (k := z) (by rw [ints_len]; omega)
  rw [ints_len] at hv4 hcap
  rw [hv4]
  refine rd_cutG (α := Int) u23 ty3 (by omega) hcap ?_
  have hLz : L = L.take z ++ [x] := by
    have := List.take_succ_eq_append_getElem hzl
    rw [← hz, List.take_length, hx] at this
    exact this
  rw [← ints_take] at hr4
  have hW5 : WI w w4 m n lo hi (.slice (some ⟨g, 0, none⟩) z cap) (L.take z) ms := ⟨hW4.chg, hr4, hW4.mks, hW4.l0, hW4.m1, hW4.h2, hW4.h3⟩
  have hxn : x < n := (hS4.tdo x (by rw [hLz]; simp)).2
  refine (nextIn_ok (hKA hW5) (Ext.refl _) hc (by rw [hn]; exact hxn)).mono ?_
  rintro v27 w6 ⟨hx6, ho6⟩
  have hW6 := hW5.step hx6
  have hI6 := hW5.h3
  have hm6 := hW5.mks.lt m (by simp)
  have hLm : ∀ i, i ∈ L ↔ i ∈ L.take z ∨ i = x := fun i => by
    have : i ∈ L ↔ i ∈ L.take z ++ [x] := by rw [← hLz]
    rw [this]; simp
  have hS6 : SIn2 (nextN c) n a ms0 ms (L.take z) h x 0 := hS4.pop hLm (by rw [List.length_take]; omega)
  have hl2 := nextN_len c x
  refine rd_len u23 ho6.is ?_
  rw [ints_len]
  refine loopC (nextN c x).length (fun q us w' => ∃ (tv : Value) (lo hi : Nat) (L : List Nat) (ms : List Bool), us = [tv, .int .i64 (q : Int)] ∧ q ≤ (nextN c x).length ∧ WI w w' m n lo hi tv L ms ∧ SIn2 (nextN c) n a ms0 ms L h x q ∧ OwnI w4.heap.size w6.heap.size w' v27 (ints (nextN c x)) ∧ (hi ≤ w4.heap.size ∨ w6.heap.size ≤ lo) ∧ w6.heap.size ≤ w'.heap.size) 0 (Nat.zero_le _) ⟨_, lo, hi, _, ms, rfl, Nat.zero_le _, hW6, hS6, ho6.toI, .inl hI6, Nat.le_refl _⟩ ?_
  rintro q mk8 u8 w7 hkm8 ⟨tv7, lo7, hi7, L7, ms7, hu8, hql, hW7, hS7, ho7, hd7, hz7⟩
  simp only [List.map_cons, List.map_nil, List.cons.injEq, and_true] at hu8
  obtain ⟨hu81, hu82⟩ := hu8
  rw [hu81, hu82]
  refine rd_lss ?_
  refine br (fun hlt8 => ?_) (fun hge8 => ?_)
  case refine_2 =>
    exact ⟨mk - 1, by omega, h + 1, by omega, tv7, lo7, hi7, L7, ms7, rfl, hW7, hS7.done (by omega)⟩
  have hq : q < (nextN c x).length := by omega
  have hy := hnl hxn (List.getElem_mem hq)
  refine rd_indexN u23 ty3 (i := q) ho7.is (by rw [ints_len]; exact hq) fun b3 o3 hA3 => ?_
  rw [ints_get] at hA3
  refine rd_loadI ty3 hA3 (Ext.refl _) fun _ => ?_
  have hlen7 := hS7.len
  refine rd_indexN u72 ty4 hW7.mks.is (by rw [hlen7]; exact hy.1) fun b2 o2 hA2 => ?_
  refine rd_loadB ty4 hA2 (Ext.refl _) ?_
  refine rd_not ?_
  have hmk7 := mkd_get (ms := ms7) (i := (nextN c x)[q]) (by rw [hlen7]; exact hy.1)
  refine br_b (fun hf => ?_) (fun hf => ?_)
  · have hnm : ¬ mkd ms7 (nextN c x)[q] := by rw [hmk7]; simpa using hf
    refine rd_elt (α := Bool) rfl u72 ty4 hy.1 ?_
    refine opu_elt (α := Bool) rfl ty4 hW7.mks hlen7 hy.1 mine_boolT fun w8 hc8 hm8 => ?_
    have hW8 := hW7.mark hc8 hm8
    have hc8' : ChgI m (m + 1) w7 w8 := hc8.toI fun b hb => by simp only [List.mem_cons, List.not_mem_nil, or_false] at hb; omega
    have ho8 := ho7.chg hc8' (by omega)
    have hS8 := hS7.push hq hy.1 hnm
    generalize (nextN c x)[q] = y at *
    have hLb : L7.length ≤ 2 + n := by
      have h1 := hS7.cnt
      have h2 := cntM_le ms7
      omega
    refine op_pushD1 (x := (y : Int)) u23 ty3 z3 zc3 (by decide) hW8.row (ownI_int 0 0 (by unfold I64; omega)) (by rw [maxLen_eq, ints_len]; omega) (by rw [ints_len]; omega) fun v54 w9 lo9 hi9 hc9 hr9 hd9 => ?_
    have hW9 := hW8.push hc9 hr9 hd9
    have hsz8 := hc8'.size
    refine rd_inc (by omega) ?_
    exact ⟨mk8 - 1, by omega, q + 1, by omega, v54, lo9, hi9, L7 ++ [y], _, rfl, by omega, hW9, hS8, ho8.chg hc9 (by omega), by omega, by have := hc9.size; omega⟩
  · have hnm : mkd ms7 (nextN c x)[q] := by rw [hmk7]; simpa using hf
    refine rd_inc (by omega) ?_
    exact ⟨mk8 - 1, by omega, q + 1, by omega, tv7, lo7, hi7, L7, ms7, rfl, by omega, hW7, hS7.skip hq hnm, ho7, hd7, hz7⟩
end Go.Proofs.YtjgfldfbljmhhaaGreat
namespace Go.Proofs.YtjgfldfbljmhhaaGreat
open Go Go.Sh Go.Proofs
set_option linter.unusedVariables false
/-- spec.l09Marked -/
def F77 (a0 : Value) (w : World) (R : Value → World → Prop) : Prop :=
  OP Tryz.prog (Instr.buildSlice 23 0 #[]) w fun x5 w =>
  LOOPI [3, 4] [x5, (Value.int .i64 0)] w fun u3 w next3 =>
   RD Tryz.prog (Builtin.len_ #[72] 3 [a0].toArray) w fun x8 =>
   RD Tryz.prog (bin .lss 3 (.tmp 0) (.tmp 0) (u3 4) x8) w fun x9 =>
   BR x9
    (RD Tryz.prog (Instr.indexAt 72 a0 (u3 4)) w fun x14 =>
    RD Tryz.prog (Instr.loadAt 4 x14) w fun x15 =>
    BR x15
     (OP Tryz.prog (Instr.buildSlice 23 1 #[(0, (u3 4))]) w fun x18 w =>
     OP Tryz.prog (Builtin.append_ #[23, 23] 23 [(u3 3), x18].toArray) w fun x19 w =>
     RD Tryz.prog (bin .add 3 (.tmp 0) (.const undef) (u3 4) (Value.int .i64 1)) w fun x11 =>
     next3 [x19, x11] w)
     (RD Tryz.prog (bin .add 3 (.tmp 0) (.const undef) (u3 4) (Value.int .i64 1)) w fun x11 =>
     next3 [(u3 3), x11] w))
    (R (u3 3) w)
def cfg77 : Cfg := { ext := extL, joins := [], loops := [(3, 1048536, [3, 4])], draws := [], pars := [] }
theorem F77_eq (a0 : Value) (w : World) (R : Value → World → Prop) : vcF Tryz.prog cfg77 Tryz.f77 [a0] w R = F77 a0 w R := by kernel_rfl
theorem F77_call {a0 : Value} {w : World} {R : Value → World → Prop} (h : F77 a0 w R) : CALL Tryz.prog 77 [a0] w R :=
  call_of (g := cfg77) ent mixed Tryz.func77 (Nat.le_of_ble_eq_true (by kernel_rfl)) (by kernel_rfl) (F77_eq a0 w R ▸ h)
/-- spec.l09Live -/
def F185 (a0 a1 : Value) (w : World) (R : Value → World → Prop) : Prop :=
  OP Tryz.prog (Instr.box 35 a0) w fun x2 w =>
  (fun w => RD Tryz.prog (Instr.loadAt 35 x2) w fun x6 =>
  RD Tryz.prog (Instr.fieldAt 35 x2 3) w fun x7 =>
  RD Tryz.prog (Instr.loadAt 23 x7) w fun x8 =>
  RD Tryz.prog (Instr.indexAt 23 x8 a1) w fun x10 =>
  RD Tryz.prog (Instr.loadAt 3 x10) w fun x11 =>
  CALL Tryz.prog 235 [x6, x11] w fun x12 w =>
  RD Tryz.prog (Instr.fieldAt 35 x2 3) w fun x14 =>
  RD Tryz.prog (Instr.loadAt 23 x14) w fun x15 =>
  RD Tryz.prog (Instr.indexAt 23 x15 a1) w fun x17 =>
  RD Tryz.prog (Instr.loadAt 3 x17) w fun x18 =>
  RD Tryz.prog (Instr.indexAt 72 x12 x18) w fun x19 =>
  OPU Tryz.prog (Instr.storeAt 4 x19 (Value.bool true)) w fun w =>
  R x12 w) (World.drew1 w)
def cfg185 : Cfg := { ext := extL, joins := [], loops := [], draws := [(1, [0, 1, 2, 3, 4, 5, 6, 7], 0)], pars := [] }
theorem F185_eq (a0 a1 : Value) (w : World) (R : Value → World → Prop) : vcF Tryz.prog cfg185 Tryz.f185 [a0, a1] w R = F185 a0 a1 w R := by kernel_rfl
theorem F185_call {a0 a1 : Value} {w : World} {R : Value → World → Prop} (h : F185 a0 a1 w R) : CALL Tryz.prog 185 [a0, a1] w R :=
  call_of (g := cfg185) ent mixed Tryz.func185 (Nat.le_of_ble_eq_true (by kernel_rfl)) (by kernel_rfl) (F185_eq a0 a1 w R ▸ h)
/-- spec.l10Ops -/
def F189 (a0 a1 a2 : Value) (w : World) (R : Value → World → Prop) : Prop :=
  OP Tryz.prog (Instr.box 35 a0) w fun x3 w =>
  RD Tryz.prog (Instr.loadAt 35 x3) w fun x10 =>
  CALL Tryz.prog 185 [x10, a1] w fun x12 w =>
  RD Tryz.prog (Instr.fieldAt 35 x3 2) w fun x13 =>
  RD Tryz.prog (Instr.loadAt 22 x13) w fun x14 =>
  RD Tryz.prog (Builtin.len_ #[22] 3 [x14].toArray) w fun x15 =>
  OP Tryz.prog (Instr.makeSlice 72 x15 x15) w fun x16 w =>
  LOOPI [9] [(Value.int .i64 0)] w fun u4 w next4 =>
   RD Tryz.prog (Instr.fieldAt 35 x3 4) w fun x18 =>
   RD Tryz.prog (Instr.loadAt 33 x18) w fun x19 =>
   RD Tryz.prog (Builtin.len_ #[33] 3 [x19].toArray) w fun x20 =>
   RD Tryz.prog (bin .lss 3 (.tmp 0) (.tmp 0) (u4 9) x20) w fun x21 =>
   BR x21
    (RD Tryz.prog (Instr.indexAt 72 x12 (u4 9)) w fun x26 =>
    RD Tryz.prog (Instr.loadAt 4 x26) w fun x27 =>
    BR x27
    (RD Tryz.prog (Instr.fieldAt 35 x3 4) w fun x29 =>
    RD Tryz.prog (Instr.loadAt 33 x29) w fun x30 =>
    RD Tryz.prog (Instr.indexAt 33 x30 (u4 9)) w fun x32 =>
    RD Tryz.prog (Instr.fieldAt 136 x32 0) w fun x33 =>
    RD Tryz.prog (Instr.loadAt 3 x33) w fun x34 =>
    RD Tryz.prog (bin .eql 3 (.tmp 0) (.tmp 0) x34 a2) w fun x36 =>
    BR x36
     (RD Tryz.prog (Instr.fieldAt 35 x3 4) w fun x39 =>
     RD Tryz.prog (Instr.loadAt 33 x39) w fun x40 =>
     RD Tryz.prog (Instr.indexAt 33 x40 (u4 9)) w fun x42 =>
     RD Tryz.prog (Instr.fieldAt 136 x42 1) w fun x43 =>
     RD Tryz.prog (Instr.loadAt 3 x43) w fun x44 =>
     RD Tryz.prog (Instr.indexAt 72 x16 x44) w fun x45 =>
     OPU Tryz.prog (Instr.storeAt 4 x45 (Value.bool true)) w fun w =>
     RD Tryz.prog (bin .add 3 (.tmp 0) (.const undef) (u4 9) (Value.int .i64 1)) w fun x23 =>
     next4 [x23] w)
     (RD Tryz.prog (bin .add 3 (.tmp 0) (.const undef) (u4 9) (Value.int .i64 1)) w fun x23 =>
     next4 [x23] w))
    (RD Tryz.prog (bin .add 3 (.tmp 0) (.const undef) (u4 9) (Value.int .i64 1)) w fun x23 =>
     next4 [x23] w))
    (CALL Tryz.prog 77 [x16] w fun x47 w =>
    R x47 w)
def cfg189 : Cfg := { ext := extL, joins := [], loops := [(4, 70368744047104, [9])], draws := [], pars := [] }
theorem F189_eq (a0 a1 a2 : Value) (w : World) (R : Value → World → Prop) : vcF Tryz.prog cfg189 Tryz.f189 [a0, a1, a2] w R = F189 a0 a1 a2 w R := by kernel_rfl
theorem F189_call {a0 a1 a2 : Value} {w : World} {R : Value → World → Prop} (h : F189 a0 a1 a2 w R) : CALL Tryz.prog 189 [a0, a1, a2] w R :=
  call_of (g := cfg189) ent mixed Tryz.func189 (Nat.le_of_ble_eq_true (by kernel_rfl)) (by kernel_rfl) (F189_eq a0 a1 a2 w R ▸ h)
set_option linter.unusedVariables false
set_option linter.unusedSimpArgs false
/-- the numbers that are marked -/
def idxM (ms : List Bool) (n : Nat) : List Nat := (List.range n).filter fun i => ms.getD i false
theorem idxM_succ (ms : List Bool) (n : Nat) : idxM ms (n + 1) = idxM ms n ++ (if ms.getD n false then [n] else []) := by
  simp only [idxM, List.range_succ, List.filter_append, List.filter_cons, List.filter_nil]
theorem idxM_len (ms : List Bool) (n : Nat) : (idxM ms n).length ≤ n := Nat.le_trans (List.length_filter_le _ _) (by simp)
theorem idxM_setB (n : Nat) (p : Nat → Prop) : idxM (setB n p) n = setL n p := by
  refine List.filter_congr fun i hi => ?_
  have hi' := List.mem_range.1 hi
  have := mkd_setB (n := n) (p := p) (i := i)
  unfold mkd at this
  by_cases h : p i
  · rw [this.2 ⟨hi', h⟩]; simp [h]
  · have h2 : (setB n p).getD i false ≠ true := fun e => h (this.1 e).2
    simp only [h, decide_false]
    cases hh : (setB n p).getD i false
    · rfl
    · exact absurd hh h2
theorem l09Marked_ok {w W0 : World} {v0 : Value} {ms : List Bool} (h0 : Is W0 v0 ms) (e0 : Ext W0 w) (hn : ms.length ≤ 1000000) :
    CALL Tryz.prog 77 [v0] w fun r w' => Ext w w' ∧ Own w.heap.size w' r (ints (idxM ms ms.length)) := by
  refine F77_call ?_
  unfold F77
  refine op_build0I (α := Int) u23 ty3 fun a w1 hx1 hr1 => ?_
  have hs1 := hx1.size
  refine loopC ms.length (fun k us w' => ∃ (v : Value), us = [v, .int .i64 (k : Int)] ∧ k ≤ ms.length ∧ Ext w w' ∧ RowI w.heap.size w'.heap.size 3 w' v (ints (idxM ms k))) 0 (Nat.zero_le _) ⟨_, rfl, Nat.zero_le _, hx1, hr1.mono hs1 (Nat.le_refl _)⟩ ?_
  rintro k mk u w2 hkm ⟨v, hu, hkl, hx2, hr2⟩
  simp only [List.map_cons, List.map_nil, List.cons.injEq, and_true] at hu
  obtain ⟨hu1, hu2⟩ := hu
  rw [hu1, hu2]
  refine rd_len u72 h0 ?_
  refine rd_lss ?_
  refine br (fun hlt => ?_) (fun hge => ?_)
  case refine_2 =>
    have : k = ms.length := by omega
    rw [this] at hr2
    exact ⟨hx2, hr2.own.own⟩
  have hk : k < ms.length := by omega
  have hs2 := hx2.size
  have hg : ms.getD k false = ms[k] := by rw [List.getD_eq_getElem?_getD, List.getElem?_eq_getElem hk]; rfl
  have hil := idxM_len ms k
  refine rd_indexN u72 ty4 h0 hk fun b2 o2 hA2 => ?_
  refine rd_loadB ty4 hA2 (e0.trans hx2) ?_
  refine br_b (fun hf => ?_) (fun hf => ?_)
  · refine op_push (lo2 := w2.heap.size) (hi2 := w2.heap.size) (x := (k : Int)) u23 ty3 z3 zc3 (by decide) hr2 hs2 (ownI_int _ _ (by unfold I64; omega)) (Nat.le_refl _) hs2 (by rw [maxLen_eq, ints_len]; omega) (by rw [ints_len]; omega) fun v54 w9 hc9 hr9 => ?_
    refine rd_inc (by omega) ?_
    refine ⟨mk - 1, by omega, k + 1, by omega, v54, rfl, by omega, hx2.chgI hc9 (Nat.le_refl _), ?_⟩
    rw [idxM_succ, hg, hf, if_pos rfl, ints_append]
    exact hr9
  · refine rd_inc (by omega) ?_
    refine ⟨mk - 1, by omega, k + 1, by omega, v, rfl, by omega, hx2, ?_⟩
    rw [idxM_succ, hg, hf]
    simpa using hr2
/-- what is met of a procedure -/
def LiveP (c : DCode) (p : Nat) (i : Nat) : Prop := i = (en c p).toNat ∨ RP (nextN c) (en c p).toNat i
theorem l09Live_ok {w W0 : World} {v0 : Value} {c : DCode} {p : Nat} (h0 : Is W0 v0 c) (e0 : Ext W0 w) (hc : CodeR c) (hp : p < c.entry.length) :
    CALL Tryz.prog 185 [v0, .int .i64 (p : Int)] w fun r w' => Ext w w' ∧ Own w.heap.size w' r (setB c.ins.length (LiveP c p)) := by
  refine F185_call ?_
  unfold F185
  have hen := proc_en hc hp
  refine op_box h0 e0 fun w1 hx1 hA => ?_
  have hx2 := ext_drew w1
  generalize World.drew1 w1 = w2 at *
  have hs1 := hx1.size
  have hs2 := hx2.size
  obtain ⟨a, hae⟩ : ∃ a : Nat, en c p = (a : Int) := ⟨(en c p).toNat, by omega⟩
  have hla : LiveP c p = fun i => i = a ∨ RP (nextN c) a i := by
    funext i; unfold LiveP; rw [hae]; rfl
  have ha : a < c.ins.length := by omega
  rw [hla]
  refine rd_load ty35 hA hx2 fun v6 h6 => ?_
  refine rd_fld fd35_3 ?_
  refine rd_load ty23 (at_DCode_3 hA) hx2 fun v8 h8 => ?_
  refine rd_indexN u23 ty3 h8 hp fun b1 o1 hA1 => ?_
  rw [en_get hp, hae] at hA1
  refine rd_loadI ty3 hA1 hx2 fun _ => ?_
  refine (l09ReachM_ok h6 hx2 hc ha).mono ?_
  rintro _ w3 ⟨hx3, m, rfl, hm, hM⟩
  have hs3 := hx3.size
  refine rd_fld fd35_3 ?_
  refine rd_load ty23 (at_DCode_3 hA) (hx2.trans hx3) fun v15 h15 => ?_
  refine rd_indexN u23 ty3 h15 hp fun b2 o2 hA2 => ?_
  rw [en_get hp, hae] at hA2
  refine rd_loadI ty3 hA2 (hx2.trans hx3) fun _ => ?_
  refine rd_elt (α := Bool) rfl u72 ty4 ha ?_
  refine opu_elt (α := Bool) rfl ty4 hM setB_len ha mine_boolT fun w4 hc4 hm4 => ?_
  have hset : (setB c.ins.length (RP (nextN c) a)).set a true = setB c.ins.length (fun i => i = a ∨ RP (nextN c) a i) := marks_setB (by rw [List.length_set, setB_len]) fun i hi => by
    rw [mkd_set (by rw [setB_len]; exact ha), mkd_setB]
    constructor
    · rintro (⟨_, h⟩ | h)
      · exact .inr h
      · exact .inl h
    · rintro (h | h)
      · exact .inr h
      · exact .inl ⟨hi, h⟩
  rw [hset] at hm4
  have hc4' : ChgI m (m + 1) w3 w4 := hc4.toI fun b hb => by simp only [List.mem_cons, List.not_mem_nil, or_false] at hb; omega
  exact ⟨((hx1.trans hx2).trans hx3).chgI hc4' (by omega), [m], hm4, fun b hb => by simp only [List.mem_cons, List.not_mem_nil, or_false] at hb; omega⟩
/-- a new list of marks, none set -/
theorem op_makeB {w : World} {n : Nat} {K : Value → World → Prop} (h0 : 0 < n) (hn : n ≤ 1000000)
    (k : ∀ w', Ext w w' → Mine [w.heap.size] w' (.slice (some ⟨w.heap.size, 0, none⟩) n n) (List.replicate n false) → K (.slice (some ⟨w.heap.size, 0, none⟩) n n) w') : OP Tryz.prog (Instr.makeSlice 72 (.int .i64 (n : Int)) (.int .i64 (n : Int))) w K :=
  op_makeZ (α := Bool) u72 ty4 rfl rfl zlBf (by omega) (by omega) fun w2 hx2 hr2 => by
    refine k w2 hx2 ?_
    obtain ⟨F, hM, hF⟩ := hr2.own
    obtain ⟨b, o, cap, hv, hF2⟩ := flat_one hM (by intro e; have := congrArg List.length e; simp at this; omega)
    simp only [Value.slice.injEq, Option.some.injEq, Addr.mk.injEq, List.cons.injEq, and_true] at hv
    obtain ⟨⟨hb, ho⟩, _⟩ := hv
    rw [← hb] at hF2
    rw [hF2] at hM
    exact hM
theorem replicate_setB (n : Nat) {p : Nat → Prop} (h : ∀ i, ¬ p i) : List.replicate n false = setB n p :=
  marks_setB (by simp) fun i _ => ⟨fun h => absurd h mkd_replicate, fun hp => absurd hp (h i)⟩
theorem setB_set {n q : Nat} {p p' : Nat → Prop} (hq : q < n) (h : ∀ i, p' i ↔ p i ∨ i = q) : (setB n p).set q true = setB n p' :=
  marks_setB (by rw [List.length_set, setB_len]) fun i hi => by
    rw [mkd_set (by rw [setB_len]; exact hq), mkd_setB, h]
    exact ⟨fun h => h.imp (·.2) id, fun h => h.imp (fun h => ⟨hi, h⟩) id⟩
/-- what a procedure does by an instruction of this kind, to q -/
def OpsP (c : DCode) (p : Nat) (op : Int) (q : Nat) : Prop := ∃ i, i < c.ins.length ∧ LiveP c p i ∧ (insAt c i).op = op ∧ (insAt c i).arg = (q : Int)
theorem l10Ops_ok {w W0 : World} {v0 : Value} {c : DCode} {p : Nat} {op : Int} (h0 : Is W0 v0 c) (e0 : Ext W0 w) (hc : CodeR c) (hp : p < c.entry.length) (hop : op = 4 ∨ op = 5) :
    CALL Tryz.prog 189 [v0, .int .i64 (p : Int), .int .i64 op] w fun r w' => Ext w w' ∧ Own w.heap.size w' r (ints (setL c.procs.length (OpsP c p op))) := by
  refine F189_call ?_
  unfold F189
  have hil := hc.f.ins
  have h8 := hc.1.procs8
  refine op_box h0 e0 fun w1 hx1 hA => ?_
  refine rd_load ty35 hA (Ext.refl _) fun v10 h10 => ?_
  refine (l09Live_ok h10 (Ext.refl _) hc hp).mono ?_
  rintro v12 w2 ⟨hx2, ho2⟩
  refine rd_fld fd35_2 ?_
  refine rd_load ty22 (at_DCode_2 hA) hx2 fun v14 h14 => ?_
  refine rd_len u22 h14 ?_
  have hs1 := hx1.size
  have hs2 := hx2.size
  refine op_makeB h8.2 (by omega) fun w3 hx3 hM3 => ?_
  have hs3 := hx3.size
  have ho3 := ho2.toI.ext hx3
  have hm3 := hM3.lt _ (List.mem_singleton.2 rfl)
  have hx13 := hx2.trans hx3
  generalize hm : w2.heap.size = m at *
  rw [replicate_setB c.procs.length (p := fun q => ∃ i, i < 0 ∧ LiveP c p i ∧ (insAt c i).op = op ∧ (insAt c i).arg = (q : Int)) (fun i ⟨j, h, _⟩ => by omega)] at hM3
  refine loopC c.ins.length (fun k us w' => us = [.int .i64 (k : Int)] ∧ k ≤ c.ins.length ∧ ChgI m (m + 1) w3 w' ∧ Mine [m] w' (.slice (some ⟨m, 0, none⟩) c.procs.length c.procs.length) (setB c.procs.length fun q => ∃ i, i < k ∧ LiveP c p i ∧ (insAt c i).op = op ∧ (insAt c i).arg = (q : Int))) 0 (Nat.zero_le _) ⟨rfl, Nat.zero_le _, ChgI.refl _, hM3⟩ ?_
  rintro k mk u w4 hkm ⟨hu, hkl, hc4, hM4⟩
  simp only [List.map_cons, List.map_nil, List.cons.injEq, and_true] at hu
  rw [hu]
  have hx4 : Ext w1 w4 := hx13.chgI hc4 (by omega)
  have ho4 := ho3.chg hc4 (by omega)
  refine rd_fld fd35_4 ?_
  refine rd_load ty33 (at_DCode_4 hA) hx4 fun v19 h19 => ?_
  refine rd_len u33 h19 ?_
  refine rd_lss ?_
  refine br (fun hlt => ?_) (fun hge => ?_)
  case refine_2 =>
    have hke : k = c.ins.length := by omega
    rw [hke] at hM4
    refine (l09Marked_ok hM4.is (Ext.refl _) (by rw [setB_len]; omega)).mono ?_
    rintro r w5 ⟨hx5, ho5⟩
    rw [setB_len, idxM_setB] at ho5
    have hsz := hx4.size
    exact ⟨(hx1.trans hx4).trans hx5, ho5.mono (by omega)⟩
  have hk : k < c.ins.length := by omega
  have hno : ¬ (LiveP c p k ∧ (insAt c k).op = op) → (setB c.procs.length fun q => ∃ i, i < k ∧ LiveP c p i ∧ (insAt c i).op = op ∧ (insAt c i).arg = (q : Int)) = setB c.procs.length fun q => ∃ i, i < k + 1 ∧ LiveP c p i ∧ (insAt c i).op = op ∧ (insAt c i).arg = (q : Int) := fun hn => setB_congr fun q _ => by
    constructor
    · rintro ⟨i, h1, h2⟩
      exact ⟨i, by omega, h2⟩
    · rintro ⟨i, h1, h2, h3, h4⟩
      by_cases h : i = k
      · subst h; exact absurd ⟨h2, h3⟩ hn
      · exact ⟨i, by omega, h2, h3, h4⟩
  refine rd_indexN u72 ty4 (i := k) ho4.is (by rw [setB_len]; exact hk) fun b2 o2 hA2 => ?_
  refine rd_loadB ty4 hA2 (Ext.refl _) ?_
  have hmk := mkd_setB (n := c.ins.length) (p := LiveP c p) (i := k)
  rw [mkd_get (by rw [setB_len]; exact hk)] at hmk
  refine br_b (fun hf => ?_) (fun hf => ?_)
  case refine_2 =>
    refine rd_inc (by omega) ?_
    refine ⟨mk - 1, by omega, k + 1, by omega, rfl, by omega, hc4, ?_⟩
    rw [← hno fun h => by rw [hmk.2 ⟨hk, h.1⟩] at hf; cases hf]
    exact hM4
  have hlive := (hmk.1 hf).2
  refine rd_fld fd35_4 ?_
  refine rd_load ty33 (at_DCode_4 hA) hx4 fun v30 h30 => ?_
  refine rd_indexN u33 ty136 h30 hk fun b3 o3 hA3 => ?_
  rw [insAt_get] at hA3
  refine rd_fld fd136_0 ?_
  refine rd_loadI ty3 (at_DIns_0 hA3) hx4 fun _ => ?_
  refine rd_eql ?_
  refine br (fun ho => ?_) (fun ho => ?_)
  case refine_2 =>
    refine rd_inc (by omega) ?_
    refine ⟨mk - 1, by omega, k + 1, by omega, rfl, by omega, hc4, ?_⟩
    rw [← hno fun h => ho h.2]
    exact hM4
  have harg := (ins_right hc hk).2.1
  unfold argMost at harg
  rw [if_neg (by omega), if_pos (by omega)] at harg
  obtain ⟨q, hq⟩ : ∃ q : Nat, (insAt c k).arg = (q : Int) := ⟨(insAt c k).arg.toNat, by omega⟩
  have hql : q < c.procs.length := by omega
  refine rd_fld fd35_4 ?_
  refine rd_load ty33 (at_DCode_4 hA) hx4 fun v40 h40 => ?_
  refine rd_indexN u33 ty136 h40 hk fun b5 o5 hA5 => ?_
  rw [insAt_get] at hA5
  refine rd_fld fd136_1 ?_
  refine rd_loadI ty3 (at_DIns_1 hA5) hx4 fun _ => ?_
  rw [hq]
  refine rd_elt (α := Bool) rfl u72 ty4 hql ?_
  refine opu_elt (α := Bool) rfl ty4 hM4 setB_len hql mine_boolT fun w5 hc5 hm5 => ?_
  have hc5' : ChgI m (m + 1) w4 w5 := hc5.toI fun b hb => by simp only [List.mem_cons, List.not_mem_nil, or_false] at hb; omega
  refine rd_inc (by omega) ?_
  refine ⟨mk - 1, by omega, k + 1, by omega, rfl, by omega, hc4.trans hc5', ?_⟩
  rw [← setB_set (p := fun q => ∃ i, i < k ∧ LiveP c p i ∧ (insAt c i).op = op ∧ (insAt c i).arg = (q : Int)) hql fun r => ?_]
  · exact hm5
  · constructor
    · rintro ⟨i, h1, h2, h3, h4⟩
      by_cases h : i = k
      · subst h; right; omega
      · exact .inl ⟨i, by omega, h2, h3, h4⟩
    · rintro (⟨i, h1, h2⟩ | rfl)
      · exact ⟨i, by omega, h2⟩
      · exact ⟨k, by omega, hlive, ho, hq⟩
end Go.Proofs.YtjgfldfbljmhhaaGreat
namespace Go.Sh
set_option linter.unusedVariables false
set_option linter.unusedSimpArgs false
/-- the bits of m that are not in n -/
def andN (m n : Nat) : Nat := Nat.bitwise (fun a b => a && !b) m n
theorem andN_bit (m n i : Nat) : (andN m n).testBit i = (m.testBit i && !n.testBit i) := Nat.testBit_bitwise rfl m n i
theorem andN_le (m n : Nat) : andN m n ≤ m := Nat.le_of_testBit fun i h => by rw [andN_bit] at h; simp at h; exact h.1
section
variable {P : Program} {w : World} {K : Value → Prop} {t : TypeId} {x y : Operand}
theorem rd_and {m n : Nat} (hm : m < 4611686018427387904) (hn : n < 4611686018427387904) (k : K (.int .i64 ((m &&& n : Nat) : Int))) : RD P (bin .and t x y (.int .i64 (m : Int)) (.int .i64 (n : Int))) w K := by
  have hlt : m &&& n ≤ m := Nat.and_le_left
  refine rd_of (fun w' _ => ?_) k
  have e1 : IntKind.i64.wrap ((m &&& n : Nat) : Int) = ((m &&& n : Nat) : Int) := IntWalk.i64_in _ (by omega)
  have e2 : ((BitVec.ofInt 64 (m : Int)) &&& (BitVec.ofInt 64 (n : Int))).toNat = m &&& n := by
    simp only [BitVec.toNat_and, BitVec.ofInt_natCast, BitVec.toNat_ofNat]
    rw [Nat.mod_eq_of_lt (by omega), Nat.mod_eq_of_lt (by omega)]
  show (do eqGuard .and t x y (.int .i64 (m : Int)) (.int .i64 (n : Int)); binOp .and t (.int .i64 (m : Int)) (.int .i64 (n : Int)) : Sem Value).run P w' = _
  simp only [eqGuard, binOp, Op.intBits]
  show Result.ok (Value.int .i64 (IntKind.i64.wrap (((BitVec.ofInt 64 (m : Int)) &&& (BitVec.ofInt 64 (n : Int))).toNat : Nat))) w' = _
  rw [e2, e1]
theorem rd_andNot {m n : Nat} (hm : m < 4611686018427387904) (hn : n < 4611686018427387904) (k : K (.int .i64 ((andN m n : Nat) : Int))) : RD P (bin .andNot t x y (.int .i64 (m : Int)) (.int .i64 (n : Int))) w K := by
  have hlt : andN m n ≤ m := andN_le m n
  refine rd_of (fun w' _ => ?_) k
  have e1 : IntKind.i64.wrap ((andN m n : Nat) : Int) = ((andN m n : Nat) : Int) := IntWalk.i64_in _ (by omega)
  have e2 : ((BitVec.ofInt 64 (m : Int)) &&& ~~~(BitVec.ofInt 64 (n : Int))).toNat = andN m n := by
    apply Nat.eq_of_testBit_eq
    intro i
    have hm64 : m < 2 ^ 64 := by omega
    have hn64 : n < 2 ^ 64 := by omega
    simp only [BitVec.testBit_toNat, BitVec.getLsbD_and, BitVec.getLsbD_not, BitVec.ofInt_natCast, BitVec.getLsbD_ofNat, andN_bit]
    by_cases hi : i < 64
    · simp [hi]
    · have : m.testBit i = false := Nat.testBit_lt_two_pow (Nat.lt_of_lt_of_le hm64 (Nat.pow_le_pow_right (by omega) (by omega)))
      simp [hi, this]
  show (do eqGuard .andNot t x y (.int .i64 (m : Int)) (.int .i64 (n : Int)); binOp .andNot t (.int .i64 (m : Int)) (.int .i64 (n : Int)) : Sem Value).run P w' = _
  simp only [eqGuard, binOp, Op.intBits]
  show Result.ok (Value.int .i64 (IntKind.i64.wrap (((BitVec.ofInt 64 (m : Int)) &&& ~~~(BitVec.ofInt 64 (n : Int))).toNat : Nat))) w' = _
  rw [e2, e1]
theorem rd_shr {m n : Nat} {ku : IntKind} (hm : m < 4611686018427387904) (k : K (.int .i64 ((m >>> n : Nat) : Int))) : RD P (bin .shr t x y (.int .i64 (m : Int)) (.int ku (n : Int))) w K := by
  refine rd_of (fun w' _ => ?_) k
  have e0 : ¬ ((n : Int) < 0) := by omega
  have e1 : (m : Int).fdiv (2 ^ (min n 64)) = ((m >>> n : Nat) : Int) := by
    rw [Nat.shiftRight_eq_div_pow]
    have h2 : ((2 : Int) ^ (min n 64)) = ((2 ^ (min n 64) : Nat) : Int) := by simp
    rw [h2, Int.fdiv_eq_ediv_of_nonneg _ (Int.natCast_nonneg _), ← Int.natCast_ediv]
    by_cases h : n ≤ 64
    · rw [Nat.min_eq_left h]
    · rw [Nat.min_eq_right (by omega), Nat.div_eq_of_lt (by omega), Nat.div_eq_of_lt (Nat.lt_of_lt_of_le (by omega : m < 2 ^ 64) (Nat.pow_le_pow_right (by omega) (by omega)))]
  show (do eqGuard .shr t x y (.int .i64 (m : Int)) (.int ku (n : Int)); binOp .shr t (.int .i64 (m : Int)) (.int ku (n : Int)) : Sem Value).run P w' = _
  simp only [eqGuard, binOp, Op.shift, e0, if_false, Int.toNat_natCast]
  show Result.ok (Value.int .i64 ((m : Int).fdiv (2 ^ (min n 64)))) w' = _
  rw [e1]
end
/-- the bits of a number below k, rising -/
def bitsTo (m : Nat) : Nat → List Int
  | 0 => []
  | k + 1 => if m.testBit k then bitsTo m k ++ [(k : Int)] else bitsTo m k
theorem bitsTo_len (m : Nat) : ∀ k, (bitsTo m k).length ≤ k
  | 0 => Nat.le_refl _
  | k + 1 => by
    have := bitsTo_len m k
    rw [bitsTo]
    split
    · simp; omega
    · omega
theorem bitsTo_past {m k : Nat} (h : m < 2 ^ k) : ∀ {j : Nat}, k ≤ j → bitsTo m j = bitsTo m k
  | 0, hj => by rw [Nat.le_zero.1 hj]
  | j + 1, hj => by
    by_cases e : k = j + 1
    · rw [e]
    · rw [bitsTo, if_neg, bitsTo_past h (by omega)]
      rw [Nat.testBit_lt_two_pow (Nat.lt_of_lt_of_le h (Nat.pow_le_pow_right (by omega) (by omega)))]
      simp
def bitsL (m : Nat) : List Int := bitsTo m 64
theorem bitsL_eq {m k : Nat} (h : m < 2 ^ k) (hk : k ≤ 64) : bitsL m = bitsTo m k := bitsTo_past h hk
theorem mem_bitsTo {m : Nat} {x : Int} : ∀ {k : Nat}, x ∈ bitsTo m k ↔ ∃ i, i < k ∧ x = (i : Int) ∧ m.testBit i = true
  | 0 => by simp [bitsTo]
  | k + 1 => by
    rw [bitsTo]
    constructor
    · intro h
      split at h
      · rename_i hb
        rcases List.mem_append.1 h with h | h
        · obtain ⟨i, h1, h2, h3⟩ := mem_bitsTo.1 h; exact ⟨i, by omega, h2, h3⟩
        · simp at h; exact ⟨k, by omega, h, hb⟩
      · obtain ⟨i, h1, h2, h3⟩ := mem_bitsTo.1 h; exact ⟨i, by omega, h2, h3⟩
    · rintro ⟨i, h1, h2, h3⟩
      by_cases e : i = k
      · subst e; rw [if_pos h3]; simp [h2]
      · have := (mem_bitsTo (m := m) (x := x) (k := k)).2 ⟨i, by omega, h2, h3⟩
        split
        · simp [this]
        · exact this
theorem bit_and (m i : Nat) : decide (((m >>> i &&& 1 : Nat) : Int) = 1) = m.testBit i := by
  have h : m >>> i &&& 1 = (m.testBit i).toNat := by
    rw [Nat.and_one_is_mod, Nat.testBit_eq_decide_div_mod_eq, Nat.shiftRight_eq_div_pow]
    rcases Nat.mod_two_eq_zero_or_one (m / 2 ^ i) with h | h <;> simp [h]
  rw [h]
  cases m.testBit i <;> rfl
theorem shr_zero {m i : Nat} : m >>> i = 0 ↔ m < 2 ^ i := by
  rw [Nat.shiftRight_eq_div_pow, Nat.div_eq_zero_iff]
  have : ¬ (2 ^ i = 0) := by have : 0 < 2 ^ i := Nat.pow_pos (by omega); omega
  simp [this]
end Go.Sh
namespace Go.Proofs.YtjgfldfbljmhhaaGreat
open Go Go.Sh Go.Proofs
set_option linter.unusedVariables false
set_option linter.unusedSimpArgs false
/-- impl.hasBit -/
def F164 (a0 a1 : Value) (w : World) (R : Value → World → Prop) : Prop :=
  RD Tryz.prog (convert 3 77 a1) w fun x7 =>
  RD Tryz.prog (bin .shr 3 (.tmp 0) (.tmp 0) a0 x7) w fun x8 =>
  RD Tryz.prog (bin .and 3 (.tmp 0) (.const undef) x8 (Value.int .i64 1)) w fun x9 =>
  RD Tryz.prog (bin .eql 3 (.tmp 0) (.const undef) x9 (Value.int .i64 1)) w fun x10 =>
  R x10 w
def cfg164 : Cfg := { ext := extL, joins := [], loops := [], draws := [], pars := [] }
theorem F164_eq (a0 a1 : Value) (w : World) (R : Value → World → Prop) : vcF Tryz.prog cfg164 Tryz.f164 [a0, a1] w R = F164 a0 a1 w R := by kernel_rfl
theorem F164_call {a0 a1 : Value} {w : World} {R : Value → World → Prop} (h : F164 a0 a1 w R) : CALL Tryz.prog 164 [a0, a1] w R :=
  call_of (g := cfg164) ent mixed Tryz.func164 (Nat.le_of_ble_eq_true (by kernel_rfl)) (by kernel_rfl) (F164_eq a0 a1 w R ▸ h)
theorem hasBit_ok {w : World} {m : Nat} {i : Nat}   (hm : m < 4611686018427387904) (hi : i < 4611686018427387904) :
    CALL Tryz.prog 164 [.int .i64 (m : Int), .int .i64 (i : Int)] w fun r w' => Ext w w' ∧ (r = .bool (m.testBit i)) := by
  refine F164_call ?_
  unfold F164
  refine rd_uint (by kernel_rfl) u77 (by omega) ?_
  refine rd_shr (by omega) ?_
  refine rd_and (n := 1) (Nat.lt_of_le_of_lt (Nat.shiftRight_le m i) hm) (by omega) ?_
  refine rd_eql ?_
  refine ⟨Ext.refl w, ?_⟩
  rw [bit_and]
/-- impl.bitsOf -/
def F97 (a0 : Value) (w : World) (R : Value → World → Prop) : Prop :=
  LOOPI [3, 4] [(Value.slice none 0 0), (Value.int .i64 0)] w fun u3 w next3 =>
   RD Tryz.prog (convert 3 77 (u3 4)) w fun x7 =>
   RD Tryz.prog (bin .shr 3 (.tmp 0) (.tmp 0) a0 x7) w fun x8 =>
   RD Tryz.prog (bin .neq 3 (.tmp 0) (.const undef) x8 (Value.int .i64 0)) w fun x9 =>
   BR x9
    (CALL Tryz.prog 164 [a0, (u3 4)] w fun x14 w =>
    BR x14
     (OP Tryz.prog (Instr.buildSlice 23 1 #[(0, (u3 4))]) w fun x17 w =>
     OP Tryz.prog (Builtin.append_ #[23, 23] 23 [(u3 3), x17].toArray) w fun x18 w =>
     RD Tryz.prog (bin .add 3 (.tmp 0) (.const undef) (u3 4) (Value.int .i64 1)) w fun x11 =>
     next3 [x18, x11] w)
     (RD Tryz.prog (bin .add 3 (.tmp 0) (.const undef) (u3 4) (Value.int .i64 1)) w fun x11 =>
     next3 [(u3 3), x11] w))
    (R (u3 3) w)
def cfg97 : Cfg := { ext := extL, joins := [], loops := [(3, 524280, [3, 4])], draws := [], pars := [] }
theorem F97_eq (a0 : Value) (w : World) (R : Value → World → Prop) : vcF Tryz.prog cfg97 Tryz.f97 [a0] w R = F97 a0 w R := by kernel_rfl
theorem F97_call {a0 : Value} {w : World} {R : Value → World → Prop} (h : F97 a0 w R) : CALL Tryz.prog 97 [a0] w R :=
  call_of (g := cfg97) ent mixed Tryz.func97 (Nat.le_of_ble_eq_true (by kernel_rfl)) (by kernel_rfl) (F97_eq a0 w R ▸ h)
theorem bitsOf_ok {w : World} {m : Nat}   (hm : m < 4611686018427387904) :
    CALL Tryz.prog 97 [.int .i64 (m : Int)] w fun r w' => Ext w w' ∧ (Own w.heap.size w' r (bitsL m)) := by
  refine F97_call ?_
  unfold F97
  refine loopC (62) (fun k us w' => ∃ v : Value, us = [v, .int .i64 (k : Int)] ∧ Ext w w' ∧ (RowI w.heap.size w'.heap.size 3 w' v (bitsTo m k))) (0) (by omega) ⟨_, rfl, Ext.refl w, rowI_nil _ _ _ _⟩ ?_
  rintro k m3 uu3 w1_ hk3 ⟨v3, hu, hx1_, hrow⟩
  have hs_hx1_ := hx1_.size
  simp only [List.map_cons, List.map_nil, List.cons.injEq, and_true] at hu
  obtain ⟨hu0, hu1⟩ := hu
  try rw [hu0]
  try rw [hu1]
  try clear hu0 hu1
  have hrl := bitsTo_len m k
  refine rd_uint (by kernel_rfl) u77 (by omega) ?_
  refine rd_shr (by omega) ?_
  refine rd_neq ?_
  refine br (fun c1 => ?_) (fun c1 => ?_)
  · have hk62 : k < 62 := by
      rcases Nat.lt_or_ge k 62 with h | h
      · exact h
      · have h1 : m < 2 ^ k := Nat.lt_of_lt_of_le (show m < 2 ^ 62 by omega) (Nat.pow_le_pow_right (by omega) h)
        exact absurd (by rw [shr_zero.2 h1]; rfl) c1
    refine (hasBit_ok (by omega) (by omega)).mono ?_
    rintro _ w2_ ⟨hx2_, rfl⟩
    have hs_hx2_ := hx2_.size
    refine br_b (fun c2 => ?_) (fun c2 => ?_)
    · refine op_push (α := Int) u23 ty3 z3 zc3 (by decide) (hrow.ext hx2_) (by omega) (ownI_int (lo := w2_.heap.size) (hi := w2_.heap.size) (by first | assumption | (unfold I64 at *; omega))) (by omega) (by omega) (by rw [maxLen_eq]; omega) (by omega) fun v18 w3_ hc3_ o18 => ?_
      have hs_hc3_ := hc3_.size
      refine rd_inc (by omega) ?_
      refine ⟨m3 - 1, by omega, k + 1, by omega, _, rfl, (Ext.chgI (hx1_.trans hx2_) hc3_ (by omega)), ?_⟩
      rw [bitsTo, if_pos c2]; exact o18
    · refine rd_inc (by omega) ?_
      refine ⟨m3 - 1, by omega, k + 1, by omega, _, rfl, (hx1_.trans hx2_), ?_⟩
      rw [bitsTo, if_neg (by simp [c2])]; exact (hrow.ext hx2_).mono (by omega) (by omega)
  · refine ⟨hx1_, ?_⟩
    have h1 : m >>> k = 0 := by have := Decidable.not_not.1 c1; omega
    rw [bitsL_eq (shr_zero.1 h1) (by omega)]
    exact hrow.own.own
/-- spec.l12Bit -/
def F119 (a0 : Value) (w : World) (R : Value → World → Prop) : Prop :=
  RD Tryz.prog (convert 3 77 a0) w fun x4 =>
  RD Tryz.prog (bin .shl 3 (.const undef) (.tmp 0) (Value.int .i64 1) x4) w fun x5 =>
  R x5 w
def cfg119 : Cfg := { ext := extL, joins := [], loops := [], draws := [], pars := [] }
theorem F119_eq (a0 : Value) (w : World) (R : Value → World → Prop) : vcF Tryz.prog cfg119 Tryz.f119 [a0] w R = F119 a0 w R := by kernel_rfl
theorem F119_call {a0 : Value} {w : World} {R : Value → World → Prop} (h : F119 a0 w R) : CALL Tryz.prog 119 [a0] w R :=
  call_of (g := cfg119) ent mixed Tryz.func119 (Nat.le_of_ble_eq_true (by kernel_rfl)) (by kernel_rfl) (F119_eq a0 w R ▸ h)
theorem l12Bit_ok {w : World} {i : Nat}   (hi : i < 62) :
    CALL Tryz.prog 119 [.int .i64 (i : Int)] w fun r w' => Ext w w' ∧ (r = .int .i64 ((2 ^ i : Nat) : Int)) := by
  refine F119_call ?_
  unfold F119
  refine rd_uint (by kernel_rfl) u77 (by omega) ?_
  refine rd_shl1 (by omega) ?_
  refine ⟨Ext.refl w, ?_⟩
  rfl
/-- spec.l12Ok -/
def F123 (a0 : Value) (w : World) (R : Value → World → Prop) : Prop :=
  CALL Tryz.prog 122 [a0, (Value.int .i64 0), (Value.int .i64 63)] w fun x4 w =>
  R x4 w
def cfg123 : Cfg := { ext := extL, joins := [], loops := [], draws := [], pars := [] }
theorem F123_eq (a0 : Value) (w : World) (R : Value → World → Prop) : vcF Tryz.prog cfg123 Tryz.f123 [a0] w R = F123 a0 w R := by kernel_rfl
theorem F123_call {a0 : Value} {w : World} {R : Value → World → Prop} (h : F123 a0 w R) : CALL Tryz.prog 123 [a0] w R :=
  call_of (g := cfg123) ent mixed Tryz.func123 (Nat.le_of_ble_eq_true (by kernel_rfl)) (by kernel_rfl) (F123_eq a0 w R ▸ h)
theorem l12Ok_ok {w : World} {a : Int}    :
    CALL Tryz.prog 123 [.int .i64 a] w fun r w' => Ext w w' ∧ (r = .bool (decide (0 ≤ a ∧ a ≤ 63))) := by
  refine F123_call ?_
  unfold F123
  refine (l01In_ok ).mono ?_
  rintro _ w1_ ⟨hx1_, rfl⟩
  refine ⟨hx1_, ?_⟩
  rfl
theorem or_lt6 {m i : Nat} (hm : m < 64) (hi : i < 6) : m ||| 2 ^ i < 64 := Nat.or_lt_two_pow (n := 6) hm (Nat.pow_lt_pow_right (by omega) hi)
end Go.Proofs.YtjgfldfbljmhhaaGreat
namespace Go.Proofs.YtjgfldfbljmhhaaGreat
open Go Go.Sh Go.Proofs
set_option linter.unusedVariables false
/-- impl.unionOf -/
def F195 (a0 a1 : Value) (w : World) (R : Value → World → Prop) : Prop :=
  CALL Tryz.prog 97 [a1] w fun x9 w =>
  RD Tryz.prog (Builtin.len_ #[23] 3 [x9].toArray) w fun x10 =>
  LOOPI [5, 11] [(Value.int .i64 0), (Value.int .i64 0)] w fun u3 w next3 =>
   RD Tryz.prog (bin .lss 3 (.tmp 0) (.tmp 0) (u3 11) x10) w fun x12 =>
   BR x12
    (RD Tryz.prog (Instr.indexAt 23 x9 (u3 11)) w fun x13 =>
    RD Tryz.prog (Instr.loadAt 3 x13) w fun x14 =>
    RD Tryz.prog (Instr.indexAt 23 a0 x14) w fun x18 =>
    RD Tryz.prog (Instr.loadAt 3 x18) w fun x19 =>
    RD Tryz.prog (bin .or 3 (.tmp 0) (.tmp 0) (u3 5) x19) w fun x20 =>
    RD Tryz.prog (bin .add 3 (.tmp 0) (.const undef) (u3 11) (Value.int .i64 1)) w fun x21 =>
    next3 [x20, x21] w)
    (R (u3 5) w)
def cfg195 : Cfg := { ext := extL, joins := [], loops := [(3, 4192416, [5, 11])], draws := [], pars := [] }
theorem F195_eq (a0 a1 : Value) (w : World) (R : Value → World → Prop) : vcF Tryz.prog cfg195 Tryz.f195 [a0, a1] w R = F195 a0 a1 w R := by kernel_rfl
theorem F195_call {a0 a1 : Value} {w : World} {R : Value → World → Prop} (h : F195 a0 a1 w R) : CALL Tryz.prog 195 [a0, a1] w R :=
  call_of (g := cfg195) ent mixed Tryz.func195 (Nat.le_of_ble_eq_true (by kernel_rfl)) (by kernel_rfl) (F195_eq a0 a1 w R ▸ h)
set_option linter.unusedVariables false
set_option linter.unusedSimpArgs false
/-- the sets of the numbers of a list, joined -/
def orL (sets : List Nat) (l : List Int) : Nat := l.foldl (fun a i => a ||| sets.getD i.toNat 0) 0
theorem orL_snoc (sets : List Nat) (l : List Int) (i : Int) : orL sets (l ++ [i]) = orL sets l ||| sets.getD i.toNat 0 := by simp [orL]
theorem orL_lt {sets : List Nat} (hs : ∀ x ∈ sets, x < 256) (l : List Int) : orL sets l < 256 := by
  have key : ∀ (l : List Int) (a : Nat), a < 256 → l.foldl (fun a i => a ||| sets.getD i.toNat 0) a < 256 := fun l => by
    induction l with
    | nil => exact fun a h => h
    | cons i l ih =>
      intro a ha
      rw [List.foldl_cons]
      refine ih _ (Nat.or_lt_two_pow (n := 8) ha ?_)
      rw [List.getD_eq_getElem?_getD]
      cases h : sets[i.toNat]? with
      | none => simp
      | some x => exact hs x (List.mem_of_getElem? h)
  exact key l 0 (by omega)
theorem unionOf_ok {w W0 : World} {v0 : Value} {sets : List Nat} {m : Nat} (h0 : Is W0 v0 (ints sets)) (e0 : Ext W0 w) (hs : ∀ x ∈ sets, x < 256) (hl : sets.length ≤ 8) (hm : m < 2 ^ sets.length) :
    CALL Tryz.prog 195 [v0, .int .i64 (m : Int)] w fun r w' => Ext w w' ∧ r = .int .i64 (orL sets (bitsL m) : Nat) := by
  refine F195_call ?_
  unfold F195
  have h256 : 2 ^ sets.length ≤ 2 ^ 8 := Nat.pow_le_pow_right (by omega) hl
  refine (bitsOf_ok (m := m) (by omega)).mono ?_
  rintro v9 w1 ⟨hx1, ho1⟩
  have hbl : (bitsL m).length ≤ 64 := bitsTo_len m 64
  refine rd_len u23 ho1.is ?_
  refine loopC (bitsL m).length (fun k us w' => us = [.int .i64 ((orL sets ((bitsL m).take k) : Nat) : Int), .int .i64 (k : Int)] ∧ k ≤ (bitsL m).length ∧ Ext w1 w') 0 (Nat.zero_le _) ⟨rfl, Nat.zero_le _, Ext.refl _⟩ ?_
  rintro k mk u w2 hkm ⟨hu, hkl, hx2⟩
  simp only [List.map_cons, List.map_nil, List.cons.injEq, and_true] at hu
  obtain ⟨hu1, hu2⟩ := hu
  rw [hu1, hu2]
  refine rd_lss ?_
  refine br (fun hlt => ?_) (fun hge => ?_)
  case refine_2 =>
    have : k = (bitsL m).length := by omega
    rw [this, List.take_length]
    exact ⟨hx1.trans hx2, rfl⟩
  have hk : k < (bitsL m).length := by omega
  have hmem : (bitsL m)[k] ∈ bitsL m := List.getElem_mem hk
  obtain ⟨i, hi1, hi2, hi3⟩ := mem_bitsTo.1 hmem
  have hil : i < sets.length := Decidable.byContradiction fun hc => by
    have := Nat.testBit_lt_two_pow (Nat.lt_of_lt_of_le hm (Nat.pow_le_pow_right (by omega) (by omega : sets.length ≤ i)))
    rw [this] at hi3; cases hi3
  refine rd_indexN u23 ty3 (i := k) ho1.is hk fun b1 o1 hA1 => ?_
  refine rd_loadI ty3 hA1 hx2 fun _ => ?_
  rw [hi2]
  refine rd_indexN u23 ty3 (i := i) h0 (by rw [ints_len]; exact hil) fun b2 o2 hA2 => ?_
  rw [ints_get] at hA2
  refine rd_loadI ty3 hA2 ((e0.trans hx1).trans hx2) fun _ => ?_
  have h1 := orL_lt hs ((bitsL m).take k)
  have h2 := hs sets[i] (List.getElem_mem hil)
  refine rd_or (by omega) (by omega) ?_
  refine rd_inc (by omega) ?_
  refine ⟨mk - 1, by omega, k + 1, by omega, ?_, by omega, hx2⟩
  rw [List.take_succ_eq_append_getElem hk, orL_snoc, hi2, Int.toNat_natCast, List.getD_eq_getElem?_getD, List.getElem?_eq_getElem hil]
  rfl
end Go.Proofs.YtjgfldfbljmhhaaGreat
namespace Go.Proofs.YtjgfldfbljmhhaaGreat
open Go Go.Sh Go.Proofs
set_option linter.unusedVariables false
/-- spec.l10From -/
def F186 (a0 a1 : Value) (w : World) (R : Value → World → Prop) : Prop :=
  OP Tryz.prog (Instr.box 35 a0) w fun x2 w =>
  RD Tryz.prog (Instr.fieldAt 35 x2 2) w fun x10 =>
  RD Tryz.prog (Instr.loadAt 22 x10) w fun x11 =>
  RD Tryz.prog (Builtin.len_ #[22] 3 [x11].toArray) w fun x12 =>
  OP Tryz.prog (Instr.makeSlice 72 x12 x12) w fun x13 w =>
  RD Tryz.prog (Instr.indexAt 72 x13 a1) w fun x16 =>
  OPU Tryz.prog (Instr.storeAt 4 x16 (Value.bool true)) w fun w =>
  OP Tryz.prog (Instr.buildSlice 23 1 #[(0, a1)]) w fun x18 w =>
  LOOPI [6, 7] [x18, (Value.int .i64 0)] w fun u5 w next5 =>
   RD Tryz.prog (Builtin.len_ #[23] 3 [(u5 6)].toArray) w fun x21 =>
   RD Tryz.prog (bin .lss 3 (.tmp 0) (.tmp 0) (u5 7) x21) w fun x22 =>
   BR x22
    ((fun w => RD Tryz.prog (Instr.loadAt 35 x2) w fun x25 =>
    RD Tryz.prog (Instr.indexAt 23 (u5 6) (u5 7)) w fun x28 =>
    RD Tryz.prog (Instr.loadAt 3 x28) w fun x29 =>
    CALL Tryz.prog 189 [x25, x29, (Value.int .i64 4)] w fun x30 w =>
    LOOPI [6, 9] [(u5 6), (Value.int .i64 0)] w fun u9 w next9 =>
     RD Tryz.prog (Builtin.len_ #[23] 3 [x30].toArray) w fun x33 =>
     RD Tryz.prog (bin .lss 3 (.tmp 0) (.tmp 0) (u9 9) x33) w fun x34 =>
     BR x34
      (RD Tryz.prog (Instr.indexAt 23 x30 (u9 9)) w fun x40 =>
      RD Tryz.prog (Instr.loadAt 3 x40) w fun x41 =>
      RD Tryz.prog (Instr.indexAt 72 x13 x41) w fun x42 =>
      RD Tryz.prog (Instr.loadAt 4 x42) w fun x43 =>
      RD Tryz.prog (Op.unary .not x43) w fun x44 =>
      BR x44
       (RD Tryz.prog (Instr.indexAt 23 x30 (u9 9)) w fun x48 =>
       RD Tryz.prog (Instr.loadAt 3 x48) w fun x49 =>
       RD Tryz.prog (Instr.indexAt 72 x13 x49) w fun x50 =>
       OPU Tryz.prog (Instr.storeAt 4 x50 (Value.bool true)) w fun w =>
       RD Tryz.prog (Instr.indexAt 23 x30 (u9 9)) w fun x54 =>
       RD Tryz.prog (Instr.loadAt 3 x54) w fun x55 =>
       OP Tryz.prog (Instr.buildSlice 23 1 #[(0, x55)]) w fun x56 w =>
       OP Tryz.prog (Builtin.append_ #[23, 23] 23 [(u9 6), x56].toArray) w fun x57 w =>
       RD Tryz.prog (bin .add 3 (.tmp 0) (.const undef) (u9 9) (Value.int .i64 1)) w fun x36 =>
       next9 [x57, x36] w)
       (RD Tryz.prog (bin .add 3 (.tmp 0) (.const undef) (u9 9) (Value.int .i64 1)) w fun x36 =>
       next9 [(u9 6), x36] w))
      (RD Tryz.prog (bin .add 3 (.tmp 0) (.const undef) (u5 7) (Value.int .i64 1)) w fun x24 =>
      next5 [(u9 6), x24] w)) (World.drew1 w))
    (R x13 w)
def cfg186 : Cfg := { ext := extL, joins := [], loops := [(5, 288230376151188416, [6, 7]), (9, 288230374004228672, [6, 9])], draws := [(7, [0, 1, 2, 3, 4, 5, 6], 0)], pars := [] }
theorem F186_eq (a0 a1 : Value) (w : World) (R : Value → World → Prop) : vcF Tryz.prog cfg186 Tryz.f186 [a0, a1] w R = F186 a0 a1 w R := by kernel_rfl
theorem F186_call {a0 a1 : Value} {w : World} {R : Value → World → Prop} (h : F186 a0 a1 w R) : CALL Tryz.prog 186 [a0, a1] w R :=
  call_of (g := cfg186) ent mixed Tryz.func186 (Nat.le_of_ble_eq_true (by kernel_rfl)) (by kernel_rfl) (F186_eq a0 a1 w R ▸ h)
set_option linter.unusedVariables false
set_option linter.unusedSimpArgs false
/-- the procedures that may be called from one on -/
noncomputable def callN (c : DCode) (p : Nat) : List Nat := setL c.procs.length (OpsP c p 4)
theorem l10FromM_ok {w W0 : World} {v0 : Value} {c : DCode} {a : Nat} (h0 : Is W0 v0 c) (e0 : Ext W0 w) (hc : CodeR c) (ha : a < c.procs.length) :
    CALL Tryz.prog 186 [v0, .int .i64 (a : Int)] w fun r w' => Ext w w' ∧ ∃ m, r = .slice (some ⟨m, 0, none⟩) c.procs.length c.procs.length ∧ w.heap.size ≤ m ∧ Mine [m] w' (.slice (some ⟨m, 0, none⟩) c.procs.length c.procs.length) (setB c.procs.length fun i => i = a ∨ RP (callN c) a i) := by
  refine F186_call ?_
  unfold F186
  have h8 := hc.1.procs8
  have hep := hc.2.1.1
  have hcn : ∀ x, callN c x = setL c.procs.length (OpsP c x 4) := fun _ => rfl
  refine op_box h0 e0 fun w1 hx1 hA => ?_
  refine rd_fld fd35_2 ?_
  refine rd_load ty22 (at_DCode_2 hA) (Ext.refl _) fun v11 h11 => ?_
  refine rd_len u22 h11 ?_
  generalize hn : c.procs.length = n at *
  have hnl : ∀ {i j : Nat}, i < n → j ∈ callN c i → j < n ∧ True := fun {i j} _ hj => by rw [hcn] at hj; exact ⟨(mem_setL.1 hj).1, trivial⟩
  have hnxl : ∀ x, (callN c x).length ≤ n := fun x => by rw [hcn]; exact setL_len
  refine op_makeB h8.2 (by omega) fun w2 hx2 hM2 => ?_
  have hs1 := hx1.size
  have hs2 := hx2.size
  refine rd_elt (α := Bool) rfl u72 ty4 ha ?_
  refine opu_elt (α := Bool) rfl ty4 hM2 (by simp) ha mine_boolT fun w2b hc2 hM2b => ?_
  have hc2' : ChgI w1.heap.size (w1.heap.size + 1) w2 w2b := hc2.toI fun b hb => by simp only [List.mem_cons, List.not_mem_nil, or_false] at hb; omega
  have hs2b := hc2'.size
  have hM0l : ((List.replicate n false).set a true).length = n := by simp
  have hM0 : ∀ i, mkd ((List.replicate n false).set a true) i ↔ i = a := fun i => by
    rw [mkd_set (by simp; exact ha)]
    exact ⟨fun h => h.resolve_left mkd_replicate, .inr⟩
  generalize (List.replicate n false).set a true = M0 at *
  refine op_build1R (x := (a : Int)) u23 ty3 z3 (by decide) (mine_int (by unfold I64; omega)) fun v15 w3 hx3 hr3 => ?_
  have hs3 := hx3.size
  generalize hm : w1.heap.size = m at *
  have hW3 : WI w1 w3 m n w2b.heap.size w3.heap.size v15 [a] M0 := ⟨(hx2.toI.trans hc2').trans hx3.toI, hr3, hM2b.ext hx3, by omega, by have := hM2b.lt m (by simp); omega, hs3, Nat.le_refl _⟩
  generalize callN c = nx at *
  refine loopC (1 + n) (fun h us w' => ∃ (tv : Value) (lo hi : Nat) (L : List Nat) (ms : List Bool), us = [tv, .int .i64 (h : Int)] ∧ h ≤ L.length ∧ WI w1 w' m n lo hi tv L ms ∧ SInv nx n a M0 ms (L.drop h) h) 0 (Nat.zero_le _) ⟨v15, _, _, [a], _, rfl, by simp, hW3, SInv.start hM0l ha⟩ ?_
  rintro h mk u w4 hkm ⟨tv, lo, hi, L, ms, hu, hhL, hW4, hS4⟩
  simp only [List.map_cons, List.map_nil, List.cons.injEq, and_true] at hu
  obtain ⟨hu1, hu2⟩ := hu
  rw [hu1, hu2]
  have hb4 := hS4.bound
  rw [List.length_drop] at hb4
  refine rd_len u23 hW4.row.is ?_
  rw [ints_len]
  refine rd_lss ?_
  refine br (fun hlt => ?_) (fun hge => ?_)
  case refine_2 =>
    have hhe : h = L.length := by omega
    rw [hhe, List.drop_length] at hS4
    have hfin := hS4.fin fun i hi hne => absurd ((hM0 i).1 hi) hne
    have hms : ms = setB n (fun i => i = a ∨ RP nx a i) := marks_setB hS4.len fun i hi => by rw [hfin i, hM0]
    rw [← hms]
    have hx4 : Ext w1 w4 := (Ext.refl w1).chgI hW4.chg (by omega)
    exact ⟨hx1.trans hx4, m, rfl, by omega, hW4.mks⟩
  have hh : h < L.length := by omega
  have hx5 := ext_drew w4
  have hW5 := hW4.step hx5
  generalize World.drew1 w4 = w5 at *
  have hxa : ∀ {w : World} {lo hi tv L ms}, WI w1 w m n lo hi tv L ms → Ext w1 w := fun h => (Ext.refl w1).chgI h.chg (by omega)
  refine rd_load ty35 hA (hxa hW5) fun v22 h22 => ?_
  refine rd_indexN u23 ty3 (i := h) hW5.row.is (by rw [ints_len]; exact hh) fun b1 o1 hA1 => ?_
  rw [ints_get] at hA1
  refine rd_loadI ty3 hA1 (Ext.refl _) fun _ => ?_
  generalize hx : L[h] = x at *
  have hdr : L.drop h = x :: L.drop (h + 1) := by rw [List.drop_eq_getElem_cons hh, hx]
  have hxn : x < n := (hS4.tdo x (by rw [hdr]; simp)).2
  refine (l10Ops_ok h22 (hxa hW5) hc (by omega) (.inl rfl)).mono ?_
  rintro v27 w6 ⟨hx6, ho6⟩
  rw [hn, ← hcn] at ho6
  have hW6 := hW5.step hx6
  have hI6 := hW5.h3
  have hm6 := hW5.mks.lt m (by simp)
  have hS6 : SIn2 nx n a M0 ms (L.drop (h + 1)) h x 0 := hS4.pop (fun i => by rw [hdr]; simp [or_comm]) (by rw [hdr]; simp)
  have hl2 := hnxl x
  refine loopC (nx x).length (fun q us w' => ∃ (tv : Value) (lo hi : Nat) (L : List Nat) (ms : List Bool), us = [tv, .int .i64 (q : Int)] ∧ q ≤ (nx x).length ∧ h < L.length ∧ WI w1 w' m n lo hi tv L ms ∧ SIn2 nx n a M0 ms (L.drop (h + 1)) h x q ∧ OwnI w5.heap.size w6.heap.size w' v27 (ints (nx x)) ∧ (hi ≤ w5.heap.size ∨ w6.heap.size ≤ lo) ∧ w6.heap.size ≤ w'.heap.size) 0 (Nat.zero_le _) ⟨tv, lo, hi, L, ms, rfl, Nat.zero_le _, hh, hW6, hS6, ho6.toI, .inl hI6, Nat.le_refl _⟩ ?_
  rintro q mk8 u8 w7 hkm8 ⟨tv7, lo7, hi7, L7, ms7, hu8, hql, hh7, hW7, hS7, ho7, hd7, hz7⟩
  simp only [List.map_cons, List.map_nil, List.cons.injEq, and_true] at hu8
  obtain ⟨hu81, hu82⟩ := hu8
  rw [hu81, hu82]
  refine rd_len u23 ho7.is ?_
  rw [ints_len]
  refine rd_lss ?_
  refine br (fun hlt8 => ?_) (fun hge8 => ?_)
  case refine_2 =>
    refine rd_inc (by omega) ?_
    exact ⟨mk - 1, by omega, h + 1, by omega, tv7, lo7, hi7, L7, ms7, rfl, by omega, hW7, hS7.done (by omega)⟩
  have hq : q < (nx x).length := by omega
  have hrd : ∀ {w : World} {K : Value → Prop} (ho : OwnI w5.heap.size w6.heap.size w v27 (ints (nx x))) (k : K (.int .i64 (((nx x)[q] : Nat) : Int))), RD Tryz.prog (Instr.indexAt 23 v27 (.int .i64 (q : Int))) w fun x37 => RD Tryz.prog (Instr.loadAt 3 x37) w K := fun ho k => by
    refine rd_indexN u23 ty3 (i := q) ho.is (by rw [ints_len]; exact hq) fun b1 o1 hA1 => ?_
    rw [ints_get] at hA1
    exact rd_loadI ty3 hA1 (Ext.refl _) fun _ => k
  have hy := hnl hxn (List.getElem_mem hq)
  refine hrd ho7 ?_
  have hlen7 := hS7.len
  refine rd_indexN u72 ty4 hW7.mks.is (by rw [hlen7]; exact hy.1) fun b2 o2 hA2 => ?_
  refine rd_loadB ty4 hA2 (Ext.refl _) ?_
  refine rd_not ?_
  have hmk7 := mkd_get (ms := ms7) (i := (nx x)[q]) (by rw [hlen7]; exact hy.1)
  refine br_b (fun hf => ?_) (fun hf => ?_)
  · have hnm : ¬ mkd ms7 (nx x)[q] := by rw [hmk7]; simpa using hf
    refine hrd ho7 ?_
    refine rd_elt (α := Bool) rfl u72 ty4 hy.1 ?_
    refine opu_elt (α := Bool) rfl ty4 hW7.mks hlen7 hy.1 mine_boolT fun w8 hc8 hm8 => ?_
    have hW8 := hW7.mark hc8 hm8
    have hc8' : ChgI m (m + 1) w7 w8 := hc8.toI fun b hb => by simp only [List.mem_cons, List.not_mem_nil, or_false] at hb; omega
    have ho8 := ho7.chg hc8' (by omega)
    refine hrd ho8 ?_
    have hS8 := hS7.push hq hy.1 hnm
    generalize (nx x)[q] = y at *
    have hLb : L7.length ≤ 2 + n := by
      have h1 := hS7.cnt
      have h2 := cntM_le ms7
      rw [List.length_drop] at h1
      omega
    refine op_pushD1 (x := (y : Int)) u23 ty3 z3 zc3 (by decide) hW8.row (ownI_int 0 0 (by unfold I64; omega)) (by rw [maxLen_eq, ints_len]; omega) (by rw [ints_len]; omega) fun v54 w9 lo9 hi9 hc9 hr9 hd9 => ?_
    have hW9 := hW8.push hc9 hr9 hd9
    have hsz8 := hc8'.size
    have hsz7 := ho7.is
    refine rd_inc (by omega) ?_
    refine ⟨mk8 - 1, by omega, q + 1, by omega, v54, lo9, hi9, L7 ++ [y], _, rfl, by omega, by simp; omega, hW9, ?_, ho8.chg hc9 (by omega), by omega, by have := hc9.size; omega⟩
    rw [List.drop_append_of_le_length (by omega)]
    exact hS8
  · have hnm : mkd ms7 (nx x)[q] := by rw [hmk7]; simpa using hf
    refine rd_inc (by omega) ?_
    exact ⟨mk8 - 1, by omega, q + 1, by omega, tv7, lo7, hi7, L7, ms7, rfl, by omega, hh7, hW7, hS7.skip hq hnm, ho7, hd7, hz7⟩
end Go.Proofs.YtjgfldfbljmhhaaGreat
namespace Go.Proofs.YtjgfldfbljmhhaaGreat
open Go Go.Sh Go.Proofs
set_option linter.unusedVariables false
set_option linter.unusedSimpArgs false
/-- a set of locks by bits -/
noncomputable def m6 (p : Nat → Prop) : Nat := setN p 6
theorem m6_bit {p : Nat → Prop} {l : Nat} : (m6 p).testBit l = true ↔ l < 6 ∧ p l := setN_bit
theorem m6_lt {p : Nat → Prop} : m6 p < 64 := setN_lt (n := 6)
theorem bit_lt6 {m l : Nat} (h : m < 64) (hb : m.testBit l = true) : l < 6 := Decidable.byContradiction fun hc => by
  have := Nat.testBit_lt_two_pow (Nat.lt_of_lt_of_le (show m < 2 ^ 6 from h) (Nat.pow_le_pow_right (by omega) (by omega : 6 ≤ l)))
  rw [this] at hb; cases hb
theorem eq_m6 {m : Nat} {p : Nat → Prop} (h : m < 64) (hb : ∀ l, l < 6 → (m.testBit l = true ↔ p l)) : m = m6 p :=
  eq_setN fun l => ⟨fun e => ⟨bit_lt6 h e, (hb l (bit_lt6 h e)).1 e⟩, fun e => (hb l e.1).2 e.2⟩
theorem m6_congr {p q : Nat → Prop} (h : ∀ l, l < 6 → (p l ↔ q l)) : m6 p = m6 q := setN_congr h
theorem bit_of_not {m l : Nat} (h : ¬ m.testBit l = false) : m.testBit l = true := by simpa using h
/-- a number of a list -/
def nat0 (l : List Nat) (i : Nat) : Nat := l.getD i 0
theorem nat0_get {l : List Nat} {i : Nat} (h : i < l.length) : l[i] = nat0 l i := by unfold nat0; rw [List.getD_eq_getElem?_getD, List.getElem?_eq_getElem h]; rfl
theorem nat0_set {l : List Nat} {i j v : Nat} (hi : i < l.length) : nat0 (l.set i v) j = if i = j then v else nat0 l j := by
  unfold nat0
  rw [List.getD_eq_getElem?_getD, List.getD_eq_getElem?_getD, List.getElem?_set]
  by_cases h : i = j
  · subst h; simp [hi]
  · simp [h]
theorem sum_set : ∀ {l : List Nat} {i v : Nat}, i < l.length → (l.set i v).sum + nat0 l i = l.sum + v
  | x :: l, 0, v, _ => by simp [nat0]; omega
  | x :: l, i + 1, v, h => by
    have := sum_set (l := l) (i := i) (v := v) (by simpa using h)
    simp only [nat0, List.set_cons_succ, List.sum_cons, List.getD_cons_succ] at this ⊢
    omega
theorem ints_set (l : List Nat) (i v : Nat) : ints (l.set i v) = (ints l).set i (v : Int) := by simp [ints, List.map_set]
theorem sum_le {l : List Nat} {b : Nat} (h : ∀ x ∈ l, x ≤ b) : l.sum ≤ l.length * b := by
  induction l with
  | nil => simp
  | cons x l ih =>
    have h1 := ih fun y hy => h y (by simp [hy])
    have h2 := h x (by simp)
    rw [List.sum_cons, List.length_cons, Nat.add_mul]; omega
theorem nat0_mem {l : List Nat} {i : Nat} (h : i < l.length) : nat0 l i ∈ l := by rw [← nat0_get h]; exact List.getElem_mem h
theorem ints_nat0 {l : List Nat} {i : Nat} (h : i < (ints l).length) : (ints l)[i] = (nat0 l i : Int) := by rw [ints_get, nat0_get]
/-- the first place of a procedure, and its last; what an instruction is, and what it names -/
def eN (c : DCode) (p : Nat) : Nat := (en c p).toNat
def zN (c : DCode) (p : Nat) : Nat := (endB c p - 1).toNat
def agN (c : DCode) (i : Nat) : Nat := (insAt c i).arg.toNat
theorem eN_eq {c : DCode} (hc : CodeR c) {p : Nat} (hp : p < c.entry.length) : en c p = (eN c p : Int) ∧ eN c p < c.ins.length ∧ procOf c (eN c p) = p := by
  have h := proc_en hc hp
  unfold eN
  rw [Int.toNat_of_nonneg h.1]
  exact ⟨rfl, by omega, h.2.2⟩
theorem zN_eq {c : DCode} (hc : CodeR c) {p : Nat} (hp : p < c.entry.length) : endB c p = (zN c p : Int) + 1 ∧ eN c p ≤ zN c p ∧ zN c p < c.ins.length := by
  have h1 := hc.f.lt p hp
  have h2 := hc.f.nonneg hp
  have h4 := hc.f.lt p hp
  have h5 : endB c p ≤ c.ins.length := h4.2
  unfold zN eN
  omega
theorem live_lt {c : DCode} (hc : CodeR c) {p i : Nat} (hp : p < c.entry.length) (h : LiveP c p i) : i < c.ins.length ∧ procOf c i = p := by
  have he := eN_eq hc hp
  rcases h with rfl | h
  · exact ⟨he.2.1, he.2.2⟩
  · refine h.keeps (p := fun i => i < c.ins.length ∧ procOf c i = p) ⟨he.2.1, he.2.2⟩ fun i j hi hj => ?_
    have := nextN_lt hc hi.1 hj
    exact ⟨this.1, this.2.trans hi.2⟩
theorem live_next {c : DCode} {p i j : Nat} (h : LiveP c p i) (hj : j ∈ nextN c i) : LiveP c p j := by
  rcases h with rfl | h
  · exact .inr (.one hj)
  · exact .inr (.more h hj)
theorem in_proc {c : DCode} (hc : CodeR c) {p i : Nat} (hi : i < c.ins.length) (hp : p < c.entry.length) (h : procOf c i = p) : eN c p ≤ i ∧ i ≤ zN c p := by
  obtain ⟨q, hq, h1, h2, h3⟩ := hc.f.find hc.1.procs8.2 (a := (i : Int)) (by omega) (by omega)
  have : q = p := by omega
  subst this
  have h4 := zN_eq hc hp
  have h5 := eN_eq hc hp
  omega
theorem proc_in {c : DCode} (hc : CodeR c) {p i : Nat} (hp : p < c.entry.length) (h1 : eN c p ≤ i) (h2 : i ≤ zN c p) : procOf c i = p := by
  have h4 := zN_eq hc hp
  have h5 := eN_eq hc hp
  exact hc.f.proc hp (by omega) (by omega)
/-- the argument of a call or start; of a lock -/
theorem ag_proc {c : DCode} (hc : CodeR c) {i : Nat} (hi : i < c.ins.length) (ho : (insAt c i).op = 4 ∨ (insAt c i).op = 5) : (insAt c i).arg = (agN c i : Int) ∧ agN c i < c.procs.length := by
  have harg := (ins_right hc hi).2.1
  unfold argMost at harg
  rw [if_neg (by omega), if_pos (by omega)] at harg
  unfold agN
  omega
theorem ag_lock {c : DCode} (hc : CodeR c) {i : Nat} (hi : i < c.ins.length) (ho : (insAt c i).op = 6 ∨ (insAt c i).op = 7) : (insAt c i).arg = (agN c i : Int) ∧ agN c i < c.locks.length ∧ agN c i < 6 := by
  have h := lock_arg hc hi ho
  have h6 := hc.1.locks6
  unfold agN
  omega
/-- what an instruction loses, whatever was held; what is lost behind it where it was lost ahead of it -/
def genX (c : DCode) (K G : Nat → Nat → Prop) (i l : Nat) : Prop := ((insAt c i).op = 7 ∧ agN c i = l) ∨ ((insAt c i).op = 4 ∧ ¬ K (agN c i) l ∧ ¬ G (agN c i) l)
def passX (c : DCode) (G : Nat → Nat → Prop) (i l : Nat) : Prop := ¬ ((insAt c i).op = 6 ∧ agN c i = l) ∧ ¬ ((insAt c i).op = 4 ∧ G (agN c i) l)
/-- what may be lost at a place of a procedure that begins with h -/
inductive LostP (c : DCode) (K G : Nat → Nat → Prop) (p : Nat) (h : Nat → Prop) : Nat → Nat → Prop
  | ent {l : Nat} (h0 : ¬ h l) : LostP c K G p h (eN c p) l
  | gen {i j l : Nat} (h0 : LiveP c p i) (hj : j ∈ nextN c i) (h1 : genX c K G i l) : LostP c K G p h j l
  | pass {i j l : Nat} (h0 : LiveP c p i) (hj : j ∈ nextN c i) (h1 : LostP c K G p h i l) (h2 : passX c G i l) : LostP c K G p h j l
theorem LostP.mono {c : DCode} {K K' G G' : Nat → Nat → Prop} {p : Nat} {h h' : Nat → Prop} (hK : ∀ q l, K' q l → K q l) (hG : ∀ q l, G' q l → G q l) (hh : ∀ l, h' l → h l) {i l : Nat} (hl : LostP c K G p h i l) : LostP c K' G' p h' i l := by
  induction hl with
  | ent h0 => exact .ent fun e => h0 (hh _ e)
  | gen h0 hj h1 => exact .gen h0 hj (h1.imp id fun ⟨a, b, d⟩ => ⟨a, fun e => b (hK _ _ e), fun e => d (hG _ _ e)⟩)
  | pass h0 hj _ h2 ih => exact .pass h0 hj ih ⟨h2.1, fun ⟨a, b⟩ => h2.2 ⟨a, hG _ _ b⟩⟩
/-- a table: what each procedure keeps, and what it takes -/
abbrev Tab := List (Nat × Nat)
def tbl (T : Tab) (q : Nat) : Nat × Nat := T.getD q (0, 0)
def tK (T : Tab) (q l : Nat) : Prop := (tbl T q).1.testBit l = true
def tG (T : Tab) (q l : Nat) : Prop := (tbl T q).2.testBit l = true
theorem tbl_get {T : Tab} {q : Nat} (h : q < T.length) : T[q] = tbl T q := by unfold tbl; rw [List.getD_eq_getElem?_getD, List.getElem?_eq_getElem h]; rfl
theorem tbl_set {T : Tab} {q r : Nat} {v : Nat × Nat} (h : q < T.length) : tbl (T.set q v) r = if q = r then v else tbl T r := by
  unfold tbl
  rw [List.getD_eq_getElem?_getD, List.getD_eq_getElem?_getD, List.getElem?_set]
  by_cases e : q = r
  · subst e; simp [h]
  · simp [e]
def TabR (c : DCode) (T : Tab) : Prop := T.length = c.procs.length ∧ ∀ q, (tbl T q).1 < 64 ∧ (tbl T q).2 < 64
/-- what is held behind an instruction -/
def aft (c : DCode) (T : Tab) (i m : Nat) : Nat :=
  if (insAt c i).op = 6 then m ||| 2 ^ agN c i else if (insAt c i).op = 7 then andN m (2 ^ agN c i) else if (insAt c i).op = 4 then (m &&& (tbl T (agN c i)).1) ||| (tbl T (agN c i)).2 else m
theorem aft_lt {c : DCode} {T : Tab} (hc : CodeR c) (hT : TabR c T) {i m : Nat} (hi : i < c.ins.length) (hm : m < 64) : aft c T i m < 64 := by
  unfold aft
  split
  · rename_i h
    exact or_lt6 hm (ag_lock hc hi (.inl h)).2.2
  · split
    · exact Nat.lt_of_le_of_lt (andN_le _ _) hm
    · split
      · exact Nat.or_lt_two_pow (n := 6) (Nat.lt_of_le_of_lt Nat.and_le_left hm) (hT.2 _).2
      · exact hm
theorem aft_bit {c : DCode} {T : Tab} {i m l : Nat} : (aft c T i m).testBit l = false ↔ genX c (tK T) (tG T) i l ∨ (passX c (tG T) i l ∧ m.testBit l = false) := by
  unfold aft genX passX tK tG
  split
  · rename_i h
    rw [Nat.testBit_or, Nat.testBit_two_pow]
    have e6 : ((insAt c i).op = 6) = True := eq_true h
    have e4 : ((insAt c i).op = 4) = False := eq_false (by omega)
    have e7 : ((insAt c i).op = 7) = False := eq_false (by omega)
    simp only [e6, e4, e7, true_and, false_and, false_or, or_false, not_false_eq_true, and_true, Bool.or_eq_false_iff, decide_eq_false_iff_not]
    exact ⟨fun ⟨a, b⟩ => ⟨b, a⟩, fun ⟨a, b⟩ => ⟨b, a⟩⟩
  · rename_i h6
    have e6 : ((insAt c i).op = 6) = False := eq_false h6
    split
    · rename_i h
      have e7 : ((insAt c i).op = 7) = True := eq_true h
      have e4 : ((insAt c i).op = 4) = False := eq_false (by omega)
      rw [andN_bit, Nat.testBit_two_pow]
      simp only [e6, e4, e7, true_and, false_and, false_or, or_false, not_false_eq_true, and_true, Bool.and_eq_false_iff, Bool.not_eq_false', decide_eq_true_eq]
      exact ⟨fun h => h.elim .inr .inl, fun h => h.elim .inr .inl⟩
    · rename_i h7
      have e7 : ((insAt c i).op = 7) = False := eq_false h7
      split
      · rename_i h
        have e4 : ((insAt c i).op = 4) = True := eq_true h
        rw [Nat.testBit_or, Nat.testBit_and]
        simp only [e6, e4, e7, true_and, false_and, false_or, not_false_eq_true]
        cases (tbl T (agN c i)).1.testBit l <;> cases (tbl T (agN c i)).2.testBit l <;> cases m.testBit l <;> simp
      · rename_i h4
        simp [h6, h7, h4]
/-- what is held for sure ahead of each place -/
noncomputable def flowN (c : DCode) (T : Tab) (p h : Nat) : List Nat := (List.range c.ins.length).map fun i => m6 fun l => ¬ LostP c (tK T) (tG T) p (fun l => h.testBit l = true) i l
theorem flowN_len (c : DCode) (T : Tab) (p h : Nat) : (flowN c T p h).length = c.ins.length := by simp [flowN]
theorem flowN_at {c : DCode} {T : Tab} {p h i : Nat} (hi : i < c.ins.length) : nat0 (flowN c T p h) i = m6 fun l => ¬ LostP c (tK T) (tG T) p (fun l => h.testBit l = true) i l := by
  rw [← nat0_get (by rw [flowN_len]; exact hi)]; simp [flowN]
theorem flowN_lt {c : DCode} {T : Tab} {p h : Nat} : ∀ x ∈ flowN c T p h, x < 64 := fun x hx => by
  unfold flowN at hx
  obtain ⟨i, _, rfl⟩ := List.mem_map.1 hx
  exact m6_lt
/-- while it is found -/
structure FL (c : DCode) (T : Tab) (p h : Nat) (out : List Nat) : Prop where
  len : out.length = c.ins.length
  lt : ∀ x ∈ out, x < 64
  snd : ∀ i l, i < c.ins.length → l < 6 → (nat0 out i).testBit l = false → LostP c (tK T) (tG T) p (fun l => h.testBit l = true) i l
  ent : ∀ l, l < 6 → h.testBit l = false → (nat0 out (eN c p)).testBit l = false
theorem FL.lt0 {c : DCode} {T : Tab} {p h : Nat} {out : List Nat} (h : FL c T p h out) (i : Nat) : nat0 out i < 64 := by
  rcases Nat.lt_or_ge i out.length with hi | hi
  · exact h.lt _ (nat0_mem hi)
  · unfold nat0; rw [List.getD_eq_getElem?_getD, List.getElem?_eq_none hi]; simp
theorem full_bit {l : Nat} (h : l < 6) : (63 : Nat).testBit l = true := by
  have : l = 0 ∨ l = 1 ∨ l = 2 ∨ l = 3 ∨ l = 4 ∨ l = 5 := by omega
  rcases this with rfl | rfl | rfl | rfl | rfl | rfl <;> rfl
theorem FL.start {c : DCode} {T : Tab} {p h : Nat} (hc : CodeR c) (hp : p < c.entry.length) (hh : h < 64) : FL c T p h ((List.replicate c.ins.length 63).set (eN c p) h) := by
  have he := (eN_eq hc hp).2.1
  have hr : (List.replicate c.ins.length 63).length = c.ins.length := by simp
  have hg : ∀ i, i < c.ins.length → nat0 (List.replicate c.ins.length 63) i = 63 := fun i hi => by rw [← nat0_get (by rw [hr]; exact hi)]; simp
  refine ⟨by simp, fun x hx => ?_, fun i l hi hl hb => ?_, fun l hl hb => ?_⟩
  · rcases mem_set hx with rfl | hx
    · exact hh
    · rw [(List.mem_replicate.1 hx).2]; omega
  · rw [nat0_set (by rw [hr]; exact he)] at hb
    split at hb
    · rename_i e
      subst e
      exact .ent (by rw [hb]; simp)
    · rw [hg i hi, full_bit hl] at hb; cases hb
  · rw [nat0_set (by rw [hr]; exact he), if_pos rfl]; exact hb
theorem FL.upd {c : DCode} {T : Tab} {p h : Nat} {out : List Nat} (hF : FL c T p h out) (hc : CodeR c) (hp : p < c.entry.length) (hT : TabR c T) {i j : Nat} (hi : LiveP c p i) (hj : j ∈ nextN c i) :
    FL c T p h (out.set j (nat0 out j &&& aft c T i (nat0 out i))) := by
  have hil := (live_lt hc hp hi).1
  have hjl := (nextN_lt hc hil hj).1
  refine ⟨by simp [hF.len], fun x hx => ?_, fun k l hk hl hb => ?_, fun l hl hb => ?_⟩
  · rcases mem_set hx with rfl | hx
    · exact Nat.lt_of_le_of_lt Nat.and_le_left (hF.lt0 j)
    · exact hF.lt x hx
  · rw [nat0_set (by rw [hF.len]; exact hjl)] at hb
    split at hb
    · rename_i e
      subst e
      rw [Nat.testBit_and, Bool.and_eq_false_iff] at hb
      rcases hb with hb | hb
      · exact hF.snd j l hk hl hb
      · rcases aft_bit.1 hb with h1 | ⟨h1, h2⟩
        · exact .gen hi hj h1
        · exact .pass hi hj (hF.snd i l hil hl h2) h1
    · exact hF.snd k l hk hl hb
  · rw [nat0_set (by rw [hF.len]; exact hjl)]
    split
    · rename_i e
      rw [Nat.testBit_and, e, hF.ent l hl hb]; rfl
    · exact hF.ent l hl hb
theorem and_lt {a b : Nat} (h : a &&& b ≠ a) : a &&& b < a := by
  have : a &&& b ≤ a := Nat.and_le_left
  omega
/-- nothing more is lost at a place's next ones -/
def Shut (c : DCode) (T : Tab) (out : List Nat) (i : Nat) : Prop := ∀ j ∈ nextN c i, nat0 out j &&& aft c T i (nat0 out i) = nat0 out j
theorem FL.fin {c : DCode} {T : Tab} {p h : Nat} {out : List Nat} (hF : FL c T p h out) (hc : CodeR c) (hp : p < c.entry.length) (hs : ∀ i, LiveP c p i → Shut c T out i) : out = flowN c T p h := by
  refine List.ext_getElem (by rw [hF.len, flowN_len]) fun i h1 h2 => ?_
  rw [nat0_get h1, nat0_get h2, flowN_at (by rw [← hF.len]; exact h1)]
  refine eq_m6 (hF.lt0 i) fun l hl => ⟨fun hb hn => ?_, fun hn => bit_of_not fun hb => hn (hF.snd i l (by rw [← hF.len]; exact h1) hl hb)⟩
  have key : ∀ {i l : Nat}, LostP c (tK T) (tG T) p (fun l => h.testBit l = true) i l → l < 6 → (nat0 out i).testBit l = false := fun {i l} hn => by
    induction hn with
    | ent h0 => exact fun hl => hF.ent _ hl (by simpa using h0)
    | gen h0 hj h1 =>
      intro hl
      rw [← hs _ h0 _ hj, Nat.testBit_and, aft_bit.2 (.inl h1), Bool.and_false]
    | pass h0 hj _ h2 ih =>
      intro hl
      rw [← hs _ h0 _ hj, Nat.testBit_and, aft_bit.2 (.inr ⟨h2, ih hl⟩), Bool.and_false]
  rw [key hn hl] at hb; cases hb
end Go.Proofs.YtjgfldfbljmhhaaGreat
