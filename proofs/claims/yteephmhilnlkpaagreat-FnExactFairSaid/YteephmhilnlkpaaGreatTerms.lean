/-
  Terms: the program's and the reference's tests; names that are read; lists of names.
-/
import Derived.Test.YteephmhilnlkpaaGreatNames
import Derived.Test.YteephmhilnlkpaaGreatRow
namespace Go.Proofs.YteephmhilnlkpaaGreat
open Go Go.Sh Go.Proofs
set_option linter.unusedVariables false
set_option linter.unusedSimpArgs false

/-- is it a right term, with so much room? -/
def termOk : Nat → DTerm → Bool
  | n, .mk k num s ks =>
    if k = 1 then decide (0 ≤ num ∧ num ≤ 1000000000) && decide (s = ByteArray.mk #[]) && decide ((ks.length : Int) = 0)
    else if k = 2 then decide (num = 0) && nameB s && decide ((ks.length : Int) = 0)
    else decide (3 ≤ k ∧ k ≤ 9) && decide (num = 0) && decide (s = ByteArray.mk #[]) && decide ((ks.length : Int) = if k = 8 then 1 else 2) &&
      (match n with | 0 => false | m + 1 => ks.all (termOk m))
theorem termOk_1 {n : Nat} {t : DTerm} (h : t.kind = 1) : termOk n t = (decide (0 ≤ t.num ∧ t.num ≤ 1000000000) && decide (t.name = ByteArray.mk #[]) && decide ((t.kids.length : Int) = 0)) := by
  obtain ⟨k, num, s, ks⟩ := t
  have : k = 1 := h
  unfold termOk; rw [if_pos this]; rfl
theorem termOk_2 {n : Nat} {t : DTerm} (h : t.kind = 2) : termOk n t = (decide (t.num = 0) && nameB t.name && decide ((t.kids.length : Int) = 0)) := by
  obtain ⟨k, num, s, ks⟩ := t
  have : k = 2 := h
  unfold termOk; rw [if_neg (by omega), if_pos this]; rfl
theorem termOk_3 {n : Nat} {t : DTerm} (h1 : ¬ t.kind = 1) (h2 : ¬ t.kind = 2) : termOk n t =
    (decide (3 ≤ t.kind ∧ t.kind ≤ 9) && decide (t.num = 0) && decide (t.name = ByteArray.mk #[]) && decide ((t.kids.length : Int) = if t.kind = 8 then 1 else 2) && (match n with | 0 => false | m + 1 => t.kids.all (termOk m))) := by
  obtain ⟨k, num, s, ks⟩ := t
  have h1 : ¬ k = 1 := h1
  have h2 : ¬ k = 2 := h2
  unfold termOk; rw [if_neg h1, if_neg h2]; rfl
theorem all_take {α : Type} {p : α → Bool} {l : List α} {k : Nat} (hk : k < l.length) (h : (l.take k).all p = true) (hp : p l[k] = true) : (l.take (k + 1)).all p = true := by
  rw [List.take_succ_eq_append_getElem hk, List.all_append, h]; simp [hp]
theorem all_false {α : Type} {p : α → Bool} {l : List α} {k : Nat} (hk : k < l.length) (hp : p l[k] = false) : l.all p = false := by
  rw [List.all_eq_false]; exact ⟨_, List.getElem_mem hk, by simp [hp]⟩
theorem all_done {α : Type} {p : α → Bool} {l : List α} {k : Nat} (hk : l.length ≤ k) (h : (l.take k).all p = true) : l.all p = true := by
  rwa [List.take_of_length_le hk] at h

def Fits (f : Nat) (n : Nat) : Prop := ∀ {w W : World} {v : Value} {t : DTerm} {d : Int}, Is W v t → Ext W w → d = (n : Int) →
  CALL Tryz.prog f [v, .int .i64 d] w fun r w' => Ext w w' ∧ r = .bool (termOk n t)
/-- impl.termFits -/
def F255 (a0 a1 : Value) (w : World) (R : Value → World → Prop) : Prop :=
  OP Tryz.prog (Instr.box 133 a0) w fun x2 w =>
  JOIN [] (fun J18 =>
   RD Tryz.prog (Instr.fieldAt 133 x2 0) w fun x7 =>
   RD Tryz.prog (Instr.loadAt 3 x7) w fun x8 =>
   RD Tryz.prog (bin .eql 3 (.tmp 0) (.const undef) x8 (Value.int .i64 1)) w fun x10 =>
   BR x10
    (RD Tryz.prog (Instr.fieldAt 133 x2 1) w fun x11 =>
    RD Tryz.prog (Instr.loadAt 3 x11) w fun x12 =>
    RD Tryz.prog (bin .geq 3 (.tmp 0) (.const undef) x12 (Value.int .i64 0)) w fun x13 =>
    BR x13
    (RD Tryz.prog (Instr.fieldAt 133 x2 1) w fun x15 =>
    RD Tryz.prog (Instr.loadAt 3 x15) w fun x16 =>
    RD Tryz.prog (bin .leq 3 (.tmp 0) (.const undef) x16 (Value.int .i64 1000000000)) w fun x17 =>
    BR x17
    (RD Tryz.prog (Instr.fieldAt 133 x2 2) w fun x20 =>
    RD Tryz.prog (Instr.loadAt 9 x20) w fun x21 =>
    RD Tryz.prog (bin .eql 9 (.tmp 0) (.const undef) x21 (Value.string (ByteArray.mk #[]))) w fun x22 =>
    BR x22
    (RD Tryz.prog (Instr.fieldAt 133 x2 3) w fun x25 =>
    RD Tryz.prog (Instr.loadAt 131 x25) w fun x26 =>
    RD Tryz.prog (Builtin.len_ #[131] 3 [x26].toArray) w fun x27 =>
    RD Tryz.prog (bin .eql 3 (.tmp 0) (.const undef) x27 (Value.int .i64 0)) w fun x28 =>
    R x28 w)
    (R (Value.bool false) w))
    (R (Value.bool false) w))
    (R (Value.bool false) w))
    (RD Tryz.prog (bin .eql 3 (.tmp 0) (.const undef) x8 (Value.int .i64 2)) w fun x31 =>
    BR x31
     (RD Tryz.prog (Instr.fieldAt 133 x2 1) w fun x32 =>
     RD Tryz.prog (Instr.loadAt 3 x32) w fun x33 =>
     RD Tryz.prog (bin .eql 3 (.tmp 0) (.const undef) x33 (Value.int .i64 0)) w fun x34 =>
     BR x34
     (RD Tryz.prog (Instr.fieldAt 133 x2 2) w fun x36 =>
     RD Tryz.prog (Instr.loadAt 9 x36) w fun x37 =>
     CALL Tryz.prog 254 [x37] w fun x38 w =>
     BR x38
     (RD Tryz.prog (Instr.fieldAt 133 x2 3) w fun x41 =>
     RD Tryz.prog (Instr.loadAt 131 x41) w fun x42 =>
     RD Tryz.prog (Builtin.len_ #[131] 3 [x42].toArray) w fun x43 =>
     RD Tryz.prog (bin .eql 3 (.tmp 0) (.const undef) x43 (Value.int .i64 0)) w fun x44 =>
     R x44 w)
     (R (Value.bool false) w))
     (R (Value.bool false) w))
     (RD Tryz.prog (bin .eql 3 (.tmp 0) (.const undef) x8 (Value.int .i64 3)) w fun x47 =>
     BR x47
      (RD Tryz.prog (Instr.fieldAt 133 x2 3) w fun x53 =>
       RD Tryz.prog (Instr.loadAt 131 x53) w fun x54 =>
       RD Tryz.prog (Builtin.len_ #[131] 3 [x54].toArray) w fun x55 =>
       RD Tryz.prog (bin .neq 3 (.tmp 0) (.const undef) x55 (Value.int .i64 2)) w fun x56 =>
       BR x56
        (R (Value.bool false) w)
        (J18 [] w))
      (RD Tryz.prog (bin .eql 3 (.tmp 0) (.const undef) x8 (Value.int .i64 4)) w fun x48 =>
      BR x48
       (RD Tryz.prog (Instr.fieldAt 133 x2 3) w fun x53 =>
        RD Tryz.prog (Instr.loadAt 131 x53) w fun x54 =>
        RD Tryz.prog (Builtin.len_ #[131] 3 [x54].toArray) w fun x55 =>
        RD Tryz.prog (bin .neq 3 (.tmp 0) (.const undef) x55 (Value.int .i64 2)) w fun x56 =>
        BR x56
         (R (Value.bool false) w)
         (J18 [] w))
       (RD Tryz.prog (bin .eql 3 (.tmp 0) (.const undef) x8 (Value.int .i64 5)) w fun x49 =>
       BR x49
        (RD Tryz.prog (Instr.fieldAt 133 x2 3) w fun x53 =>
         RD Tryz.prog (Instr.loadAt 131 x53) w fun x54 =>
         RD Tryz.prog (Builtin.len_ #[131] 3 [x54].toArray) w fun x55 =>
         RD Tryz.prog (bin .neq 3 (.tmp 0) (.const undef) x55 (Value.int .i64 2)) w fun x56 =>
         BR x56
          (R (Value.bool false) w)
          (J18 [] w))
        (RD Tryz.prog (bin .eql 3 (.tmp 0) (.const undef) x8 (Value.int .i64 6)) w fun x50 =>
        BR x50
         (RD Tryz.prog (Instr.fieldAt 133 x2 3) w fun x53 =>
          RD Tryz.prog (Instr.loadAt 131 x53) w fun x54 =>
          RD Tryz.prog (Builtin.len_ #[131] 3 [x54].toArray) w fun x55 =>
          RD Tryz.prog (bin .neq 3 (.tmp 0) (.const undef) x55 (Value.int .i64 2)) w fun x56 =>
          BR x56
           (R (Value.bool false) w)
           (J18 [] w))
         (RD Tryz.prog (bin .eql 3 (.tmp 0) (.const undef) x8 (Value.int .i64 7)) w fun x51 =>
         BR x51
          (RD Tryz.prog (Instr.fieldAt 133 x2 3) w fun x53 =>
           RD Tryz.prog (Instr.loadAt 131 x53) w fun x54 =>
           RD Tryz.prog (Builtin.len_ #[131] 3 [x54].toArray) w fun x55 =>
           RD Tryz.prog (bin .neq 3 (.tmp 0) (.const undef) x55 (Value.int .i64 2)) w fun x56 =>
           BR x56
            (R (Value.bool false) w)
            (J18 [] w))
          (RD Tryz.prog (bin .eql 3 (.tmp 0) (.const undef) x8 (Value.int .i64 9)) w fun x52 =>
          BR x52
           (RD Tryz.prog (Instr.fieldAt 133 x2 3) w fun x53 =>
           RD Tryz.prog (Instr.loadAt 131 x53) w fun x54 =>
           RD Tryz.prog (Builtin.len_ #[131] 3 [x54].toArray) w fun x55 =>
           RD Tryz.prog (bin .neq 3 (.tmp 0) (.const undef) x55 (Value.int .i64 2)) w fun x56 =>
           BR x56
            (R (Value.bool false) w)
            (J18 [] w))
           (RD Tryz.prog (bin .eql 3 (.tmp 0) (.const undef) x8 (Value.int .i64 8)) w fun x58 =>
           BR x58
            (RD Tryz.prog (Instr.fieldAt 133 x2 3) w fun x59 =>
            RD Tryz.prog (Instr.loadAt 131 x59) w fun x60 =>
            RD Tryz.prog (Builtin.len_ #[131] 3 [x60].toArray) w fun x61 =>
            RD Tryz.prog (bin .neq 3 (.tmp 0) (.const undef) x61 (Value.int .i64 1)) w fun x62 =>
            BR x62
             (R (Value.bool false) w)
             (J18 [] w))
            (R (Value.bool false) w)))))))))) (fun u18 w =>
   RD Tryz.prog (Instr.fieldAt 133 x2 1) w fun x63 =>
   RD Tryz.prog (Instr.loadAt 3 x63) w fun x64 =>
   RD Tryz.prog (bin .neq 3 (.tmp 0) (.const undef) x64 (Value.int .i64 0)) w fun x65 =>
   BR x65
   (R (Value.bool false) w)
   (RD Tryz.prog (Instr.fieldAt 133 x2 2) w fun x67 =>
   RD Tryz.prog (Instr.loadAt 9 x67) w fun x68 =>
   RD Tryz.prog (bin .neq 9 (.tmp 0) (.const undef) x68 (Value.string (ByteArray.mk #[]))) w fun x69 =>
   BR x69
   (R (Value.bool false) w)
   (RD Tryz.prog (bin .eql 3 (.tmp 0) (.const undef) a1 (Value.int .i64 0)) w fun x73 =>
   BR x73
    (R (Value.bool false) w)
    (RD Tryz.prog (Instr.fieldAt 133 x2 3) w fun x75 =>
    RD Tryz.prog (Instr.loadAt 131 x75) w fun x76 =>
    RD Tryz.prog (Builtin.len_ #[131] 3 [x76].toArray) w fun x77 =>
    LOOPI [78] [(Value.int .i64 0)] w fun u21 w next21 =>
     RD Tryz.prog (bin .lss 3 (.tmp 0) (.tmp 0) (u21 78) x77) w fun x79 =>
     BR x79
      (RD Tryz.prog (Instr.indexAt 131 x76 (u21 78)) w fun x80 =>
      RD Tryz.prog (Instr.loadAt 133 x80) w fun x81 =>
      OP Tryz.prog (Instr.alloc 133 true (.tuple #[])) w fun x6 w =>
      OPU Tryz.prog (Instr.storeAt 133 x6 x81) w fun w =>
      RD Tryz.prog (Instr.loadAt 133 x6) w fun x82 =>
      RD Tryz.prog (bin .sub 3 (.tmp 0) (.const undef) a1 (Value.int .i64 1)) w fun x84 =>
      CALL Tryz.prog 255 [x82, x84] w fun x85 w =>
      RD Tryz.prog (Op.unary .not x85) w fun x86 =>
      BR x86
       (R (Value.bool false) w)
       (RD Tryz.prog (bin .add 3 (.tmp 0) (.const undef) (u21 78) (Value.int .i64 1)) w fun x87 =>
       next21 [x87] w))
      (R (Value.bool true) w)))))
def cfg255 : Cfg := { ext := extL, joins := [(18, 9223372036854775696, [])], loops := [(21, 309182778366441411431104592, [78])], draws := [], pars := [] }
theorem F255_eq (a0 a1 : Value) (w : World) (R : Value → World → Prop) : vcF Tryz.prog cfg255 Tryz.f255 [a0, a1] w R = F255 a0 a1 w R := by kernel_rfl
theorem F255_call {a0 a1 : Value} {w : World} {R : Value → World → Prop} (h : F255 a0 a1 w R) : CALL Tryz.prog 255 [a0, a1] w R :=
  call_of (g := cfg255) ent mixed Tryz.func255 (Nat.le_of_ble_eq_true (by kernel_rfl)) (by kernel_rfl) (F255_eq a0 a1 w R ▸ h)


theorem termFits_step {w : World} {v0 : Value} {W0 : World} {t : DTerm} {d : Int} {n : Nat} (h0 : Is W0 v0 t) (e0 : Ext W0 w) (hd : d = (n : Int)) (ih : ∀ m, m + 1 = n → Fits 255 m) (hn : n ≤ 6) :
    CALL Tryz.prog 255 [v0, .int .i64 d] w fun r w' => Ext w w' ∧ (r = .bool (termOk n t)) := by
  refine F255_call ?_
  unfold F255
  refine op_boxS ty133 rfl h0 e0 fun w1_ hx1_ hA2 hV2 => ?_
  refine JOIN.mk (fun us w' => us = [] ∧ Ext w1_ w' ∧ (3 ≤ t.kind ∧ t.kind ≤ 9 ∧ (t.kids.length : Int) = (if t.kind = 8 then 1 else 2))) ?_ ?_
  · refine rd_fld fd133_0 ?_
    refine rd_loadI ty3 (at_DTerm_0 hA2) (Ext.refl w1_) fun hI8 => ?_
    refine rd_eql ?_
    refine br (fun c1 => ?_) (fun c1 => ?_)
    · refine rd_fld fd133_1 ?_
      refine rd_loadI ty3 (at_DTerm_1 hA2) (Ext.refl w1_) fun hI12 => ?_
      refine rd_geq ?_
      refine br (fun c2 => ?_) (fun c2 => ?_)
      · refine rd_fld fd133_1 ?_
        refine rd_loadI ty3 (at_DTerm_1 hA2) (Ext.refl w1_) fun hI16 => ?_
        refine rd_leq ?_
        refine br (fun c3 => ?_) (fun c3 => ?_)
        · refine rd_fld fd133_2 ?_
          refine rd_loadS ty9 (at_DTerm_2 hA2) (Ext.refl w1_) fun hS21 => ?_
          refine rd_eqlS ?_
          refine br (fun c4 => ?_) (fun c4 => ?_)
          · refine rd_fld fd133_3 ?_
            refine rd_load ty131 (at_DTerm_3 hA2) (Ext.refl w1_) fun v26 h26 => ?_
            have hln27 := is_len h26
            refine rd_len u131 h26 ?_
            refine rd_eql ?_
            refine ⟨hx1_, ?_⟩
            rw [termOk_1 c1]; simp only [c2, c3, c4, and_self, decide_true, Bool.true_and]
          · refine ⟨hx1_, ?_⟩
            rw [termOk_1 c1]; simp only [c4, decide_false, Bool.and_false, Bool.false_and]
        · refine ⟨hx1_, ?_⟩
          rw [termOk_1 c1]; simp only [c3, and_false, decide_false, Bool.false_and]
      · refine ⟨hx1_, ?_⟩
        rw [termOk_1 c1]; simp only [c2, false_and, decide_false, Bool.false_and]
    · refine rd_eql ?_
      refine br (fun c5 => ?_) (fun c5 => ?_)
      · refine rd_fld fd133_1 ?_
        refine rd_loadI ty3 (at_DTerm_1 hA2) (Ext.refl w1_) fun hI33 => ?_
        refine rd_eql ?_
        refine br (fun c6 => ?_) (fun c6 => ?_)
        · refine rd_fld fd133_2 ?_
          refine rd_loadS ty9 (at_DTerm_2 hA2) (Ext.refl w1_) fun hS37 => ?_
          refine (implIsName_ok ).mono ?_
          rintro _ w3_ ⟨hx3_, rfl⟩
          refine br_b (fun c7 => ?_) (fun c7 => ?_)
          · refine rd_fld fd133_3 ?_
            refine rd_load ty131 (at_DTerm_3 hA2) hx3_ fun v42 h42 => ?_
            have hln43 := is_len h42
            refine rd_len u131 h42 ?_
            refine rd_eql ?_
            refine ⟨(hx1_.trans hx3_), ?_⟩
            rw [termOk_2 c5]; simp only [c6, c7, decide_true, Bool.true_and]
          · refine ⟨(hx1_.trans hx3_), ?_⟩
            rw [termOk_2 c5]; simp only [c6, c7, decide_true, Bool.true_and, Bool.false_and]
        · refine ⟨hx1_, ?_⟩
          rw [termOk_2 c5]; simp only [c6, decide_false, Bool.false_and]
      · refine rd_eql ?_
        refine br (fun c8 => ?_) (fun c8 => ?_)
        · refine rd_fld fd133_3 ?_
          refine rd_load ty131 (at_DTerm_3 hA2) (Ext.refl w1_) fun v54 h54 => ?_
          have hln55 := is_len h54
          refine rd_len u131 h54 ?_
          refine rd_neq ?_
          refine br (fun c9 => ?_) (fun c9 => ?_)
          · refine ⟨hx1_, ?_⟩
            rw [termOk_3 c1 c5]; simp [show ¬ t.kind = 8 by omega, show ¬ (t.kids.length : Int) = 2 from c9]
          · refine ⟨by simp, Ext.refl w1_, ?_⟩
            split <;> omega
        · refine rd_eql ?_
          refine br (fun c10 => ?_) (fun c10 => ?_)
          · refine rd_fld fd133_3 ?_
            refine rd_load ty131 (at_DTerm_3 hA2) (Ext.refl w1_) fun v54 h54 => ?_
            have hln55 := is_len h54
            refine rd_len u131 h54 ?_
            refine rd_neq ?_
            refine br (fun c11 => ?_) (fun c11 => ?_)
            · refine ⟨hx1_, ?_⟩
              rw [termOk_3 c1 c5]; simp [show ¬ t.kind = 8 by omega, show ¬ (t.kids.length : Int) = 2 from c11]
            · refine ⟨by simp, Ext.refl w1_, ?_⟩
              split <;> omega
          · refine rd_eql ?_
            refine br (fun c12 => ?_) (fun c12 => ?_)
            · refine rd_fld fd133_3 ?_
              refine rd_load ty131 (at_DTerm_3 hA2) (Ext.refl w1_) fun v54 h54 => ?_
              have hln55 := is_len h54
              refine rd_len u131 h54 ?_
              refine rd_neq ?_
              refine br (fun c13 => ?_) (fun c13 => ?_)
              · refine ⟨hx1_, ?_⟩
                rw [termOk_3 c1 c5]; simp [show ¬ t.kind = 8 by omega, show ¬ (t.kids.length : Int) = 2 from c13]
              · refine ⟨by simp, Ext.refl w1_, ?_⟩
                split <;> omega
            · refine rd_eql ?_
              refine br (fun c14 => ?_) (fun c14 => ?_)
              · refine rd_fld fd133_3 ?_
                refine rd_load ty131 (at_DTerm_3 hA2) (Ext.refl w1_) fun v54 h54 => ?_
                have hln55 := is_len h54
                refine rd_len u131 h54 ?_
                refine rd_neq ?_
                refine br (fun c15 => ?_) (fun c15 => ?_)
                · refine ⟨hx1_, ?_⟩
                  rw [termOk_3 c1 c5]; simp [show ¬ t.kind = 8 by omega, show ¬ (t.kids.length : Int) = 2 from c15]
                · refine ⟨by simp, Ext.refl w1_, ?_⟩
                  split <;> omega
              · refine rd_eql ?_
                refine br (fun c16 => ?_) (fun c16 => ?_)
                · refine rd_fld fd133_3 ?_
                  refine rd_load ty131 (at_DTerm_3 hA2) (Ext.refl w1_) fun v54 h54 => ?_
                  have hln55 := is_len h54
                  refine rd_len u131 h54 ?_
                  refine rd_neq ?_
                  refine br (fun c17 => ?_) (fun c17 => ?_)
                  · refine ⟨hx1_, ?_⟩
                    rw [termOk_3 c1 c5]; simp [show ¬ t.kind = 8 by omega, show ¬ (t.kids.length : Int) = 2 from c17]
                  · refine ⟨by simp, Ext.refl w1_, ?_⟩
                    split <;> omega
                · refine rd_eql ?_
                  refine br (fun c18 => ?_) (fun c18 => ?_)
                  · refine rd_fld fd133_3 ?_
                    refine rd_load ty131 (at_DTerm_3 hA2) (Ext.refl w1_) fun v54 h54 => ?_
                    have hln55 := is_len h54
                    refine rd_len u131 h54 ?_
                    refine rd_neq ?_
                    refine br (fun c19 => ?_) (fun c19 => ?_)
                    · refine ⟨hx1_, ?_⟩
                      rw [termOk_3 c1 c5]; simp [show ¬ t.kind = 8 by omega, show ¬ (t.kids.length : Int) = 2 from c19]
                    · refine ⟨by simp, Ext.refl w1_, ?_⟩
                      split <;> omega
                  · refine rd_eql ?_
                    refine br (fun c20 => ?_) (fun c20 => ?_)
                    · refine rd_fld fd133_3 ?_
                      refine rd_load ty131 (at_DTerm_3 hA2) (Ext.refl w1_) fun v60 h60 => ?_
                      have hln61 := is_len h60
                      refine rd_len u131 h60 ?_
                      refine rd_neq ?_
                      refine br (fun c21 => ?_) (fun c21 => ?_)
                      · refine ⟨hx1_, ?_⟩
                        rw [termOk_3 c1 c5]; simp [c20, show ¬ (t.kids.length : Int) = 1 from c21]
                      · refine ⟨by simp, Ext.refl w1_, ?_⟩
                        split <;> omega
                    · refine ⟨hx1_, ?_⟩
                      rw [termOk_3 c1 c5]; simp [show ¬ (3 ≤ t.kind ∧ t.kind ≤ 9) by omega]
  · rintro uj18 w2_ ⟨hu, hx3_, hk1, hk2, hk3⟩
    simp only [List.map_cons, List.map_nil, List.cons.injEq, and_true] at hu
    clear hu
    refine rd_fld fd133_1 ?_
    refine rd_loadI ty3 (at_DTerm_1 hA2) hx3_ fun hI64 => ?_
    refine rd_neq ?_
    refine br (fun c22 => ?_) (fun c22 => ?_)
    · refine ⟨(hx1_.trans hx3_), ?_⟩
      rw [termOk_3 (by omega) (by omega)]; simp [c22]
    · refine rd_fld fd133_2 ?_
      refine rd_loadS ty9 (at_DTerm_2 hA2) hx3_ fun hS68 => ?_
      refine rd_neqS ?_
      refine br (fun c23 => ?_) (fun c23 => ?_)
      · refine ⟨(hx1_.trans hx3_), ?_⟩
        rw [termOk_3 (by omega) (by omega)]; simp [c23]
      · refine rd_eql ?_
        refine br (fun c24 => ?_) (fun c24 => ?_)
        · refine ⟨(hx1_.trans hx3_), ?_⟩
          rw [termOk_3 (by omega) (by omega)]; simp [show n = 0 by omega]
        · refine rd_fld fd133_3 ?_
          refine rd_load ty131 (at_DTerm_3 hA2) hx3_ fun v76 h76 => ?_
          have hln77 := is_len h76
          refine rd_len u131 h76 ?_
          refine loopC (t.kids.length) (fun k us w' => us = [.int .i64 (k : Int)] ∧ Ext w2_ w' ∧ ((t.kids.take k).all (termOk (n - 1)) = true)) (0) (by omega) ⟨by simp, Ext.refl w2_, by simp⟩ ?_
          rintro k m21 uu21 w4_ hk21 ⟨hu, hx4_, hinv⟩
          simp only [List.map_cons, List.map_nil, List.cons.injEq, and_true] at hu
          try rw [hu]
          try clear hu
          refine rd_lss ?_
          refine br (fun c25 => ?_) (fun c25 => ?_)
          · refine rd_indexN u131 ty133 h76 (by omega) fun b80 o80 h80 => ?_
            refine rd_load ty133 h80 (hx3_.trans hx4_) fun v81 h81 => ?_
            refine op_var zl133 rfl ty133 rfl h81 (hx3_.trans hx4_) fun w5_ hx5_ hA6 hV6 => ?_
            refine rd_var hV6 (Ext.refl w5_) ?_
            refine rd_sub (by unfold I64; omega) ?_
            refine (ih (n - 1) (by omega) h81 (hx3_.trans (hx4_.trans hx5_)) (by omega)).mono ?_
            rintro _ w6_ ⟨hx6_, rfl⟩
            refine rd_not ?_
            refine br_b (fun c26 => ?_) (fun c26 => ?_)
            · refine ⟨(hx1_.trans (hx3_.trans (hx4_.trans (hx5_.trans hx6_)))), ?_⟩
              rw [termOk_3 (by omega) (by omega)]
              obtain ⟨m, rfl⟩ : ∃ m, n = m + 1 := ⟨n - 1, by omega⟩
              rw [Bool.not_eq_true', Nat.add_sub_cancel] at c26
              simp only [all_false (by omega) c26, Bool.and_false]
            · have hln := is_len h76
              refine rd_inc (by omega) ?_
              refine ⟨m21 - 1, by omega, k + 1, by omega, by simp, (hx4_.trans (hx5_.trans hx6_)), ?_⟩
              exact all_take (by omega) hinv (by simpa using c26)
          · refine ⟨(hx1_.trans (hx3_.trans hx4_)), ?_⟩
            rw [termOk_3 (by omega) (by omega)]
            obtain ⟨m, rfl⟩ : ∃ m, n = m + 1 := ⟨n - 1, by omega⟩
            rw [Nat.add_sub_cancel] at hinv
            simp only [show 3 ≤ t.kind ∧ t.kind ≤ 9 from ⟨hk1, hk2⟩, Decidable.not_not.1 c22, Decidable.not_not.1 c23, hk3, all_done (by omega) hinv, and_self, decide_true, Bool.and_self]

theorem termFits_ok : ∀ (n : Nat), n ≤ 6 → Fits 255 n
  | n, hn => by intro h e hd; exact termFits_step h e hd (fun m hm => termFits_ok m (by omega)) hn
/-- impl.TermOk -/
def F210 (a0 : Value) (w : World) (R : Value → World → Prop) : Prop :=
  OP Tryz.prog (Instr.box 133 a0) w fun x1 w =>
  RD Tryz.prog (Instr.loadAt 133 x1) w fun x3 =>
  CALL Tryz.prog 255 [x3, (Value.int .i64 6)] w fun x4 w =>
  R x4 w
def cfg210 : Cfg := { ext := extL, joins := [], loops := [], draws := [], pars := [] }
theorem F210_eq (a0 : Value) (w : World) (R : Value → World → Prop) : vcF Tryz.prog cfg210 Tryz.f210 [a0] w R = F210 a0 w R := by kernel_rfl
theorem F210_call {a0 : Value} {w : World} {R : Value → World → Prop} (h : F210 a0 w R) : CALL Tryz.prog 210 [a0] w R :=
  call_of (g := cfg210) ent mixed Tryz.func210 (Nat.le_of_ble_eq_true (by kernel_rfl)) (by kernel_rfl) (F210_eq a0 w R ▸ h)


theorem implTermOk_ok {w : World} {v0 : Value} {W0 : World} {t : DTerm}  (h0 : Is W0 v0 t) (e0 : Ext W0 w)  :
    CALL Tryz.prog 210 [v0] w fun r w' => Ext w w' ∧ (r = .bool (termOk 6 t)) := by
  refine F210_call ?_
  unfold F210
  refine op_boxS ty133 rfl h0 e0 fun w1_ hx1_ hA1 hV1 => ?_
  refine rd_var hV1 (Ext.refl w1_) ?_
  refine ((termFits_ok 6 (by omega)) h0 (e0.trans hx1_) rfl).mono ?_
  rintro _ w2_ ⟨hx2_, rfl⟩
  refine ⟨(hx1_.trans hx2_), ?_⟩
  rfl

/-- spec.l03Right -/
def F247 (a0 a1 : Value) (w : World) (R : Value → World → Prop) : Prop :=
  OP Tryz.prog (Instr.box 133 a0) w fun x2 w =>
  RD Tryz.prog (Instr.fieldAt 133 x2 0) w fun x7 =>
  RD Tryz.prog (Instr.loadAt 3 x7) w fun x8 =>
  RD Tryz.prog (bin .eql 3 (.tmp 0) (.const undef) x8 (Value.int .i64 1)) w fun x10 =>
  BR x10
   (RD Tryz.prog (Instr.fieldAt 133 x2 1) w fun x11 =>
   RD Tryz.prog (Instr.loadAt 3 x11) w fun x12 =>
   CALL Tryz.prog 156 [x12, (Value.int .i64 0), (Value.int .i64 1000000000)] w fun x13 w =>
   BR x13
   (RD Tryz.prog (Instr.fieldAt 133 x2 2) w fun x15 =>
   RD Tryz.prog (Instr.loadAt 9 x15) w fun x16 =>
   RD Tryz.prog (bin .eql 9 (.tmp 0) (.const undef) x16 (Value.string (ByteArray.mk #[]))) w fun x17 =>
   BR x17
   (RD Tryz.prog (Instr.fieldAt 133 x2 3) w fun x20 =>
   RD Tryz.prog (Instr.loadAt 131 x20) w fun x21 =>
   RD Tryz.prog (Builtin.len_ #[131] 3 [x21].toArray) w fun x22 =>
   RD Tryz.prog (bin .eql 3 (.tmp 0) (.const undef) x22 (Value.int .i64 0)) w fun x23 =>
   R x23 w)
   (R (Value.bool false) w))
   (R (Value.bool false) w))
   (RD Tryz.prog (bin .eql 3 (.tmp 0) (.const undef) x8 (Value.int .i64 2)) w fun x26 =>
   BR x26
    (RD Tryz.prog (Instr.fieldAt 133 x2 1) w fun x27 =>
    RD Tryz.prog (Instr.loadAt 3 x27) w fun x28 =>
    RD Tryz.prog (bin .eql 3 (.tmp 0) (.const undef) x28 (Value.int .i64 0)) w fun x29 =>
    BR x29
    (RD Tryz.prog (Instr.fieldAt 133 x2 2) w fun x31 =>
    RD Tryz.prog (Instr.loadAt 9 x31) w fun x32 =>
    CALL Tryz.prog 252 [x32] w fun x33 w =>
    BR x33
    (RD Tryz.prog (Instr.fieldAt 133 x2 3) w fun x36 =>
    RD Tryz.prog (Instr.loadAt 131 x36) w fun x37 =>
    RD Tryz.prog (Builtin.len_ #[131] 3 [x37].toArray) w fun x38 =>
    RD Tryz.prog (bin .eql 3 (.tmp 0) (.const undef) x38 (Value.int .i64 0)) w fun x39 =>
    R x39 w)
    (R (Value.bool false) w))
    (R (Value.bool false) w))
    (JOIN [5] (fun J9 =>
     RD Tryz.prog (Instr.fieldAt 133 x2 0) w fun x41 =>
     RD Tryz.prog (Instr.loadAt 3 x41) w fun x42 =>
     RD Tryz.prog (bin .eql 3 (.tmp 0) (.const undef) x42 (Value.int .i64 8)) w fun x43 =>
     BR x43
      (J9 [(Value.int .i64 1)] w)
      (J9 [(Value.int .i64 2)] w)) (fun u9 w =>
     RD Tryz.prog (Instr.fieldAt 133 x2 0) w fun x44 =>
     RD Tryz.prog (Instr.loadAt 3 x44) w fun x45 =>
     CALL Tryz.prog 156 [x45, (Value.int .i64 3), (Value.int .i64 9)] w fun x46 w =>
     RD Tryz.prog (Op.unary .not x46) w fun x47 =>
     BR x47
     (R (Value.bool false) w)
     (RD Tryz.prog (Instr.fieldAt 133 x2 1) w fun x49 =>
     RD Tryz.prog (Instr.loadAt 3 x49) w fun x50 =>
     RD Tryz.prog (bin .neq 3 (.tmp 0) (.const undef) x50 (Value.int .i64 0)) w fun x51 =>
     BR x51
     (R (Value.bool false) w)
     (RD Tryz.prog (Instr.fieldAt 133 x2 2) w fun x54 =>
     RD Tryz.prog (Instr.loadAt 9 x54) w fun x55 =>
     RD Tryz.prog (bin .neq 9 (.tmp 0) (.const undef) x55 (Value.string (ByteArray.mk #[]))) w fun x56 =>
     BR x56
     (R (Value.bool false) w)
     (RD Tryz.prog (Instr.fieldAt 133 x2 3) w fun x59 =>
     RD Tryz.prog (Instr.loadAt 131 x59) w fun x60 =>
     RD Tryz.prog (Builtin.len_ #[131] 3 [x60].toArray) w fun x61 =>
     RD Tryz.prog (bin .neq 3 (.tmp 0) (.tmp 0) x61 (u9 5)) w fun x63 =>
     BR x63
     (R (Value.bool false) w)
     (RD Tryz.prog (bin .eql 3 (.tmp 0) (.const undef) a1 (Value.int .i64 0)) w fun x67 =>
     BR x67
      (R (Value.bool false) w)
      (LOOPI [6] [(Value.int .i64 0)] w fun u12 w next12 =>
       RD Tryz.prog (Instr.fieldAt 133 x2 3) w fun x70 =>
       RD Tryz.prog (Instr.loadAt 131 x70) w fun x71 =>
       RD Tryz.prog (Builtin.len_ #[131] 3 [x71].toArray) w fun x72 =>
       RD Tryz.prog (bin .lss 3 (.tmp 0) (.tmp 0) (u12 6) x72) w fun x73 =>
       BR x73
        (RD Tryz.prog (Instr.fieldAt 133 x2 3) w fun x76 =>
        RD Tryz.prog (Instr.loadAt 131 x76) w fun x77 =>
        RD Tryz.prog (Instr.indexAt 131 x77 (u12 6)) w fun x79 =>
        RD Tryz.prog (Instr.loadAt 133 x79) w fun x80 =>
        RD Tryz.prog (bin .sub 3 (.tmp 0) (.const undef) a1 (Value.int .i64 1)) w fun x82 =>
        CALL Tryz.prog 247 [x80, x82] w fun x83 w =>
        RD Tryz.prog (Op.unary .not x83) w fun x84 =>
        BR x84
         (R (Value.bool false) w)
         (RD Tryz.prog (bin .add 3 (.tmp 0) (.const undef) (u12 6) (Value.int .i64 1)) w fun x75 =>
         next12 [x75] w))
        (R (Value.bool true) w)))))))))
def cfg247 : Cfg := { ext := extL, joins := [(9, 15393162788896, [5])], loops := [(12, 38685035931857774884946000, [6])], draws := [], pars := [] }
theorem F247_eq (a0 a1 : Value) (w : World) (R : Value → World → Prop) : vcF Tryz.prog cfg247 Tryz.f247 [a0, a1] w R = F247 a0 a1 w R := by kernel_rfl
theorem F247_call {a0 a1 : Value} {w : World} {R : Value → World → Prop} (h : F247 a0 a1 w R) : CALL Tryz.prog 247 [a0, a1] w R :=
  call_of (g := cfg247) ent mixed Tryz.func247 (Nat.le_of_ble_eq_true (by kernel_rfl)) (by kernel_rfl) (F247_eq a0 a1 w R ▸ h)


theorem l03Right_step {w : World} {v0 : Value} {W0 : World} {t : DTerm} {d : Int} {n : Nat} (h0 : Is W0 v0 t) (e0 : Ext W0 w) (hd : d = (n : Int)) (ih : ∀ m, m + 1 = n → Fits 247 m) (hn : n ≤ 6) :
    CALL Tryz.prog 247 [v0, .int .i64 d] w fun r w' => Ext w w' ∧ (r = .bool (termOk n t)) := by
  refine F247_call ?_
  unfold F247
  refine op_boxS ty133 rfl h0 e0 fun w1_ hx1_ hA2 hV2 => ?_
  refine rd_fld fd133_0 ?_
  refine rd_loadI ty3 (at_DTerm_0 hA2) (Ext.refl w1_) fun hI8 => ?_
  refine rd_eql ?_
  refine br (fun c1 => ?_) (fun c1 => ?_)
  · refine rd_fld fd133_1 ?_
    refine rd_loadI ty3 (at_DTerm_1 hA2) (Ext.refl w1_) fun hI12 => ?_
    refine (l01In_ok ).mono ?_
    rintro _ w2_ ⟨hx2_, rfl⟩
    refine br (fun c2 => ?_) (fun c2 => ?_)
    · refine rd_fld fd133_2 ?_
      refine rd_loadS ty9 (at_DTerm_2 hA2) hx2_ fun hS16 => ?_
      refine rd_eqlS ?_
      refine br (fun c3 => ?_) (fun c3 => ?_)
      · refine rd_fld fd133_3 ?_
        refine rd_load ty131 (at_DTerm_3 hA2) hx2_ fun v21 h21 => ?_
        have hln22 := is_len h21
        refine rd_len u131 h21 ?_
        refine rd_eql ?_
        refine ⟨(hx1_.trans hx2_), ?_⟩
        rw [termOk_1 c1]; simp only [c2, c3, and_self, decide_true, Bool.true_and]
      · refine ⟨(hx1_.trans hx2_), ?_⟩
        rw [termOk_1 c1]; simp only [c3, decide_false, Bool.and_false, Bool.false_and]
    · refine ⟨(hx1_.trans hx2_), ?_⟩
      rw [termOk_1 c1]; simp only [c2, decide_false, Bool.false_and]
  · refine rd_eql ?_
    refine br (fun c4 => ?_) (fun c4 => ?_)
    · refine rd_fld fd133_1 ?_
      refine rd_loadI ty3 (at_DTerm_1 hA2) (Ext.refl w1_) fun hI28 => ?_
      refine rd_eql ?_
      refine br (fun c5 => ?_) (fun c5 => ?_)
      · refine rd_fld fd133_2 ?_
        refine rd_loadS ty9 (at_DTerm_2 hA2) (Ext.refl w1_) fun hS32 => ?_
        refine (specIsName_ok ).mono ?_
        rintro _ w3_ ⟨hx3_, rfl⟩
        refine br_b (fun c6 => ?_) (fun c6 => ?_)
        · refine rd_fld fd133_3 ?_
          refine rd_load ty131 (at_DTerm_3 hA2) hx3_ fun v37 h37 => ?_
          have hln38 := is_len h37
          refine rd_len u131 h37 ?_
          refine rd_eql ?_
          refine ⟨(hx1_.trans hx3_), ?_⟩
          rw [termOk_2 c4]; simp only [c5, c6, decide_true, Bool.true_and]
        · refine ⟨(hx1_.trans hx3_), ?_⟩
          rw [termOk_2 c4]; simp only [c5, c6, decide_true, Bool.true_and, Bool.false_and]
      · refine ⟨hx1_, ?_⟩
        rw [termOk_2 c4]; simp only [c5, decide_false, Bool.false_and]
    · refine JOIN.mk (fun us w' => us = [.int .i64 (if t.kind = 8 then 1 else 2)] ∧ Ext w1_ w' ∧ (True)) ?_ ?_
      · refine rd_fld fd133_0 ?_
        refine rd_loadI ty3 (at_DTerm_0 hA2) (Ext.refl w1_) fun hI42 => ?_
        refine rd_eql ?_
        refine br (fun c7 => ?_) (fun c7 => ?_)
        · refine ⟨by rw [if_pos c7], Ext.refl w1_, ?_⟩
          trivial
        · refine ⟨by rw [if_neg c7], Ext.refl w1_, ?_⟩
          trivial
      · rintro uj9 w4_ ⟨hu, hx4_, hinv⟩
        simp only [List.map_cons, List.map_nil, List.cons.injEq, and_true] at hu
        try rw [hu]
        try clear hu
        refine rd_fld fd133_0 ?_
        refine rd_loadI ty3 (at_DTerm_0 hA2) hx4_ fun hI45 => ?_
        refine (l01In_ok ).mono ?_
        rintro _ w5_ ⟨hx5_, rfl⟩
        refine rd_nodec ?_
        refine br (fun c8 => ?_) (fun c8 => ?_)
        · refine ⟨(hx1_.trans (hx4_.trans hx5_)), ?_⟩
          rw [termOk_3 c1 c4]; simp only [c8, decide_false, Bool.false_and]
        · refine rd_fld fd133_1 ?_
          refine rd_loadI ty3 (at_DTerm_1 hA2) (hx4_.trans hx5_) fun hI50 => ?_
          refine rd_neq ?_
          refine br (fun c9 => ?_) (fun c9 => ?_)
          · refine ⟨(hx1_.trans (hx4_.trans hx5_)), ?_⟩
            rw [termOk_3 c1 c4]; simp only [show ¬ t.num = 0 from c9, decide_false, Bool.false_and, Bool.and_false]
          · refine rd_fld fd133_2 ?_
            refine rd_loadS ty9 (at_DTerm_2 hA2) (hx4_.trans hx5_) fun hS55 => ?_
            refine rd_neqS ?_
            refine br (fun c10 => ?_) (fun c10 => ?_)
            · refine ⟨(hx1_.trans (hx4_.trans hx5_)), ?_⟩
              rw [termOk_3 c1 c4]; simp only [show ¬ t.name = _ from c10, decide_false, Bool.false_and, Bool.and_false]
            · refine rd_fld fd133_3 ?_
              refine rd_load ty131 (at_DTerm_3 hA2) (hx4_.trans hx5_) fun v60 h60 => ?_
              have hln61 := is_len h60
              refine rd_len u131 h60 ?_
              refine rd_neq ?_
              refine br (fun c11 => ?_) (fun c11 => ?_)
              · refine ⟨(hx1_.trans (hx4_.trans hx5_)), ?_⟩
                rw [termOk_3 c1 c4]; simp only [show ¬ (t.kids.length : Int) = _ from c11, decide_false, Bool.false_and, Bool.and_false]
              · refine rd_eql ?_
                refine br (fun c12 => ?_) (fun c12 => ?_)
                · refine ⟨(hx1_.trans (hx4_.trans hx5_)), ?_⟩
                  rw [termOk_3 c1 c4]; simp [show n = 0 by omega]
                · refine loopC (t.kids.length) (fun k us w' => us = [.int .i64 (k : Int)] ∧ Ext w5_ w' ∧ ((t.kids.take k).all (termOk (n - 1)) = true)) (0) (by omega) ⟨by simp, Ext.refl w5_, by simp⟩ ?_
                  rintro k m12 uu12 w6_ hk12 ⟨hu, hx6_, hinv⟩
                  simp only [List.map_cons, List.map_nil, List.cons.injEq, and_true] at hu
                  try rw [hu]
                  try clear hu
                  refine rd_fld fd133_3 ?_
                  refine rd_load ty131 (at_DTerm_3 hA2) (hx4_.trans (hx5_.trans hx6_)) fun v71 h71 => ?_
                  have hln72 := is_len h71
                  refine rd_len u131 h71 ?_
                  refine rd_lss ?_
                  refine br (fun c13 => ?_) (fun c13 => ?_)
                  · refine rd_fld fd133_3 ?_
                    refine rd_load ty131 (at_DTerm_3 hA2) (hx4_.trans (hx5_.trans hx6_)) fun v77 h77 => ?_
                    refine rd_indexN u131 ty133 h77 (by omega) fun b79 o79 h79 => ?_
                    refine rd_load ty133 h79 (hx4_.trans (hx5_.trans hx6_)) fun v80 h80 => ?_
                    refine rd_sub (by unfold I64; omega) ?_
                    refine (ih (n - 1) (by omega) h80 (hx4_.trans (hx5_.trans hx6_)) (by omega)).mono ?_
                    rintro _ w7_ ⟨hx7_, rfl⟩
                    refine rd_not ?_
                    refine br_b (fun c14 => ?_) (fun c14 => ?_)
                    · refine ⟨(hx1_.trans (hx4_.trans (hx5_.trans (hx6_.trans hx7_)))), ?_⟩
                      rw [termOk_3 c1 c4]
                      obtain ⟨m, rfl⟩ : ∃ m, n = m + 1 := ⟨n - 1, by omega⟩
                      rw [Bool.not_eq_true', Nat.add_sub_cancel] at c14
                      simp only [all_false (by omega) c14, Bool.and_false]
                    · have hln := is_len h71
                      refine rd_inc (by omega) ?_
                      refine ⟨m12 - 1, by omega, k + 1, by omega, by simp, (hx6_.trans hx7_), ?_⟩
                      exact all_take (by omega) hinv (by simpa using c14)
                  · refine ⟨(hx1_.trans (hx4_.trans (hx5_.trans hx6_))), ?_⟩
                    rw [termOk_3 c1 c4]
                    obtain ⟨m, rfl⟩ : ∃ m, n = m + 1 := ⟨n - 1, by omega⟩
                    rw [Nat.add_sub_cancel] at hinv
                    simp only [Decidable.not_not.1 c8, Decidable.not_not.1 c9, Decidable.not_not.1 c10, Decidable.not_not.1 c11, all_done (by omega) hinv, and_self, decide_true, Bool.and_self]

theorem l03Right_ok : ∀ (n : Nat), n ≤ 6 → Fits 247 n
  | n, hn => by intro h e hd; exact l03Right_step h e hd (fun m hm => l03Right_ok m (by omega)) hn
/-- spec.TermOk -/
def F192 (a0 : Value) (w : World) (R : Value → World → Prop) : Prop :=
  OP Tryz.prog (Instr.box 133 a0) w fun x1 w =>
  RD Tryz.prog (Instr.loadAt 133 x1) w fun x3 =>
  CALL Tryz.prog 247 [x3, (Value.int .i64 6)] w fun x4 w =>
  R x4 w
def cfg192 : Cfg := { ext := extL, joins := [], loops := [], draws := [], pars := [] }
theorem F192_eq (a0 : Value) (w : World) (R : Value → World → Prop) : vcF Tryz.prog cfg192 Tryz.f192 [a0] w R = F192 a0 w R := by kernel_rfl
theorem F192_call {a0 : Value} {w : World} {R : Value → World → Prop} (h : F192 a0 w R) : CALL Tryz.prog 192 [a0] w R :=
  call_of (g := cfg192) ent mixed Tryz.func192 (Nat.le_of_ble_eq_true (by kernel_rfl)) (by kernel_rfl) (F192_eq a0 w R ▸ h)


theorem specTermOk_ok {w : World} {v0 : Value} {W0 : World} {t : DTerm}  (h0 : Is W0 v0 t) (e0 : Ext W0 w)  :
    CALL Tryz.prog 192 [v0] w fun r w' => Ext w w' ∧ (r = .bool (termOk 6 t)) := by
  refine F192_call ?_
  unfold F192
  refine op_boxS ty133 rfl h0 e0 fun w1_ hx1_ hA1 hV1 => ?_
  refine rd_var hV1 (Ext.refl w1_) ?_
  refine ((l03Right_ok 6 (by omega)) h0 (e0.trans hx1_) rfl).mono ?_
  rintro _ w2_ ⟨hx2_, rfl⟩
  refine ⟨(hx1_.trans hx2_), ?_⟩
  rfl


/-- the term of zeros -/
def term0 : DTerm := .mk 0 0 (ByteArray.mk #[]) []
/-- impl.isZeroTerm -/
def F212 (a0 : Value) (w : World) (R : Value → World → Prop) : Prop :=
  OP Tryz.prog (Instr.box 133 a0) w fun x1 w =>
  RD Tryz.prog (Instr.fieldAt 133 x1 0) w fun x3 =>
  RD Tryz.prog (Instr.loadAt 3 x3) w fun x4 =>
  RD Tryz.prog (bin .eql 3 (.tmp 0) (.const undef) x4 (Value.int .i64 0)) w fun x5 =>
  BR x5
  (RD Tryz.prog (Instr.fieldAt 133 x1 1) w fun x7 =>
  RD Tryz.prog (Instr.loadAt 3 x7) w fun x8 =>
  RD Tryz.prog (bin .eql 3 (.tmp 0) (.const undef) x8 (Value.int .i64 0)) w fun x9 =>
  BR x9
  (RD Tryz.prog (Instr.fieldAt 133 x1 2) w fun x12 =>
  RD Tryz.prog (Instr.loadAt 9 x12) w fun x13 =>
  RD Tryz.prog (bin .eql 9 (.tmp 0) (.const undef) x13 (Value.string (ByteArray.mk #[]))) w fun x14 =>
  BR x14
  (RD Tryz.prog (Instr.fieldAt 133 x1 3) w fun x17 =>
  RD Tryz.prog (Instr.loadAt 131 x17) w fun x18 =>
  RD Tryz.prog (Builtin.len_ #[131] 3 [x18].toArray) w fun x19 =>
  RD Tryz.prog (bin .eql 3 (.tmp 0) (.const undef) x19 (Value.int .i64 0)) w fun x20 =>
  R x20 w)
  (R (Value.bool false) w))
  (R (Value.bool false) w))
  (R (Value.bool false) w)
def cfg212 : Cfg := { ext := extL, joins := [], loops := [], draws := [], pars := [] }
theorem F212_eq (a0 : Value) (w : World) (R : Value → World → Prop) : vcF Tryz.prog cfg212 Tryz.f212 [a0] w R = F212 a0 w R := by kernel_rfl
theorem F212_call {a0 : Value} {w : World} {R : Value → World → Prop} (h : F212 a0 w R) : CALL Tryz.prog 212 [a0] w R :=
  call_of (g := cfg212) ent mixed Tryz.func212 (Nat.le_of_ble_eq_true (by kernel_rfl)) (by kernel_rfl) (F212_eq a0 w R ▸ h)


theorem isZeroTerm_ok {w : World} {v0 : Value} {W0 : World} {t : DTerm}  (h0 : Is W0 v0 t) (e0 : Ext W0 w)  :
    CALL Tryz.prog 212 [v0] w fun r w' => Ext w w' ∧ (r = .bool (decide (t = term0))) := by
  refine F212_call ?_
  unfold F212
  refine op_boxS ty133 rfl h0 e0 fun w1_ hx1_ hA1 hV1 => ?_
  refine rd_fld fd133_0 ?_
  refine rd_loadI ty3 (at_DTerm_0 hA1) (Ext.refl w1_) fun hI4 => ?_
  refine rd_eql ?_
  refine br (fun c1 => ?_) (fun c1 => ?_)
  · refine rd_fld fd133_1 ?_
    refine rd_loadI ty3 (at_DTerm_1 hA1) (Ext.refl w1_) fun hI8 => ?_
    refine rd_eql ?_
    refine br (fun c2 => ?_) (fun c2 => ?_)
    · refine rd_fld fd133_2 ?_
      refine rd_loadS ty9 (at_DTerm_2 hA1) (Ext.refl w1_) fun hS13 => ?_
      refine rd_eqlS ?_
      refine br (fun c3 => ?_) (fun c3 => ?_)
      · refine rd_fld fd133_3 ?_
        refine rd_load ty131 (at_DTerm_3 hA1) (Ext.refl w1_) fun v18 h18 => ?_
        have hln19 := is_len h18
        refine rd_len u131 h18 ?_
        refine rd_eql ?_
        refine ⟨hx1_, ?_⟩
        congr 1
        rw [decide_eq_decide, DTerm.ext_iff]
        exact ⟨fun h => ⟨c1, c2, c3, List.eq_nil_of_length_eq_zero (by omega)⟩, fun h => by rw [h.2.2.2]; rfl⟩
      · refine ⟨hx1_, ?_⟩
        have : t ≠ term0 := fun e => c3 (by rw [e]; rfl)
        simp [this]
    · refine ⟨hx1_, ?_⟩
      have : t ≠ term0 := fun e => c2 (by rw [e]; rfl)
      simp [this]
  · refine ⟨hx1_, ?_⟩
    have : t ≠ term0 := fun e => c1 (by rw [e]; rfl)
    simp [this]

/-- spec.SameTerm -/
def F204 (a0 a1 : Value) (w : World) (R : Value → World → Prop) : Prop :=
  OP Tryz.prog (Instr.box 133 a0) w fun x2 w =>
  OP Tryz.prog (Instr.box 133 a1) w fun x3 w =>
  RD Tryz.prog (Instr.fieldAt 133 x2 0) w fun x6 =>
  RD Tryz.prog (Instr.loadAt 3 x6) w fun x7 =>
  RD Tryz.prog (Instr.fieldAt 133 x3 0) w fun x8 =>
  RD Tryz.prog (Instr.loadAt 3 x8) w fun x9 =>
  RD Tryz.prog (bin .neq 3 (.tmp 0) (.tmp 0) x7 x9) w fun x10 =>
  BR x10
  (R (Value.bool false) w)
  (RD Tryz.prog (Instr.fieldAt 133 x2 1) w fun x12 =>
  RD Tryz.prog (Instr.loadAt 3 x12) w fun x13 =>
  RD Tryz.prog (Instr.fieldAt 133 x3 1) w fun x14 =>
  RD Tryz.prog (Instr.loadAt 3 x14) w fun x15 =>
  RD Tryz.prog (bin .neq 3 (.tmp 0) (.tmp 0) x13 x15) w fun x16 =>
  BR x16
  (R (Value.bool false) w)
  (RD Tryz.prog (Instr.fieldAt 133 x2 2) w fun x19 =>
  RD Tryz.prog (Instr.loadAt 9 x19) w fun x20 =>
  RD Tryz.prog (Instr.fieldAt 133 x3 2) w fun x21 =>
  RD Tryz.prog (Instr.loadAt 9 x21) w fun x22 =>
  RD Tryz.prog (bin .neq 9 (.tmp 0) (.tmp 0) x20 x22) w fun x23 =>
  BR x23
  (R (Value.bool false) w)
  (RD Tryz.prog (Instr.fieldAt 133 x2 3) w fun x26 =>
  RD Tryz.prog (Instr.loadAt 131 x26) w fun x27 =>
  RD Tryz.prog (Builtin.len_ #[131] 3 [x27].toArray) w fun x28 =>
  RD Tryz.prog (Instr.fieldAt 133 x3 3) w fun x29 =>
  RD Tryz.prog (Instr.loadAt 131 x29) w fun x30 =>
  RD Tryz.prog (Builtin.len_ #[131] 3 [x30].toArray) w fun x31 =>
  RD Tryz.prog (bin .neq 3 (.tmp 0) (.tmp 0) x28 x31) w fun x32 =>
  BR x32
   (R (Value.bool false) w)
   (LOOPI [5] [(Value.int .i64 0)] w fun u4 w next4 =>
    RD Tryz.prog (Instr.fieldAt 133 x2 3) w fun x35 =>
    RD Tryz.prog (Instr.loadAt 131 x35) w fun x36 =>
    RD Tryz.prog (Builtin.len_ #[131] 3 [x36].toArray) w fun x37 =>
    RD Tryz.prog (bin .lss 3 (.tmp 0) (.tmp 0) (u4 5) x37) w fun x38 =>
    BR x38
     ((fun w => RD Tryz.prog (Instr.fieldAt 133 x2 3) w fun x41 =>
     RD Tryz.prog (Instr.loadAt 131 x41) w fun x42 =>
     RD Tryz.prog (Instr.indexAt 131 x42 (u4 5)) w fun x44 =>
     RD Tryz.prog (Instr.loadAt 133 x44) w fun x45 =>
     RD Tryz.prog (Instr.fieldAt 133 x3 3) w fun x46 =>
     RD Tryz.prog (Instr.loadAt 131 x46) w fun x47 =>
     RD Tryz.prog (Instr.indexAt 131 x47 (u4 5)) w fun x49 =>
     RD Tryz.prog (Instr.loadAt 133 x49) w fun x50 =>
     CALL Tryz.prog 204 [x45, x50] w fun x51 w =>
     RD Tryz.prog (Op.unary .not x51) w fun x52 =>
     BR x52
      (R (Value.bool false) w)
      (RD Tryz.prog (bin .add 3 (.tmp 0) (.const undef) (u4 5) (Value.int .i64 1)) w fun x40 =>
      next4 [x40] w)) (World.drew1 w))
     (R (Value.bool true) w)))))
def cfg204 : Cfg := { ext := extL, joins := [], loops := [(4, 9007182074871856, [5])], draws := [(6, [0, 1, 2, 3, 4, 5, 6, 7, 8, 9, 10, 11], 0)], pars := [] }
theorem F204_eq (a0 a1 : Value) (w : World) (R : Value → World → Prop) : vcF Tryz.prog cfg204 Tryz.f204 [a0, a1] w R = F204 a0 a1 w R := by kernel_rfl
theorem F204_call {a0 a1 : Value} {w : World} {R : Value → World → Prop} (h : F204 a0 a1 w R) : CALL Tryz.prog 204 [a0, a1] w R :=
  call_of (g := cfg204) ent mixed Tryz.func204 (Nat.le_of_ble_eq_true (by kernel_rfl)) (by kernel_rfl) (F204_eq a0 a1 w R ▸ h)


theorem sameTerm0_ok {w : World} {v0 : Value} {W0 : World} {t : DTerm} {v1 : Value} {W1 : World} {t2 : DTerm}  (h0 : Is W0 v0 t) (e0 : Ext W0 w) (h1 : Is W1 v1 t2) (e1 : Ext W1 w) (ht : t2 = term0) :
    CALL Tryz.prog 204 [v0, v1] w fun r w' => Ext w w' ∧ (r = .bool (decide (t = term0))) := by
  refine F204_call ?_
  unfold F204
  subst ht
  refine op_boxS ty133 rfl h0 e0 fun w1_ hx1_ hA2 hV2 => ?_
  refine op_boxS ty133 rfl h1 (e1.trans hx1_) fun w2_ hx2_ hA3 hV3 => ?_
  refine rd_fld fd133_0 ?_
  refine rd_loadI ty3 (at_DTerm_0 hA2) hx2_ fun hI7 => ?_
  refine rd_fld fd133_0 ?_
  refine rd_loadI ty3 (at_DTerm_0 hA3) (Ext.refl w2_) fun hI9 => ?_
  refine rd_neq ?_
  refine br (fun c1 => ?_) (fun c1 => ?_)
  · refine ⟨(hx1_.trans hx2_), ?_⟩
    have : t ≠ term0 := fun e => c1 (by rw [e])
    simp [this]
  · refine rd_fld fd133_1 ?_
    refine rd_loadI ty3 (at_DTerm_1 hA2) hx2_ fun hI13 => ?_
    refine rd_fld fd133_1 ?_
    refine rd_loadI ty3 (at_DTerm_1 hA3) (Ext.refl w2_) fun hI15 => ?_
    refine rd_neq ?_
    refine br (fun c2 => ?_) (fun c2 => ?_)
    · refine ⟨(hx1_.trans hx2_), ?_⟩
      have : t ≠ term0 := fun e => c2 (by rw [e])
      simp [this]
    · refine rd_fld fd133_2 ?_
      refine rd_loadS ty9 (at_DTerm_2 hA2) hx2_ fun hS20 => ?_
      refine rd_fld fd133_2 ?_
      refine rd_loadS ty9 (at_DTerm_2 hA3) (Ext.refl w2_) fun hS22 => ?_
      refine rd_neqS ?_
      refine br (fun c3 => ?_) (fun c3 => ?_)
      · refine ⟨(hx1_.trans hx2_), ?_⟩
        have : t ≠ term0 := fun e => c3 (by rw [e])
        simp [this]
      · refine rd_fld fd133_3 ?_
        refine rd_load ty131 (at_DTerm_3 hA2) hx2_ fun v27 h27 => ?_
        have hln28 := is_len h27
        refine rd_len u131 h27 ?_
        refine rd_fld fd133_3 ?_
        refine rd_load ty131 (at_DTerm_3 hA3) (Ext.refl w2_) fun v30 h30 => ?_
        have hln31 := is_len h30
        refine rd_len u131 h30 ?_
        refine rd_neq ?_
        refine br (fun c4 => ?_) (fun c4 => ?_)
        · refine ⟨(hx1_.trans hx2_), ?_⟩
          have : t ≠ term0 := fun e => c4 (by rw [e])
          simp [this]
        · refine loopC (0) (fun k us w' => us = [.int .i64 (k : Int)] ∧ Ext w2_ w' ∧ (True)) (0) (by omega) ⟨by simp, Ext.refl w2_, trivial⟩ ?_
          rintro k m4 uu4 w3_ hk4 ⟨hu, hx3_, hinv⟩
          simp only [List.map_cons, List.map_nil, List.cons.injEq, and_true] at hu
          try rw [hu]
          try clear hu
          refine rd_fld fd133_3 ?_
          refine rd_load ty131 (at_DTerm_3 hA2) (hx2_.trans hx3_) fun v36 h36 => ?_
          have hln37 := is_len h36
          refine rd_len u131 h36 ?_
          refine rd_lss ?_
          refine br (fun c5 => ?_) (fun c5 => ?_)
          · have hx4_ := ext_drew w3_
            exact absurd c5 (by have : (term0.kids.length : Int) = 0 := rfl; omega)
          · refine ⟨(hx1_.trans (hx2_.trans hx3_)), ?_⟩
            have : t = term0 := DTerm.ext_iff.2 ⟨Decidable.not_not.1 c1, Decidable.not_not.1 c2, Decidable.not_not.1 c3, List.eq_nil_of_length_eq_zero (by have : (term0.kids.length : Int) = 0 := rfl; omega)⟩
            simp [this]


/-- the place of a name in a list; -1 if it is not there -/
def plc (s : ByteArray) : List ByteArray → Int
  | [] => -1
  | x :: l => if x = s then 0 else if plc s l < 0 then -1 else plc s l + 1
theorem plc_none {s : ByteArray} {l : List ByteArray} (h : s ∉ l) : plc s l = -1 := by
  induction l with
  | nil => rfl
  | cons x l ih =>
    simp only [List.mem_cons, not_or] at h
    rw [plc, if_neg (fun e => h.1 e.symm), ih h.2]; rfl
theorem plc_at {s : ByteArray} : ∀ {l : List ByteArray} {k : Nat} (hk : k < l.length), s ∉ l.take k → l[k] = s → plc s l = k
  | x :: l, 0, _, _, h => by simp only [List.getElem_cons_zero] at h; rw [plc, if_pos h]; rfl
  | x :: l, k + 1, hk, hn, h => by
    simp only [List.take_succ_cons, List.mem_cons, not_or] at hn
    have ih := plc_at (by simpa using hk) hn.2 (by simpa using h)
    rw [plc, if_neg (fun e => hn.1 e.symm), ih, if_neg (by omega)]
    omega
theorem plc_lt {s : ByteArray} {l : List ByteArray} : -1 ≤ plc s l ∧ plc s l < l.length := by
  induction l with
  | nil => simp [plc]
  | cons x l ih =>
    rw [plc]
    split
    · simp only [List.length_cons]; omega
    · split <;> simp only [List.length_cons] <;> omega
theorem plc_iff {s : ByteArray} {l : List ByteArray} : 0 ≤ plc s l ↔ s ∈ l := by
  induction l with
  | nil => simp [plc]
  | cons x l ih =>
    rw [plc]
    split
    · rename_i h; simp [h]
    · rename_i h
      rw [List.mem_cons, ← ih]
      have : ¬ s = x := fun e => h e.symm
      simp only [this, false_or]
      split <;> omega
theorem mem_take_succS {l : List ByteArray} {k : Nat} {y : ByteArray} (hk : k < l.length) (h : y ∉ l.take k) (c : ¬ l[k] = y) : y ∉ l.take (k + 1) := by
  rw [List.take_succ_eq_append_getElem hk]
  simp only [List.mem_append, List.mem_cons, List.not_mem_nil, or_false, not_or]
  exact ⟨h, fun e => c e.symm⟩
/-- spec.PlaceOf -/
def F201 (a0 a1 : Value) (w : World) (R : Value → World → Prop) : Prop :=
  LOOPI [5] [(Value.int .i64 0)] w fun u2 w next2 =>
   RD Tryz.prog (Builtin.len_ #[22] 3 [a0].toArray) w fun x8 =>
   RD Tryz.prog (bin .lss 3 (.tmp 0) (.tmp 0) (u2 5) x8) w fun x9 =>
   BR x9
    (RD Tryz.prog (Instr.indexAt 22 a0 (u2 5)) w fun x14 =>
    RD Tryz.prog (Instr.loadAt 9 x14) w fun x15 =>
    RD Tryz.prog (bin .eql 9 (.tmp 0) (.tmp 0) x15 a1) w fun x17 =>
    BR x17
     (R (u2 5) w)
     (RD Tryz.prog (bin .add 3 (.tmp 0) (.const undef) (u2 5) (Value.int .i64 1)) w fun x11 =>
     next2 [x11] w))
    (R (Value.int .i64 (-1)) w)
def cfg201 : Cfg := { ext := extL, joins := [], loops := [(2, 524272, [5])], draws := [], pars := [] }
theorem F201_eq (a0 a1 : Value) (w : World) (R : Value → World → Prop) : vcF Tryz.prog cfg201 Tryz.f201 [a0, a1] w R = F201 a0 a1 w R := by kernel_rfl
theorem F201_call {a0 a1 : Value} {w : World} {R : Value → World → Prop} (h : F201 a0 a1 w R) : CALL Tryz.prog 201 [a0, a1] w R :=
  call_of (g := cfg201) ent mixed Tryz.func201 (Nat.le_of_ble_eq_true (by kernel_rfl)) (by kernel_rfl) (F201_eq a0 a1 w R ▸ h)


theorem specPlaceOf_ok {w : World} {v0 : Value} {W0 : World} {l : (List ByteArray)} {s : ByteArray}  (h0 : Is W0 v0 l) (e0 : Ext W0 w)  :
    CALL Tryz.prog 201 [v0, .string s] w fun r w' => Ext w w' ∧ (r = .int .i64 (plc s l)) := by
  refine F201_call ?_
  unfold F201
  refine loopC (l.length) (fun k us w' => us = [.int .i64 (k : Int)] ∧ Ext w w' ∧ (s ∉ l.take k)) (0) (by omega) ⟨by simp, Ext.refl w, by simp⟩ ?_
  rintro k m2 uu2 w1_ hk2 ⟨hu, hx1_, hinv⟩
  simp only [List.map_cons, List.map_nil, List.cons.injEq, and_true] at hu
  try rw [hu]
  try clear hu
  have hln8 := is_len h0
  refine rd_len u22 h0 ?_
  refine rd_lss ?_
  refine br (fun c1 => ?_) (fun c1 => ?_)
  · refine rd_indexN u22 ty9 h0 (by omega) fun b14 o14 h14 => ?_
    refine rd_loadS ty9 h14 (e0.trans hx1_) fun hS15 => ?_
    refine rd_eqlS ?_
    refine br (fun c2 => ?_) (fun c2 => ?_)
    · refine ⟨hx1_, ?_⟩
      rw [plc_at (by omega) hinv c2]
    · refine rd_inc (by omega) ?_
      refine ⟨m2 - 1, by omega, k + 1, by omega, by simp, hx1_, ?_⟩
      exact mem_take_succS (by omega) hinv c2
  · refine ⟨hx1_, ?_⟩
    rw [List.take_of_length_le (by omega)] at hinv
    rw [plc_none hinv]

/-- slices.Index[[]string,string] -/
def F196 (a0 a1 : Value) (w : World) (R : Value → World → Prop) : Prop :=
  RD Tryz.prog (Builtin.len_ #[22] 3 [a0].toArray) w fun x7 =>
  LOOPI [8] [(Value.int .i64 0)] w fun u2 w next2 =>
   RD Tryz.prog (bin .lss 3 (.tmp 0) (.tmp 0) (u2 8) x7) w fun x9 =>
   BR x9
    (RD Tryz.prog (Instr.indexAt 22 a0 (u2 8)) w fun x14 =>
    RD Tryz.prog (Instr.loadAt 9 x14) w fun x15 =>
    RD Tryz.prog (bin .eql 9 (.tmp 0) (.tmp 0) a1 x15) w fun x16 =>
    BR x16
     (R (u2 8) w)
     (RD Tryz.prog (bin .add 3 (.tmp 0) (.const undef) (u2 8) (Value.int .i64 1)) w fun x18 =>
     next2 [x18] w))
    (R (Value.int .i64 (-1)) w)
def cfg196 : Cfg := { ext := extL, joins := [], loops := [(2, 524080, [8])], draws := [], pars := [] }
theorem F196_eq (a0 a1 : Value) (w : World) (R : Value → World → Prop) : vcF Tryz.prog cfg196 Tryz.f196 [a0, a1] w R = F196 a0 a1 w R := by kernel_rfl
theorem F196_call {a0 a1 : Value} {w : World} {R : Value → World → Prop} (h : F196 a0 a1 w R) : CALL Tryz.prog 196 [a0, a1] w R :=
  call_of (g := cfg196) ent mixed Tryz.func196 (Nat.le_of_ble_eq_true (by kernel_rfl)) (by kernel_rfl) (F196_eq a0 a1 w R ▸ h)


theorem indexStr_ok {w : World} {v0 : Value} {W0 : World} {l : (List ByteArray)} {s : ByteArray}  (h0 : Is W0 v0 l) (e0 : Ext W0 w)  :
    CALL Tryz.prog 196 [v0, .string s] w fun r w' => Ext w w' ∧ (r = .int .i64 (plc s l)) := by
  refine F196_call ?_
  unfold F196
  have hln7 := is_len h0
  refine rd_len u22 h0 ?_
  refine loopC (l.length) (fun k us w' => us = [.int .i64 (k : Int)] ∧ Ext w w' ∧ (s ∉ l.take k)) (0) (by omega) ⟨by simp, Ext.refl w, by simp⟩ ?_
  rintro k m2 uu2 w1_ hk2 ⟨hu, hx1_, hinv⟩
  simp only [List.map_cons, List.map_nil, List.cons.injEq, and_true] at hu
  try rw [hu]
  try clear hu
  refine rd_lss ?_
  refine br (fun c1 => ?_) (fun c1 => ?_)
  · refine rd_indexN u22 ty9 h0 (by omega) fun b14 o14 h14 => ?_
    refine rd_loadS ty9 h14 (e0.trans hx1_) fun hS15 => ?_
    refine rd_eqlS ?_
    refine br (fun c2 => ?_) (fun c2 => ?_)
    · refine ⟨hx1_, ?_⟩
      rw [plc_at (by omega) hinv c2.symm]
    · refine rd_inc (by omega) ?_
      refine ⟨m2 - 1, by omega, k + 1, by omega, by simp, hx1_, ?_⟩
      exact mem_take_succS (by omega) hinv (fun e => c2 e.symm)
  · refine ⟨hx1_, ?_⟩
    rw [List.take_of_length_le (by omega)] at hinv
    rw [plc_none hinv]

/-- slices.Contains[[]string,string] -/
def F208 (a0 a1 : Value) (w : World) (R : Value → World → Prop) : Prop :=
  CALL Tryz.prog 196 [a0, a1] w fun x7 w =>
  RD Tryz.prog (bin .geq 3 (.tmp 0) (.const undef) x7 (Value.int .i64 0)) w fun x8 =>
  R x8 w
def cfg208 : Cfg := { ext := extL, joins := [], loops := [], draws := [], pars := [] }
theorem F208_eq (a0 a1 : Value) (w : World) (R : Value → World → Prop) : vcF Tryz.prog cfg208 Tryz.f208 [a0, a1] w R = F208 a0 a1 w R := by kernel_rfl
theorem F208_call {a0 a1 : Value} {w : World} {R : Value → World → Prop} (h : F208 a0 a1 w R) : CALL Tryz.prog 208 [a0, a1] w R :=
  call_of (g := cfg208) ent mixed Tryz.func208 (Nat.le_of_ble_eq_true (by kernel_rfl)) (by kernel_rfl) (F208_eq a0 a1 w R ▸ h)


theorem containsStr_ok {w : World} {v0 : Value} {W0 : World} {l : (List ByteArray)} {s : ByteArray}  (h0 : Is W0 v0 l) (e0 : Ext W0 w)  :
    CALL Tryz.prog 208 [v0, .string s] w fun r w' => Ext w w' ∧ (r = .bool (decide (s ∈ l))) := by
  refine F208_call ?_
  unfold F208
  refine (indexStr_ok h0 e0).mono ?_
  rintro _ w1_ ⟨hx1_, rfl⟩
  refine rd_geq ?_
  refine ⟨hx1_, ?_⟩
  simp [plc_iff]

/-- spec.l04Has -/
def F232 (a0 a1 : Value) (w : World) (R : Value → World → Prop) : Prop :=
  LOOPI [5] [(Value.int .i64 0)] w fun u2 w next2 =>
   RD Tryz.prog (Builtin.len_ #[22] 3 [a0].toArray) w fun x8 =>
   RD Tryz.prog (bin .lss 3 (.tmp 0) (.tmp 0) (u2 5) x8) w fun x9 =>
   BR x9
    (RD Tryz.prog (Instr.indexAt 22 a0 (u2 5)) w fun x14 =>
    RD Tryz.prog (Instr.loadAt 9 x14) w fun x15 =>
    RD Tryz.prog (bin .eql 9 (.tmp 0) (.tmp 0) x15 a1) w fun x17 =>
    BR x17
     (R (Value.bool true) w)
     (RD Tryz.prog (bin .add 3 (.tmp 0) (.const undef) (u2 5) (Value.int .i64 1)) w fun x11 =>
     next2 [x11] w))
    (R (Value.bool false) w)
def cfg232 : Cfg := { ext := extL, joins := [], loops := [(2, 262128, [5])], draws := [], pars := [] }
theorem F232_eq (a0 a1 : Value) (w : World) (R : Value → World → Prop) : vcF Tryz.prog cfg232 Tryz.f232 [a0, a1] w R = F232 a0 a1 w R := by kernel_rfl
theorem F232_call {a0 a1 : Value} {w : World} {R : Value → World → Prop} (h : F232 a0 a1 w R) : CALL Tryz.prog 232 [a0, a1] w R :=
  call_of (g := cfg232) ent mixed Tryz.func232 (Nat.le_of_ble_eq_true (by kernel_rfl)) (by kernel_rfl) (F232_eq a0 a1 w R ▸ h)


theorem l04Has_ok {w : World} {v0 : Value} {W0 : World} {l : (List ByteArray)} {s : ByteArray}  (h0 : Is W0 v0 l) (e0 : Ext W0 w)  :
    CALL Tryz.prog 232 [v0, .string s] w fun r w' => Ext w w' ∧ (r = .bool (decide (s ∈ l))) := by
  refine F232_call ?_
  unfold F232
  refine loopC (l.length) (fun k us w' => us = [.int .i64 (k : Int)] ∧ Ext w w' ∧ (s ∉ l.take k)) (0) (by omega) ⟨by simp, Ext.refl w, by simp⟩ ?_
  rintro k m2 uu2 w1_ hk2 ⟨hu, hx1_, hinv⟩
  simp only [List.map_cons, List.map_nil, List.cons.injEq, and_true] at hu
  try rw [hu]
  try clear hu
  have hln8 := is_len h0
  refine rd_len u22 h0 ?_
  refine rd_lss ?_
  refine br (fun c1 => ?_) (fun c1 => ?_)
  · refine rd_indexN u22 ty9 h0 (by omega) fun b14 o14 h14 => ?_
    refine rd_loadS ty9 h14 (e0.trans hx1_) fun hS15 => ?_
    refine rd_eqlS ?_
    refine br (fun c2 => ?_) (fun c2 => ?_)
    · refine ⟨hx1_, ?_⟩
      have : s ∈ l := c2 ▸ List.getElem_mem _
      simp [this]
    · refine rd_inc (by omega) ?_
      refine ⟨m2 - 1, by omega, k + 1, by omega, by simp, hx1_, ?_⟩
      exact mem_take_succS (by omega) hinv c2
  · refine ⟨hx1_, ?_⟩
    rw [List.take_of_length_le (by omega)] at hinv
    simp [hinv]

/-- impl.areNames -/
def F206 (a0 a1 : Value) (w : World) (R : Value → World → Prop) : Prop :=
  RD Tryz.prog (Builtin.len_ #[22] 3 [a0].toArray) w fun x8 =>
  RD Tryz.prog (bin .gtr 3 (.tmp 0) (.tmp 0) x8 a1) w fun x10 =>
  BR x10
   (R (Value.bool false) w)
   (RD Tryz.prog (Builtin.len_ #[22] 3 [a0].toArray) w fun x12 =>
   LOOPI [13] [(Value.int .i64 0)] w fun u4 w next4 =>
    RD Tryz.prog (bin .lss 3 (.tmp 0) (.tmp 0) (u4 13) x12) w fun x14 =>
    BR x14
     (RD Tryz.prog (Instr.indexAt 22 a0 (u4 13)) w fun x15 =>
     RD Tryz.prog (Instr.loadAt 9 x15) w fun x16 =>
     CALL Tryz.prog 254 [x16] w fun x18 w =>
     RD Tryz.prog (Op.unary .not x18) w fun x19 =>
     BR x19
      (R (Value.bool false) w)
      (RD Tryz.prog (bin .add 3 (.tmp 0) (.const undef) (u4 13) (Value.int .i64 1)) w fun x20 =>
      next4 [x20] w))
     (R (Value.bool true) w))
def cfg206 : Cfg := { ext := extL, joins := [], loops := [(4, 2089040, [13])], draws := [], pars := [] }
theorem F206_eq (a0 a1 : Value) (w : World) (R : Value → World → Prop) : vcF Tryz.prog cfg206 Tryz.f206 [a0, a1] w R = F206 a0 a1 w R := by kernel_rfl
theorem F206_call {a0 a1 : Value} {w : World} {R : Value → World → Prop} (h : F206 a0 a1 w R) : CALL Tryz.prog 206 [a0, a1] w R :=
  call_of (g := cfg206) ent mixed Tryz.func206 (Nat.le_of_ble_eq_true (by kernel_rfl)) (by kernel_rfl) (F206_eq a0 a1 w R ▸ h)


theorem areNames_ok {w : World} {v0 : Value} {W0 : World} {l : (List ByteArray)} {m : Int}  (h0 : Is W0 v0 l) (e0 : Ext W0 w)  :
    CALL Tryz.prog 206 [v0, .int .i64 m] w fun r w' => Ext w w' ∧ (r = .bool (decide ((l.length : Int) ≤ m) && l.all nameB)) := by
  refine F206_call ?_
  unfold F206
  have hln8 := is_len h0
  refine rd_len u22 h0 ?_
  refine rd_gtr ?_
  refine br (fun c1 => ?_) (fun c1 => ?_)
  · refine ⟨Ext.refl w, ?_⟩
    simp [show ¬ (l.length : Int) ≤ m by omega]
  · have hln12 := is_len h0
    refine rd_len u22 h0 ?_
    refine loopC (l.length) (fun k us w' => us = [.int .i64 (k : Int)] ∧ Ext w w' ∧ ((l.take k).all nameB = true)) (0) (by omega) ⟨by simp, Ext.refl w, by simp⟩ ?_
    rintro k m4 uu4 w1_ hk4 ⟨hu, hx1_, hinv⟩
    simp only [List.map_cons, List.map_nil, List.cons.injEq, and_true] at hu
    try rw [hu]
    try clear hu
    refine rd_lss ?_
    refine br (fun c2 => ?_) (fun c2 => ?_)
    · refine rd_indexN u22 ty9 h0 (by omega) fun b15 o15 h15 => ?_
      refine rd_loadS ty9 h15 (e0.trans hx1_) fun hS16 => ?_
      refine (implIsName_ok ).mono ?_
      rintro _ w2_ ⟨hx2_, rfl⟩
      refine rd_not ?_
      refine br_b (fun c3 => ?_) (fun c3 => ?_)
      · refine ⟨(hx1_.trans hx2_), ?_⟩
        simp only [all_false (p := nameB) (l := l) (k := k) (by omega) (by simpa using c3), Bool.and_false]
      · have hln := is_len h0
        refine rd_inc (by omega) ?_
        refine ⟨m4 - 1, by omega, k + 1, by omega, by simp, (hx1_.trans hx2_), ?_⟩
        exact all_take (by omega) hinv (by simpa using c3)
    · refine ⟨hx1_, ?_⟩
      simp [all_done (p := nameB) (l := l) (by omega) hinv, show (l.length : Int) ≤ m by omega]

/-- spec.l05Names -/
def F199 (a0 a1 : Value) (w : World) (R : Value → World → Prop) : Prop :=
  RD Tryz.prog (Builtin.len_ #[22] 3 [a0].toArray) w fun x7 =>
  RD Tryz.prog (bin .gtr 3 (.tmp 0) (.tmp 0) x7 a1) w fun x9 =>
  BR x9
   (R (Value.bool false) w)
   (LOOPI [5] [(Value.int .i64 0)] w fun u4 w next4 =>
    RD Tryz.prog (Builtin.len_ #[22] 3 [a0].toArray) w fun x12 =>
    RD Tryz.prog (bin .lss 3 (.tmp 0) (.tmp 0) (u4 5) x12) w fun x13 =>
    BR x13
     (RD Tryz.prog (Instr.indexAt 22 a0 (u4 5)) w fun x18 =>
     RD Tryz.prog (Instr.loadAt 9 x18) w fun x19 =>
     CALL Tryz.prog 252 [x19] w fun x20 w =>
     RD Tryz.prog (Op.unary .not x20) w fun x21 =>
     BR x21
      (R (Value.bool false) w)
      (RD Tryz.prog (bin .add 3 (.tmp 0) (.const undef) (u4 5) (Value.int .i64 1)) w fun x15 =>
      next4 [x15] w))
     (R (Value.bool true) w))
def cfg199 : Cfg := { ext := extL, joins := [], loops := [(4, 4193328, [5])], draws := [], pars := [] }
theorem F199_eq (a0 a1 : Value) (w : World) (R : Value → World → Prop) : vcF Tryz.prog cfg199 Tryz.f199 [a0, a1] w R = F199 a0 a1 w R := by kernel_rfl
theorem F199_call {a0 a1 : Value} {w : World} {R : Value → World → Prop} (h : F199 a0 a1 w R) : CALL Tryz.prog 199 [a0, a1] w R :=
  call_of (g := cfg199) ent mixed Tryz.func199 (Nat.le_of_ble_eq_true (by kernel_rfl)) (by kernel_rfl) (F199_eq a0 a1 w R ▸ h)


theorem l05Names_ok {w : World} {v0 : Value} {W0 : World} {l : (List ByteArray)} {m : Int}  (h0 : Is W0 v0 l) (e0 : Ext W0 w)  :
    CALL Tryz.prog 199 [v0, .int .i64 m] w fun r w' => Ext w w' ∧ (r = .bool (decide ((l.length : Int) ≤ m) && l.all nameB)) := by
  refine F199_call ?_
  unfold F199
  have hln7 := is_len h0
  refine rd_len u22 h0 ?_
  refine rd_gtr ?_
  refine br (fun c1 => ?_) (fun c1 => ?_)
  · refine ⟨Ext.refl w, ?_⟩
    simp [show ¬ (l.length : Int) ≤ m by omega]
  · refine loopC (l.length) (fun k us w' => us = [.int .i64 (k : Int)] ∧ Ext w w' ∧ ((l.take k).all nameB = true)) (0) (by omega) ⟨by simp, Ext.refl w, by simp⟩ ?_
    rintro k m4 uu4 w1_ hk4 ⟨hu, hx1_, hinv⟩
    simp only [List.map_cons, List.map_nil, List.cons.injEq, and_true] at hu
    try rw [hu]
    try clear hu
    have hln12 := is_len h0
    refine rd_len u22 h0 ?_
    refine rd_lss ?_
    refine br (fun c2 => ?_) (fun c2 => ?_)
    · refine rd_indexN u22 ty9 h0 (by omega) fun b18 o18 h18 => ?_
      refine rd_loadS ty9 h18 (e0.trans hx1_) fun hS19 => ?_
      refine (specIsName_ok ).mono ?_
      rintro _ w2_ ⟨hx2_, rfl⟩
      refine rd_not ?_
      refine br_b (fun c3 => ?_) (fun c3 => ?_)
      · refine ⟨(hx1_.trans hx2_), ?_⟩
        simp only [all_false (p := nameB) (l := l) (k := k) (by omega) (by simpa using c3), Bool.and_false]
      · refine rd_inc (by omega) ?_
        refine ⟨m4 - 1, by omega, k + 1, by omega, by simp, (hx1_.trans hx2_), ?_⟩
        exact all_take (by omega) hinv (by simpa using c3)
    · refine ⟨hx1_, ?_⟩
      simp [all_done (p := nameB) (l := l) (by omega) hinv, show (l.length : Int) ≤ m by omega]

/-- are two of the list the same? -/
instance decNodup : ∀ (l : List ByteArray), Decidable l.Nodup
  | [] => isTrue List.nodup_nil
  | x :: l => match decMemBA x l, decNodup l with
    | isFalse h, isTrue h' => isTrue (List.nodup_cons.2 ⟨h, h'⟩)
    | isTrue h, _ => isFalse fun e => (List.nodup_cons.1 e).1 h
    | _, isFalse h => isFalse fun e => h (List.nodup_cons.1 e).2
theorem dup_of {l : List ByteArray} {k : Nat} (hk : k < l.length) (h : l[k] ∈ l.drop (k + 1)) : ¬ l.Nodup := fun hn => by
  have e : l = l.take k ++ (l[k] :: l.drop (k + 1)) := by simp
  rw [e, List.nodup_append] at hn
  exact (List.nodup_cons.1 hn.2.1).1 h
theorem dup_of' {l : List ByteArray} {k : Nat} (hk : k < l.length) (h : l[k] ∈ l.take k) : ¬ l.Nodup := fun hn => by
  have e : l = l.take k ++ (l[k] :: l.drop (k + 1)) := by simp
  rw [e, List.nodup_append] at hn
  exact hn.2.2 _ h _ List.mem_cons_self rfl
theorem nodup_take_succ {l : List ByteArray} {k : Nat} (hk : k < l.length) (h : (l.take k).Nodup) (c : l[k] ∉ l.take k) : (l.take (k + 1)).Nodup := by
  rw [List.take_succ_eq_append_getElem hk, List.nodup_append]
  refine ⟨h, by simp, fun a ha b hb e => ?_⟩
  simp only [List.mem_cons, List.not_mem_nil, or_false] at hb
  subst e; subst hb
  exact c ha
theorem nodup_of_drops : ∀ {l : List ByteArray}, (∀ (k : Nat) (hk : k < l.length), l[k] ∉ l.drop (k + 1)) → l.Nodup
  | [], _ => List.nodup_nil
  | x :: l, h => List.nodup_cons.2 ⟨h 0 (by simp), nodup_of_drops fun k hk => h (k + 1) (by simpa using hk)⟩
/-- impl.hasTwice -/
def F207 (a0 : Value) (w : World) (R : Value → World → Prop) : Prop :=
  RD Tryz.prog (Builtin.len_ #[22] 3 [a0].toArray) w fun x6 =>
  LOOPI [7] [(Value.int .i64 0)] w fun u2 w next2 =>
   RD Tryz.prog (bin .lss 3 (.tmp 0) (.tmp 0) (u2 7) x6) w fun x8 =>
   BR x8
    (RD Tryz.prog (Instr.indexAt 22 a0 (u2 7)) w fun x10 =>
    RD Tryz.prog (Instr.loadAt 9 x10) w fun x11 =>
    RD Tryz.prog (bin .add 3 (.tmp 0) (.const undef) (u2 7) (Value.int .i64 1)) w fun x14 =>
    RD Tryz.prog (Instr.sliceAt 22 a0 (some x14) none none) w fun x15 =>
    CALL Tryz.prog 208 [x15, x11] w fun x17 w =>
    BR x17
     (R (Value.bool true) w)
     (RD Tryz.prog (bin .add 3 (.tmp 0) (.const undef) (u2 7) (Value.int .i64 1)) w fun x18 =>
     next2 [x18] w))
    (R (Value.bool false) w)
def cfg207 : Cfg := { ext := extL, joins := [], loops := [(2, 524188, [7])], draws := [], pars := [] }
theorem F207_eq (a0 : Value) (w : World) (R : Value → World → Prop) : vcF Tryz.prog cfg207 Tryz.f207 [a0] w R = F207 a0 w R := by kernel_rfl
theorem F207_call {a0 : Value} {w : World} {R : Value → World → Prop} (h : F207 a0 w R) : CALL Tryz.prog 207 [a0] w R :=
  call_of (g := cfg207) ent mixed Tryz.func207 (Nat.le_of_ble_eq_true (by kernel_rfl)) (by kernel_rfl) (F207_eq a0 w R ▸ h)


theorem hasTwice_ok {w : World} {v0 : Value} {W0 : World} {l : (List ByteArray)}  (h0 : Is W0 v0 l) (e0 : Ext W0 w)  :
    CALL Tryz.prog 207 [v0] w fun r w' => Ext w w' ∧ (r = .bool (decide (¬ l.Nodup))) := by
  refine F207_call ?_
  unfold F207
  have hln6 := is_len h0
  refine rd_len u22 h0 ?_
  refine loopC (l.length) (fun k us w' => us = [.int .i64 (k : Int)] ∧ Ext w w' ∧ (∀ (j : Nat) (hj : j < l.length), j < k → l[j] ∉ l.drop (j + 1))) (0) (by omega) ⟨by simp, Ext.refl w, fun j hj h => by omega⟩ ?_
  rintro k m2 uu2 w1_ hk2 ⟨hu, hx1_, hinv⟩
  simp only [List.map_cons, List.map_nil, List.cons.injEq, and_true] at hu
  try rw [hu]
  try clear hu
  have hln := is_len h0
  refine rd_lss ?_
  refine br (fun c1 => ?_) (fun c1 => ?_)
  · refine rd_indexN u22 ty9 h0 (by omega) fun b10 o10 h10 => ?_
    refine rd_loadS ty9 h10 (e0.trans hx1_) fun hS11 => ?_
    refine rd_inc (by omega) ?_
    refine rd_slice_from u22 ty9 h0 (by omega) (by omega) fun v15 h15 => ?_
    refine (containsStr_ok h15 (e0.trans hx1_)).mono ?_
    rintro _ w2_ ⟨hx2_, rfl⟩
    refine br (fun c2 => ?_) (fun c2 => ?_)
    · refine ⟨(hx1_.trans hx2_), ?_⟩
      simp [dup_of (by omega) c2]
    · refine rd_inc (by omega) ?_
      refine ⟨m2 - 1, by omega, k + 1, by omega, by simp, (hx1_.trans hx2_), ?_⟩
      intro j hj hjk
      by_cases h : j = k
      · subst h; exact c2
      · exact hinv j hj (by omega)
  · refine ⟨hx1_, ?_⟩
    simp [nodup_of_drops fun j hj => hinv j hj (by omega)]

/-- spec.l07Twice -/
def F200 (a0 : Value) (w : World) (R : Value → World → Prop) : Prop :=
  LOOPI [3] [(Value.int .i64 0)] w fun u2 w next2 =>
   RD Tryz.prog (Builtin.len_ #[22] 3 [a0].toArray) w fun x6 =>
   RD Tryz.prog (bin .lss 3 (.tmp 0) (.tmp 0) (u2 3) x6) w fun x7 =>
   BR x7
    ((fun w => RD Tryz.prog (Instr.sliceAt 22 a0 none (some (u2 3)) none) w fun x12 =>
    RD Tryz.prog (Instr.indexAt 22 a0 (u2 3)) w fun x15 =>
    RD Tryz.prog (Instr.loadAt 9 x15) w fun x16 =>
    CALL Tryz.prog 232 [x12, x16] w fun x17 w =>
    BR x17
     (R (Value.bool true) w)
     (RD Tryz.prog (bin .add 3 (.tmp 0) (.const undef) (u2 3) (Value.int .i64 1)) w fun x9 =>
     next2 [x9] w)) (World.drew1 w))
    (R (Value.bool false) w)
def cfg200 : Cfg := { ext := extL, joins := [], loops := [(2, 262140, [3])], draws := [(4, [0, 1, 2, 3, 4, 5, 6, 7], 0)], pars := [] }
theorem F200_eq (a0 : Value) (w : World) (R : Value → World → Prop) : vcF Tryz.prog cfg200 Tryz.f200 [a0] w R = F200 a0 w R := by kernel_rfl
theorem F200_call {a0 : Value} {w : World} {R : Value → World → Prop} (h : F200 a0 w R) : CALL Tryz.prog 200 [a0] w R :=
  call_of (g := cfg200) ent mixed Tryz.func200 (Nat.le_of_ble_eq_true (by kernel_rfl)) (by kernel_rfl) (F200_eq a0 w R ▸ h)


theorem l07Twice_ok {w : World} {v0 : Value} {W0 : World} {l : (List ByteArray)}  (h0 : Is W0 v0 l) (e0 : Ext W0 w)  :
    CALL Tryz.prog 200 [v0] w fun r w' => Ext w w' ∧ (r = .bool (decide (¬ l.Nodup))) := by
  refine F200_call ?_
  unfold F200
  refine loopC (l.length) (fun k us w' => us = [.int .i64 (k : Int)] ∧ Ext w w' ∧ ((l.take k).Nodup)) (0) (by omega) ⟨by simp, Ext.refl w, by simp⟩ ?_
  rintro k m2 uu2 w1_ hk2 ⟨hu, hx1_, hinv⟩
  simp only [List.map_cons, List.map_nil, List.cons.injEq, and_true] at hu
  try rw [hu]
  try clear hu
  have hln := is_len h0
  have hln6 := is_len h0
  refine rd_len u22 h0 ?_
  refine rd_lss ?_
  refine br (fun c1 => ?_) (fun c1 => ?_)
  · have hx2_ := ext_drew w1_
    refine rd_slice_to u22 ty9 h0 (by omega) (by omega) fun v12 h12 => ?_
    refine rd_indexN u22 ty9 h0 (by omega) fun b15 o15 h15 => ?_
    refine rd_loadS ty9 h15 (e0.trans (hx1_.trans hx2_)) fun hS16 => ?_
    refine (l04Has_ok h12 (e0.trans (hx1_.trans hx2_))).mono ?_
    rintro _ w3_ ⟨hx3_, rfl⟩
    refine br (fun c2 => ?_) (fun c2 => ?_)
    · refine ⟨(hx1_.trans (hx2_.trans hx3_)), ?_⟩
      simp [dup_of' (by omega) c2]
    · refine rd_inc (by omega) ?_
      refine ⟨m2 - 1, by omega, k + 1, by omega, by simp, (hx1_.trans (hx2_.trans hx3_)), ?_⟩
      exact nodup_take_succ (by omega) hinv c2
  · refine ⟨hx1_, ?_⟩
    rw [List.take_of_length_le (by omega)] at hinv
    simp [hinv]

end Go.Proofs.YteephmhilnlkpaaGreat
