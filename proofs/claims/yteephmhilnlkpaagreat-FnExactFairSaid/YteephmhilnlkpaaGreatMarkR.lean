/-
  Marks in races.
-/
import Derived.Test.YteephmhilnlkpaaGreatMarks
namespace Go.Proofs.YteephmhilnlkpaaGreat
open Go Go.Sh Go.Proofs
set_option linter.unusedVariables false
/-- laws.markRaceS -/
def F47 (a0 a1 : Value) (w : World) (R : Value → World → Prop) : Prop :=
  LOOPI [1, 5] [a1, (Value.int .i64 0)] w fun u2 w next2 =>
   RD Tryz.prog (Builtin.len_ #[61] 3 [a0].toArray) w fun x8 =>
   RD Tryz.prog (bin .lss 3 (.tmp 0) (.tmp 0) (u2 5) x8) w fun x9 =>
   BR x9
    (RD Tryz.prog (Instr.indexAt 61 a0 (u2 5)) w fun x15 =>
    RD Tryz.prog (Instr.fieldAt 117 x15 0) w fun x16 =>
    OPU Tryz.prog (Instr.storeAt 3 x16 (u2 1)) w fun w =>
    RD Tryz.prog (bin .add 3 (.tmp 0) (.const undef) (u2 1) (Value.int .i64 1)) w fun x18 =>
    RD Tryz.prog (Instr.indexAt 61 a0 (u2 5)) w fun x22 =>
    RD Tryz.prog (Instr.fieldAt 117 x22 1) w fun x23 =>
    OPU Tryz.prog (Instr.storeAt 3 x23 x18) w fun w =>
    RD Tryz.prog (bin .add 3 (.tmp 0) (.const undef) x18 (Value.int .i64 1)) w fun x25 =>
    RD Tryz.prog (Instr.indexAt 61 a0 (u2 5)) w fun x29 =>
    RD Tryz.prog (Instr.fieldAt 117 x29 2) w fun x30 =>
    OPU Tryz.prog (Instr.storeAt 3 x30 x25) w fun w =>
    RD Tryz.prog (bin .add 3 (.tmp 0) (.const undef) x25 (Value.int .i64 1)) w fun x32 =>
    RD Tryz.prog (bin .add 3 (.tmp 0) (.const undef) (u2 5) (Value.int .i64 1)) w fun x11 =>
    next2 [x32, x11] w)
    (R (u2 1) w)
def cfg47 : Cfg := { ext := extL, joins := [], loops := [(2, 8589934562, [1, 5])], draws := [], pars := [] }
theorem F47_eq (a0 a1 : Value) (w : World) (R : Value → World → Prop) : vcF Tryz.prog cfg47 Tryz.f47 [a0, a1] w R = F47 a0 a1 w R := by kernel_rfl
theorem F47_call {a0 a1 : Value} {w : World} {R : Value → World → Prop} (h : F47 a0 a1 w R) : CALL Tryz.prog 47 [a0, a1] w R :=
  call_of (g := cfg47) ent mixed Tryz.func47 (Nat.le_of_ble_eq_true (by kernel_rfl)) (by kernel_rfl) (F47_eq a0 a1 w R ▸ h)

/-- laws.heldRaceS -/
def F48 (a0 a1 : Value) (w : World) (R : Value → World → Prop) : Prop :=
  LOOPI [1, 5] [a1, (Value.int .i64 0)] w fun u2 w next2 =>
   RD Tryz.prog (Builtin.len_ #[61] 3 [a0].toArray) w fun x8 =>
   RD Tryz.prog (bin .lss 3 (.tmp 0) (.tmp 0) (u2 5) x8) w fun x9 =>
   BR x9
    (RD Tryz.prog (Instr.indexAt 61 a0 (u2 5)) w fun x14 =>
    RD Tryz.prog (Instr.fieldAt 117 x14 0) w fun x15 =>
    RD Tryz.prog (Instr.loadAt 3 x15) w fun x16 =>
    RD Tryz.prog (bin .neq 3 (.tmp 0) (.tmp 0) x16 (u2 1)) w fun x18 =>
    BR x18
     (R (Value.int .i64 (-1)) w)
     (RD Tryz.prog (bin .add 3 (.tmp 0) (.const undef) (u2 1) (Value.int .i64 1)) w fun x20 =>
     RD Tryz.prog (Instr.indexAt 61 a0 (u2 5)) w fun x23 =>
     RD Tryz.prog (Instr.fieldAt 117 x23 1) w fun x24 =>
     RD Tryz.prog (Instr.loadAt 3 x24) w fun x25 =>
     RD Tryz.prog (bin .neq 3 (.tmp 0) (.tmp 0) x25 x20) w fun x27 =>
     BR x27
      (R (Value.int .i64 (-1)) w)
      (RD Tryz.prog (bin .add 3 (.tmp 0) (.const undef) x20 (Value.int .i64 1)) w fun x29 =>
      RD Tryz.prog (Instr.indexAt 61 a0 (u2 5)) w fun x32 =>
      RD Tryz.prog (Instr.fieldAt 117 x32 2) w fun x33 =>
      RD Tryz.prog (Instr.loadAt 3 x33) w fun x34 =>
      RD Tryz.prog (bin .neq 3 (.tmp 0) (.tmp 0) x34 x29) w fun x36 =>
      BR x36
       (R (Value.int .i64 (-1)) w)
       (RD Tryz.prog (bin .add 3 (.tmp 0) (.const undef) x29 (Value.int .i64 1)) w fun x38 =>
       RD Tryz.prog (bin .add 3 (.tmp 0) (.const undef) (u2 5) (Value.int .i64 1)) w fun x11 =>
       next2 [x38, x11] w))))
    (R (u2 1) w)
def cfg48 : Cfg := { ext := extL, joins := [], loops := [(2, 549755813874, [1, 5])], draws := [], pars := [] }
theorem F48_eq (a0 a1 : Value) (w : World) (R : Value → World → Prop) : vcF Tryz.prog cfg48 Tryz.f48 [a0, a1] w R = F48 a0 a1 w R := by kernel_rfl
theorem F48_call {a0 a1 : Value} {w : World} {R : Value → World → Prop} (h : F48 a0 a1 w R) : CALL Tryz.prog 48 [a0, a1] w R :=
  call_of (g := cfg48) ent mixed Tryz.func48 (Nat.le_of_ble_eq_true (by kernel_rfl)) (by kernel_rfl) (F48_eq a0 a1 w R ▸ h)

set_option linter.unusedVariables false
set_option linter.unusedSimpArgs false

def mk1Race (k : Int) : DRace := ⟨k, k + 1, k + 1 + 1⟩
def mkLRace (k : Int) (n : Nat) : List DRace := (List.range n).map fun i : Nat => mk1Race (k + 3 * (i : Int))
theorem mkLRace_len (k : Int) (n : Nat) : (mkLRace k n).length = n := by simp [mkLRace]
theorem mkLRace_succ (k : Int) (n : Nat) : mkLRace k (n + 1) = mkLRace k n ++ [mk1Race (k + 3 * (n : Int))] := by simp [mkLRace, List.range_succ]
theorem mkLRace_get (k : Int) (n : Nat) {i : Nat} (hi : i < n) : (mkLRace k n)[i]'(by rw [mkLRace_len]; exact hi) = mk1Race (k + 3 * (i : Int)) := by simp [mkLRace]
theorem markRaceS_ok {w : World} {F : List Nat} {v : Value} {l : List DRace} {k : Int} (h : Mine F w v l) (hn : l.length ≤ 1073741824) (hk0 : 0 ≤ k) (hk1 : k ≤ 1000000000000000000) :
    CALL Tryz.prog 47 [v, .int .i64 k] w fun r w' => r = .int .i64 (k + 3 * (l.length : Int)) ∧ Chg F w w' ∧ OwnS F w' v (mkLRace k l.length) := by
  refine F47_call ?_
  unfold F47
  refine loopC l.length (fun i us w' => us = [.int .i64 (k + 3 * (i : Int)), .int .i64 (i : Int)] ∧ Chg F w w' ∧ OwnS F w' v (mkLRace k i ++ l.drop i)) 0 (Nat.zero_le _) ⟨by simp, Chg.refl _ _, by simpa [mkLRace] using h.toS⟩ ?_
  rintro i m u w0 hkm ⟨hu, hc, F', hm0, hF'⟩
  simp only [List.map_cons, List.map_nil, List.cons.injEq, and_true] at hu
  obtain ⟨hu1, hu2⟩ := hu
  rw [hu1, hu2]
  have hlen : (mkLRace k i ++ l.drop i).length = l.length := by rw [List.length_append, mkLRace_len, List.length_drop]; omega
  refine rd_len u61 hm0.is ?_
  rw [hlen]
  refine rd_lss ?_
  refine br (fun hlt => ?_) (fun hge => ?_)
  · have hi : i < l.length := by omega
    have hset : (mkLRace k i ++ l.drop i).set i (mk1Race (k + 3 * (i : Int))) = mkLRace k (i + 1) ++ l.drop (i + 1) := by
      rw [List.drop_eq_getElem_cons hi, List.set_append_right _ _ (by rw [mkLRace_len]; omega), mkLRace_len, Nat.sub_self, List.set_cons_zero, mkLRace_succ]
      simp only [List.append_assoc, List.cons_append, List.nil_append]
    generalize hL : mkLRace k i ++ l.drop i = L at hm0 hlen hset
    clear hL
    obtain ⟨q, hq⟩ : ∃ q, q = k + 3 * (i : Int) := ⟨_, rfl⟩
    rw [← hq] at hset ⊢
    refine st_fld (α := DRace) (β := Int) (sel := DRace.g) (g := fun a y => ⟨y, a.a, a.b⟩) u61 ty117 fd117_0 ty3 (fun h => lens_DRace_0 h) hm0 (by first | omega | (simp only [List.length_set]; omega)) (mine_int (by unfold I64; omega)) fun w1 F1 hc1 hm1 hF1 => ?_
    refine rd_add (by unfold I64; omega) ?_
    refine st_fld (α := DRace) (β := Int) (sel := DRace.a) (g := fun a y => ⟨a.g, y, a.b⟩) u61 ty117 fd117_1 ty3 (fun h => lens_DRace_1 h) hm1 (by first | omega | (simp only [List.length_set]; omega)) (mine_int (by unfold I64; omega)) fun w2 F2 hc2 hm2 hF2 => ?_
    refine rd_add (by unfold I64; omega) ?_
    refine st_fld (α := DRace) (β := Int) (sel := DRace.b) (g := fun a y => ⟨a.g, a.a, y⟩) u61 ty117 fd117_2 ty3 (fun h => lens_DRace_2 h) hm2 (by first | omega | (simp only [List.length_set]; omega)) (mine_int (by unfold I64; omega)) fun w3 F3 hc3 hm3 hF3 => ?_
    refine rd_add (by unfold I64; omega) ?_
    refine rd_inc (by omega) ?_
    simp only [List.set_set, List.getElem_set_self] at hm3
    have hcc : Chg F' w0 w3 := ((hc1).sub hc2 fun c hc => hF1 c hc).sub hc3 fun c hc => hF1 c (hF2 c hc)
    refine ⟨m - 1, by omega, i + 1, by omega, by rw [hq]; simp only [List.cons.injEq, Value.int.injEq, true_and, and_true, Int.natCast_add, Int.natCast_one]; omega, hc.sub hcc hF', F3, ?_, fun c hc => hF' c (hF1 c (hF2 c (hF3 c hc)))⟩
    rw [← hset]; exact hm3
  · have : i = l.length := by omega
    subst this
    rw [List.drop_length, List.append_nil] at hm0
    exact ⟨rfl, hc, F', hm0, hF'⟩
theorem markRaceS_I {w : World} {lo hi : Nat} {v : Value} {l : List DRace} {k : Int} (h : OwnI lo hi w v l) (hn : l.length ≤ 1073741824) (hk0 : 0 ≤ k) (hk1 : k ≤ 1000000000000000000) :
    CALL Tryz.prog 47 [v, .int .i64 k] w fun r w' => r = .int .i64 (k + 3 * (l.length : Int)) ∧ ChgI lo hi w w' ∧ OwnI lo hi w' v (mkLRace k l.length) := by
  obtain ⟨F, hM, hF⟩ := h
  exact (markRaceS_ok hM hn hk0 hk1).mono fun r w' ⟨h1, h2, h3⟩ => ⟨h1, h2.toI hF, h3.toI hF⟩
theorem heldRaceS_ok {w w0 : World} {v : Value} {n : Nat} {k : Int} (h : Is w0 v (mkLRace k n)) (hx : Ext w0 w) (hn : n ≤ 1073741824) (hk0 : 0 ≤ k) (hk1 : k ≤ 1000000000000000000) :
    CALL Tryz.prog 48 [v, .int .i64 k] w fun r w' => Ext w w' ∧ r = .int .i64 (k + 3 * (n : Int)) := by
  refine F48_call ?_
  unfold F48
  refine loopC n (fun i us w' => us = [.int .i64 (k + 3 * (i : Int)), .int .i64 (i : Int)] ∧ Ext w w') 0 (Nat.zero_le _) ⟨by simp, Ext.refl w⟩ ?_
  rintro i m u w2 hkm ⟨hu, hx2⟩
  simp only [List.map_cons, List.map_nil, List.cons.injEq, and_true] at hu
  obtain ⟨hu1, hu2⟩ := hu
  rw [hu1, hu2]
  refine rd_len u61 h ?_
  rw [mkLRace_len]
  refine rd_lss ?_
  refine br (fun hlt => ?_) (fun hge => ?_)
  · have hi : i < n := by omega
    have hg := mkLRace_get k n hi
    obtain ⟨q, hq⟩ : ∃ q, q = k + 3 * (i : Int) := ⟨_, rfl⟩
    rw [← hq] at hg ⊢
    refine rd_indexN u61 ty117 h (by rw [mkLRace_len]; exact hi) fun b0 o0 hA0 => ?_
    rw [hg] at hA0
    refine rd_fld fd117_0 ?_
    refine rd_loadI ty3 (at_DRace_0 hA0) (hx.trans hx2) fun _ => ?_
    refine rd_neq ?_
    refine br (fun h => absurd rfl h) (fun _ => ?_)
    refine rd_add (by unfold I64; omega) ?_
    refine rd_indexN u61 ty117 h (by rw [mkLRace_len]; exact hi) fun b1 o1 hA1 => ?_
    rw [hg] at hA1
    refine rd_fld fd117_1 ?_
    refine rd_loadI ty3 (at_DRace_1 hA1) (hx.trans hx2) fun _ => ?_
    refine rd_neq ?_
    refine br (fun h => absurd rfl h) (fun _ => ?_)
    refine rd_add (by unfold I64; omega) ?_
    refine rd_indexN u61 ty117 h (by rw [mkLRace_len]; exact hi) fun b2 o2 hA2 => ?_
    rw [hg] at hA2
    refine rd_fld fd117_2 ?_
    refine rd_loadI ty3 (at_DRace_2 hA2) (hx.trans hx2) fun _ => ?_
    refine rd_neq ?_
    refine br (fun h => absurd rfl h) (fun _ => ?_)
    refine rd_add (by unfold I64; omega) ?_
    refine rd_inc (by omega) ?_
    exact ⟨m - 1, by omega, i + 1, by omega, by rw [hq]; simp only [List.cons.injEq, Value.int.injEq, true_and, and_true, Int.natCast_add, Int.natCast_one]; omega, hx2⟩
  · have : i = n := by omega
    subst this
    exact ⟨hx2, rfl⟩

end Go.Proofs.YteephmhilnlkpaaGreat
