/-
  Marks in touches.
-/
import Derived.Test.YtokppocbfpjngaaMarks
namespace Go.Proofs.Ytokppocbfpjngaa
open Go Go.Sh Go.Proofs
set_option linter.unusedVariables false
/-- laws.markTouchS -/
def F34 (a0 a1 : Value) (w : World) (R : Value → World → Prop) : Prop :=
  LOOPI [1, 5] [a1, (Value.int .i64 0)] w fun u2 w next2 =>
   RD Try.prog (Builtin.len_ #[50] 3 [a0].toArray) w fun x8 =>
   RD Try.prog (bin .lss 3 (.tmp 0) (.tmp 0) (u2 5) x8) w fun x9 =>
   BR x9
    (RD Try.prog (Instr.indexAt 50 a0 (u2 5)) w fun x15 =>
    RD Try.prog (Instr.fieldAt 80 x15 0) w fun x16 =>
    OPU Try.prog (Instr.storeAt 3 x16 (u2 1)) w fun w =>
    RD Try.prog (bin .add 3 (.tmp 0) (.const undef) (u2 1) (Value.int .i64 1)) w fun x18 =>
    RD Try.prog (Instr.indexAt 50 a0 (u2 5)) w fun x22 =>
    RD Try.prog (Instr.fieldAt 80 x22 1) w fun x23 =>
    OPU Try.prog (Instr.storeAt 3 x23 x18) w fun w =>
    RD Try.prog (bin .add 3 (.tmp 0) (.const undef) x18 (Value.int .i64 1)) w fun x25 =>
    RD Try.prog (bin .rem 3 (.tmp 0) (.const undef) x25 (Value.int .i64 3)) w fun x29 =>
    RD Try.prog (bin .eql 3 (.tmp 0) (.const undef) x29 (Value.int .i64 0)) w fun x30 =>
    RD Try.prog (Instr.indexAt 50 a0 (u2 5)) w fun x31 =>
    RD Try.prog (Instr.fieldAt 80 x31 2) w fun x32 =>
    OPU Try.prog (Instr.storeAt 4 x32 x30) w fun w =>
    RD Try.prog (bin .add 3 (.tmp 0) (.const undef) x25 (Value.int .i64 1)) w fun x34 =>
    RD Try.prog (Instr.indexAt 50 a0 (u2 5)) w fun x38 =>
    RD Try.prog (Instr.fieldAt 80 x38 3) w fun x39 =>
    OPU Try.prog (Instr.storeAt 3 x39 x34) w fun w =>
    RD Try.prog (bin .add 3 (.tmp 0) (.const undef) x34 (Value.int .i64 1)) w fun x41 =>
    RD Try.prog (bin .add 3 (.tmp 0) (.const undef) (u2 5) (Value.int .i64 1)) w fun x11 =>
    next2 [x41, x11] w)
    (R (u2 1) w)
def cfg34 : Cfg := { ext := extL, joins := [], loops := [(2, 4398046511074, [1, 5])], draws := [], pars := [] }
theorem F34_eq (a0 a1 : Value) (w : World) (R : Value → World → Prop) : vcF Try.prog cfg34 Try.f34 [a0, a1] w R = F34 a0 a1 w R := by kernel_rfl
theorem F34_call {a0 a1 : Value} {w : World} {R : Value → World → Prop} (h : F34 a0 a1 w R) : CALL Try.prog 34 [a0, a1] w R :=
  call_of (g := cfg34) ent mixed Try.func34 (Nat.le_of_ble_eq_true (by kernel_rfl)) (by kernel_rfl) (F34_eq a0 a1 w R ▸ h)

/-- laws.heldTouchS -/
def F35 (a0 a1 : Value) (w : World) (R : Value → World → Prop) : Prop :=
  LOOPI [1, 5] [a1, (Value.int .i64 0)] w fun u2 w next2 =>
   RD Try.prog (Builtin.len_ #[50] 3 [a0].toArray) w fun x8 =>
   RD Try.prog (bin .lss 3 (.tmp 0) (.tmp 0) (u2 5) x8) w fun x9 =>
   BR x9
    (RD Try.prog (Instr.indexAt 50 a0 (u2 5)) w fun x14 =>
    RD Try.prog (Instr.fieldAt 80 x14 0) w fun x15 =>
    RD Try.prog (Instr.loadAt 3 x15) w fun x16 =>
    RD Try.prog (bin .neq 3 (.tmp 0) (.tmp 0) x16 (u2 1)) w fun x18 =>
    BR x18
     (R (Value.int .i64 (-1)) w)
     (RD Try.prog (bin .add 3 (.tmp 0) (.const undef) (u2 1) (Value.int .i64 1)) w fun x20 =>
     RD Try.prog (Instr.indexAt 50 a0 (u2 5)) w fun x23 =>
     RD Try.prog (Instr.fieldAt 80 x23 1) w fun x24 =>
     RD Try.prog (Instr.loadAt 3 x24) w fun x25 =>
     RD Try.prog (bin .neq 3 (.tmp 0) (.tmp 0) x25 x20) w fun x27 =>
     BR x27
      (R (Value.int .i64 (-1)) w)
      (RD Try.prog (bin .add 3 (.tmp 0) (.const undef) x20 (Value.int .i64 1)) w fun x29 =>
      RD Try.prog (Instr.indexAt 50 a0 (u2 5)) w fun x32 =>
      RD Try.prog (Instr.fieldAt 80 x32 2) w fun x33 =>
      RD Try.prog (Instr.loadAt 4 x33) w fun x34 =>
      RD Try.prog (bin .rem 3 (.tmp 0) (.const undef) x29 (Value.int .i64 3)) w fun x36 =>
      RD Try.prog (bin .eql 3 (.tmp 0) (.const undef) x36 (Value.int .i64 0)) w fun x37 =>
      RD Try.prog (bin .neq 4 (.tmp 0) (.tmp 0) x34 x37) w fun x38 =>
      BR x38
       (R (Value.int .i64 (-1)) w)
       (RD Try.prog (bin .add 3 (.tmp 0) (.const undef) x29 (Value.int .i64 1)) w fun x40 =>
       RD Try.prog (Instr.indexAt 50 a0 (u2 5)) w fun x43 =>
       RD Try.prog (Instr.fieldAt 80 x43 3) w fun x44 =>
       RD Try.prog (Instr.loadAt 3 x44) w fun x45 =>
       RD Try.prog (bin .neq 3 (.tmp 0) (.tmp 0) x45 x40) w fun x47 =>
       BR x47
        (R (Value.int .i64 (-1)) w)
        (RD Try.prog (bin .add 3 (.tmp 0) (.const undef) x40 (Value.int .i64 1)) w fun x49 =>
        RD Try.prog (bin .add 3 (.tmp 0) (.const undef) (u2 5) (Value.int .i64 1)) w fun x11 =>
        next2 [x49, x11] w)))))
    (R (u2 1) w)
def cfg35 : Cfg := { ext := extL, joins := [], loops := [(2, 1125899906842610, [1, 5])], draws := [], pars := [] }
theorem F35_eq (a0 a1 : Value) (w : World) (R : Value → World → Prop) : vcF Try.prog cfg35 Try.f35 [a0, a1] w R = F35 a0 a1 w R := by kernel_rfl
theorem F35_call {a0 a1 : Value} {w : World} {R : Value → World → Prop} (h : F35 a0 a1 w R) : CALL Try.prog 35 [a0, a1] w R :=
  call_of (g := cfg35) ent mixed Try.func35 (Nat.le_of_ble_eq_true (by kernel_rfl)) (by kernel_rfl) (F35_eq a0 a1 w R ▸ h)

set_option linter.unusedVariables false
set_option linter.unusedSimpArgs false

def mk1Touch (k : Int) : DTouch := ⟨k, k + 1, decide ((k + 1 + 1).tmod 3 = 0), k + 1 + 1 + 1⟩
def mkLTouch (k : Int) (n : Nat) : List DTouch := (List.range n).map fun i : Nat => mk1Touch (k + 4 * (i : Int))
theorem mkLTouch_len (k : Int) (n : Nat) : (mkLTouch k n).length = n := by simp [mkLTouch]
theorem mkLTouch_succ (k : Int) (n : Nat) : mkLTouch k (n + 1) = mkLTouch k n ++ [mk1Touch (k + 4 * (n : Int))] := by simp [mkLTouch, List.range_succ]
theorem mkLTouch_get (k : Int) (n : Nat) {i : Nat} (hi : i < n) : (mkLTouch k n)[i]'(by rw [mkLTouch_len]; exact hi) = mk1Touch (k + 4 * (i : Int)) := by simp [mkLTouch]
theorem markTouchS_ok {w : World} {F : List Nat} {v : Value} {l : List DTouch} {k : Int} (h : Mine F w v l) (hn : l.length ≤ 1073741824) (hk0 : 0 ≤ k) (hk1 : k ≤ 1000000000000000000) :
    CALL Try.prog 34 [v, .int .i64 k] w fun r w' => r = .int .i64 (k + 4 * (l.length : Int)) ∧ Chg F w w' ∧ OwnS F w' v (mkLTouch k l.length) := by
  refine F34_call ?_
  unfold F34
  refine loopC l.length (fun i us w' => us = [.int .i64 (k + 4 * (i : Int)), .int .i64 (i : Int)] ∧ Chg F w w' ∧ OwnS F w' v (mkLTouch k i ++ l.drop i)) 0 (Nat.zero_le _) ⟨by simp, Chg.refl _ _, by simpa [mkLTouch] using h.toS⟩ ?_
  rintro i m u w0 hkm ⟨hu, hc, F', hm0, hF'⟩
  simp only [List.map_cons, List.map_nil, List.cons.injEq, and_true] at hu
  obtain ⟨hu1, hu2⟩ := hu
  rw [hu1, hu2]
  have hlen : (mkLTouch k i ++ l.drop i).length = l.length := by rw [List.length_append, mkLTouch_len, List.length_drop]; omega
  refine rd_len u50 hm0.is ?_
  rw [hlen]
  refine rd_lss ?_
  refine br (fun hlt => ?_) (fun hge => ?_)
  · have hi : i < l.length := by omega
    have hset : (mkLTouch k i ++ l.drop i).set i (mk1Touch (k + 4 * (i : Int))) = mkLTouch k (i + 1) ++ l.drop (i + 1) := by
      rw [List.drop_eq_getElem_cons hi, List.set_append_right _ _ (by rw [mkLTouch_len]; omega), mkLTouch_len, Nat.sub_self, List.set_cons_zero, mkLTouch_succ]
      simp only [List.append_assoc, List.cons_append, List.nil_append]
    generalize hL : mkLTouch k i ++ l.drop i = L at hm0 hlen hset
    clear hL
    obtain ⟨q, hq⟩ : ∃ q, q = k + 4 * (i : Int) := ⟨_, rfl⟩
    rw [← hq] at hset ⊢
    refine st_fld (α := DTouch) (β := Int) (sel := DTouch.at_) (g := fun a y => ⟨y, a.global, a.write, a.held⟩) u50 ty80 fd80_0 ty3 (fun h => lens_DTouch_0 h) hm0 (by first | omega | (simp only [List.length_set]; omega)) (mine_int (by unfold I64; omega)) fun w1 F1 hc1 hm1 hF1 => ?_
    refine rd_add (by unfold I64; omega) ?_
    refine st_fld (α := DTouch) (β := Int) (sel := DTouch.global) (g := fun a y => ⟨a.at_, y, a.write, a.held⟩) u50 ty80 fd80_1 ty3 (fun h => lens_DTouch_1 h) hm1 (by first | omega | (simp only [List.length_set]; omega)) (mine_int (by unfold I64; omega)) fun w2 F2 hc2 hm2 hF2 => ?_
    refine rd_add (by unfold I64; omega) ?_
    refine rd_rem (by omega) ?_
    refine rd_eql ?_
    refine st_fld (α := DTouch) (β := Bool) (sel := DTouch.write) (g := fun a y => ⟨a.at_, a.global, y, a.held⟩) u50 ty80 fd80_2 ty4 (fun h => lens_DTouch_2 h) hm2 (by first | omega | (simp only [List.length_set]; omega)) mine_bool fun w3 F3 hc3 hm3 hF3 => ?_
    refine rd_add (by unfold I64; omega) ?_
    refine st_fld (α := DTouch) (β := Int) (sel := DTouch.held) (g := fun a y => ⟨a.at_, a.global, a.write, y⟩) u50 ty80 fd80_3 ty3 (fun h => lens_DTouch_3 h) hm3 (by first | omega | (simp only [List.length_set]; omega)) (mine_int (by unfold I64; omega)) fun w4 F4 hc4 hm4 hF4 => ?_
    refine rd_add (by unfold I64; omega) ?_
    refine rd_inc (by omega) ?_
    simp only [List.set_set, List.getElem_set_self] at hm4
    have hcc : Chg F' w0 w4 := (((hc1).sub hc2 fun c hc => hF1 c hc).sub hc3 fun c hc => hF1 c (hF2 c hc)).sub hc4 fun c hc => hF1 c (hF2 c (hF3 c hc))
    refine ⟨m - 1, by omega, i + 1, by omega, by rw [hq]; simp only [List.cons.injEq, Value.int.injEq, true_and, and_true, Int.natCast_add, Int.natCast_one]; omega, hc.sub hcc hF', F4, ?_, fun c hc => hF' c (hF1 c (hF2 c (hF3 c (hF4 c hc))))⟩
    rw [← hset]; exact hm4
  · have : i = l.length := by omega
    subst this
    rw [List.drop_length, List.append_nil] at hm0
    exact ⟨rfl, hc, F', hm0, hF'⟩
theorem markTouchS_I {w : World} {lo hi : Nat} {v : Value} {l : List DTouch} {k : Int} (h : OwnI lo hi w v l) (hn : l.length ≤ 1073741824) (hk0 : 0 ≤ k) (hk1 : k ≤ 1000000000000000000) :
    CALL Try.prog 34 [v, .int .i64 k] w fun r w' => r = .int .i64 (k + 4 * (l.length : Int)) ∧ ChgI lo hi w w' ∧ OwnI lo hi w' v (mkLTouch k l.length) := by
  obtain ⟨F, hM, hF⟩ := h
  exact (markTouchS_ok hM hn hk0 hk1).mono fun r w' ⟨h1, h2, h3⟩ => ⟨h1, h2.toI hF, h3.toI hF⟩
theorem heldTouchS_ok {w w0 : World} {v : Value} {n : Nat} {k : Int} (h : Is w0 v (mkLTouch k n)) (hx : Ext w0 w) (hn : n ≤ 1073741824) (hk0 : 0 ≤ k) (hk1 : k ≤ 1000000000000000000) :
    CALL Try.prog 35 [v, .int .i64 k] w fun r w' => Ext w w' ∧ r = .int .i64 (k + 4 * (n : Int)) := by
  refine F35_call ?_
  unfold F35
  refine loopC n (fun i us w' => us = [.int .i64 (k + 4 * (i : Int)), .int .i64 (i : Int)] ∧ Ext w w') 0 (Nat.zero_le _) ⟨by simp, Ext.refl w⟩ ?_
  rintro i m u w2 hkm ⟨hu, hx2⟩
  simp only [List.map_cons, List.map_nil, List.cons.injEq, and_true] at hu
  obtain ⟨hu1, hu2⟩ := hu
  rw [hu1, hu2]
  refine rd_len u50 h ?_
  rw [mkLTouch_len]
  refine rd_lss ?_
  refine br (fun hlt => ?_) (fun hge => ?_)
  · have hi : i < n := by omega
    have hg := mkLTouch_get k n hi
    obtain ⟨q, hq⟩ : ∃ q, q = k + 4 * (i : Int) := ⟨_, rfl⟩
    rw [← hq] at hg ⊢
    refine rd_indexN u50 ty80 h (by rw [mkLTouch_len]; exact hi) fun b0 o0 hA0 => ?_
    rw [hg] at hA0
    refine rd_fld fd80_0 ?_
    refine rd_loadI ty3 (at_DTouch_0 hA0) (hx.trans hx2) fun _ => ?_
    refine rd_neq ?_
    refine br (fun h => absurd rfl h) (fun _ => ?_)
    refine rd_add (by unfold I64; omega) ?_
    refine rd_indexN u50 ty80 h (by rw [mkLTouch_len]; exact hi) fun b1 o1 hA1 => ?_
    rw [hg] at hA1
    refine rd_fld fd80_1 ?_
    refine rd_loadI ty3 (at_DTouch_1 hA1) (hx.trans hx2) fun _ => ?_
    refine rd_neq ?_
    refine br (fun h => absurd rfl h) (fun _ => ?_)
    refine rd_add (by unfold I64; omega) ?_
    refine rd_indexN u50 ty80 h (by rw [mkLTouch_len]; exact hi) fun b2 o2 hA2 => ?_
    rw [hg] at hA2
    refine rd_fld fd80_2 ?_
    refine rd_loadB ty4 (at_DTouch_2 hA2) (hx.trans hx2) ?_
    refine rd_rem (by omega) ?_
    refine rd_eql ?_
    refine rd_neqB u4 ?_
    refine br (fun h => absurd rfl h) (fun _ => ?_)
    refine rd_add (by unfold I64; omega) ?_
    refine rd_indexN u50 ty80 h (by rw [mkLTouch_len]; exact hi) fun b3 o3 hA3 => ?_
    rw [hg] at hA3
    refine rd_fld fd80_3 ?_
    refine rd_loadI ty3 (at_DTouch_3 hA3) (hx.trans hx2) fun _ => ?_
    refine rd_neq ?_
    refine br (fun h => absurd rfl h) (fun _ => ?_)
    refine rd_add (by unfold I64; omega) ?_
    refine rd_inc (by omega) ?_
    exact ⟨m - 1, by omega, i + 1, by omega, by rw [hq]; simp only [List.cons.injEq, Value.int.injEq, true_and, and_true, Int.natCast_add, Int.natCast_one]; omega, hx2⟩
  · have : i = n := by omega
    subst this
    exact ⟨hx2, rfl⟩

end Go.Proofs.Ytokppocbfpjngaa
