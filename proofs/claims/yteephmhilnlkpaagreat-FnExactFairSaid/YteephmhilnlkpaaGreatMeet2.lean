/-
  A race put at its place in a list of one's own; races in order, each once.
-/
import Derived.Test.YteephmhilnlkpaaGreatSortR
import Derived.Test.YteephmhilnlkpaaGreatMake
namespace Go.Proofs.YteephmhilnlkpaaGreat
open Go Go.Sh Go.Proofs
set_option linter.unusedVariables false
/-- spec.l18Put -/
def F170 (a0 a1 : Value) (w : World) (R : Value → World → Prop) : Prop :=
  OP Tryz.prog (Instr.box 117 a1) w fun x3 w =>
  JOIN [5] (fun J4 =>
   LOOPI [5] [(Value.int .i64 0)] w fun u2 w next2 =>
    (fun w => RD Tryz.prog (Builtin.len_ #[61] 3 [a0].toArray) w fun x9 =>
    RD Tryz.prog (bin .lss 3 (.tmp 0) (.tmp 0) (u2 5) x9) w fun x10 =>
    BR x10
    (RD Tryz.prog (Instr.indexAt 61 a0 (u2 5)) w fun x14 =>
    RD Tryz.prog (Instr.loadAt 117 x14) w fun x15 =>
    RD Tryz.prog (Instr.loadAt 117 x3) w fun x16 =>
    CALL Tryz.prog 233 [x15, x16] w fun x17 w =>
    BR x17
     (RD Tryz.prog (bin .add 3 (.tmp 0) (.const undef) (u2 5) (Value.int .i64 1)) w fun x20 =>
     next2 [x20] w)
     (J4 [(u2 5)] w))
    (J4 [(u2 5)] w)) (World.drew1 w)) (fun u4 w =>
   JOIN [] (fun J6 =>
    (fun w => RD Tryz.prog (Builtin.len_ #[61] 3 [a0].toArray) w fun x23 =>
    RD Tryz.prog (bin .lss 3 (.tmp 0) (.tmp 0) (u4 5) x23) w fun x24 =>
    BR x24
    (RD Tryz.prog (Instr.indexAt 61 a0 (u4 5)) w fun x28 =>
    RD Tryz.prog (Instr.loadAt 117 x28) w fun x29 =>
    RD Tryz.prog (Instr.loadAt 117 x3) w fun x30 =>
    RD Tryz.prog (bin .eql 117 (.tmp 0) (.tmp 0) x29 x30) w fun x31 =>
    BR x31
     (R a0 w)
     (J6 [] w))
    (J6 [] w)) (World.drew1 w)) (fun u6 w =>
    OP Tryz.prog (Instr.buildSlice 61 0 #[]) w fun x34 w =>
    RD Tryz.prog (Instr.sliceAt 61 a0 none (some (u4 5)) none) w fun x37 =>
    OP Tryz.prog (Builtin.append_ #[61, 61] 61 [x34, x37].toArray) w fun x38 w =>
    RD Tryz.prog (Instr.loadAt 117 x3) w fun x40 =>
    OP Tryz.prog (Instr.buildSlice 61 1 #[(0, x40)]) w fun x41 w =>
    OP Tryz.prog (Builtin.append_ #[61, 61] 61 [x38, x41].toArray) w fun x42 w =>
    RD Tryz.prog (Instr.sliceAt 61 a0 (some (u4 5)) none none) w fun x46 =>
    OP Tryz.prog (Builtin.append_ #[61, 61] 61 [x42, x46].toArray) w fun x47 w =>
    R x47 w))
def cfg170 : Cfg := { ext := extL, joins := [(4, 2097056, [5]), (6, 17177772048, [])], loops := [(2, 2097056, [5])], draws := [(2, [0, 1, 2, 3, 4, 5, 6, 7, 8, 9, 10, 11], 0), (4, [0, 1, 2, 3, 4, 5, 6, 7, 8, 9, 10, 11], 0)], pars := [] }
theorem F170_eq (a0 a1 : Value) (w : World) (R : Value → World → Prop) : vcF Tryz.prog cfg170 Tryz.f170 [a0, a1] w R = F170 a0 a1 w R := by kernel_rfl
theorem F170_call {a0 a1 : Value} {w : World} {R : Value → World → Prop} (h : F170 a0 a1 w R) : CALL Tryz.prog 170 [a0, a1] w R :=
  call_of (g := cfg170) ent mixed Tryz.func170 (Nat.le_of_ble_eq_true (by kernel_rfl)) (by kernel_rfl) (F170_eq a0 a1 w R ▸ h)

set_option linter.unusedVariables false
set_option linter.unusedSimpArgs false

theorem flat_own {α : Type} [Rep α] [Flat α] {w : World} {lo hi : Nat} {v : Value} {x : α} (h : Is w v x) : OwnI lo hi w v x := by
  obtain ⟨F, cs, hr, hv⟩ := h
  have hF := Flat.flat hr
  subst hF
  exact ⟨[], ⟨⟨cs, hr, hv⟩, List.nodup_nil, Wr.nil w⟩, by simp⟩
theorem l18Put_ok {w W1 : World} {lo : Nat} {v v1 : Value} {l : List DRace} {x : DRace} (h : OwnI lo w.heap.size w v l) (hlo : lo ≤ w.heap.size) (h1 : Is W1 v1 x) (e1 : Ext W1 w) (hn : l.length ≤ 1000000) :
    CALL Tryz.prog 170 [v, v1] w fun r w' => Ext w w' ∧ OwnI lo w'.heap.size w' r (putR x l) := by
  refine F170_call ?_
  unfold F170
  have hI := h.is
  refine op_box h1 e1 fun w1 hx1 hA => ?_
  refine JOIN.mk (fun us w' => ∃ k : Nat, us = [.int .i64 (k : Int)] ∧ Ext w1 w' ∧ k ≤ l.length ∧ ahd x l = k) ?_ ?_
  · refine loopC l.length (fun k us w' => us = [.int .i64 (k : Int)] ∧ Ext w1 w' ∧ k ≤ l.length ∧ ∀ j (h : j < k) (h2 : j < l.length), ltR l[j] x) 0 (Nat.zero_le _) ⟨rfl, Ext.refl w1, Nat.zero_le _, fun j h => by omega⟩ ?_
    rintro k mk u w2 hkm ⟨hu, hx2, hkl, hlt⟩
    simp only [List.map_cons, List.map_nil, List.cons.injEq, and_true] at hu
    rw [hu]
    have hx3 := ext_drew w2
    have hx23 := hx2.trans hx3
    generalize World.drew1 w2 = w3 at *
    refine rd_len u61 hI ?_
    refine rd_lss ?_
    refine br (fun hk => ?_) (fun hk => ?_)
    · have hk' : k < l.length := by omega
      refine rd_indexN u61 ty117 hI hk' fun b1 o1 hA1 => ?_
      refine rd_load ty117 hA1 (hx1.trans hx23) fun v15 h15 => ?_
      refine rd_load ty117 hA hx23 fun v16 h16 => ?_
      refine (raceLess_ok h15 (hx1.trans hx23) h16 hx23).mono ?_
      rintro _ w4 ⟨hx4, rfl⟩
      refine br_b (fun hc => ?_) (fun hc => ?_)
      · refine rd_inc (by omega) ?_
        refine ⟨mk - 1, by omega, k + 1, by omega, rfl, hx23.trans hx4, by omega, fun j hj hj2 => ?_⟩
        by_cases hjk : j < k
        · exact hlt j hjk hj2
        · have : j = k := by omega
          subst this
          simpa using hc
      · exact ⟨k, rfl, hx23.trans hx4, hkl, ahd_at hkl (fun j hj => hlt j hj (by omega)) fun h => by simpa using hc⟩
    · exact ⟨k, rfl, hx23, hkl, ahd_at hkl (fun j hj => hlt j hj (by omega)) fun h => by omega⟩
  rintro u w2 ⟨k, hu, hx2, hkl, hak⟩
  simp only [List.map_cons, List.map_nil, List.cons.injEq, and_true] at hu
  rw [hu]
  have hput := putR_ahd x l
  rw [hak] at hput
  refine JOIN.mk (fun us w' => Ext w1 w' ∧ putR x l = l.take k ++ (x :: l.drop k)) ?_ ?_
  · have hx3 := ext_drew w2
    have hx23 := hx2.trans hx3
    generalize World.drew1 w2 = w3 at *
    refine rd_len u61 hI ?_
    refine rd_lss ?_
    refine br (fun hk => ?_) (fun hk => ?_)
    · have hk' : k < l.length := by omega
      rw [dif_pos hk'] at hput
      refine rd_indexN u61 ty117 hI hk' fun b1 o1 hA1 => ?_
      refine rd_load ty117 hA1 (hx1.trans hx23) fun v15 h15 => ?_
      refine rd_load ty117 hA hx23 fun v16 h16 => ?_
      refine rd_eqlDRace h15 h16 ?_
      refine br (fun hc => ?_) (fun hc => ?_)
      · rw [if_pos hc] at hput
        have hx := hx1.trans hx23
        exact ⟨hx, by rw [hput]; exact (h.ext hx).mono (Nat.le_refl _) hx.size⟩
      · rw [if_neg hc] at hput
        exact ⟨hx23, hput⟩
    · have hk' : k = l.length := by omega
      subst hk'
      rw [dif_neg (by omega)] at hput
      exact ⟨hx23, by rw [hput]; simp⟩
  rintro u6 w3 ⟨hx3, hpe⟩
  rw [hpe]
  have hx03 := hx1.trans hx3
  have hs03 := hx03.size
  refine op_build0I (α := DRace) u61 ty117 fun a w4 hx4 hr4 => ?_
  have hs4 := hx4.size
  refine rd_slice_to (i := (k : Int)) u61 ty117 hI (by omega) (by omega) fun v37 h37 => ?_
  refine op_appendI u61 ty117 zc117 hr4 (Nat.le_refl _) h37 (hx03.trans hx4) (by simp [maxLen]; omega) (by simp; omega) fun v38 w5 hc5 hr5 => ?_
  have hs5 := hc5.size
  have hx5 := (Ext.refl w4).chgI hc5 (Nat.le_refl _)
  refine rd_load ty117 hA (hx3.trans (hx4.trans hx5)) fun v40 h40 => ?_
  refine op_push (lo2 := w5.heap.size) (hi2 := w5.heap.size) u61 ty117 z117 zc117 (by decide) hr5 (by omega) (flat_own (h40.ext (hx3.trans (hx4.trans hx5)))) (Nat.le_refl _) (by omega) (by simp [maxLen]; omega) (by simp; omega) fun v42 w6 hc6 hr6 => ?_
  have hs6 := hc6.size
  refine rd_slice_from (i := (k : Int)) u61 ty117 hI (by omega) (by omega) fun v46 h46 => ?_
  have hx6 : Ext w w6 := (hx03.trans (hx4.trans hx5)).chgI hc6 (by omega)
  refine op_appendI u61 ty117 zc117 hr6 (by omega) h46 hx6 (by simp [maxLen]; omega) (by simp; omega) fun v47 w7 hc7 hr7 => ?_
  have hs7 := hc7.size
  refine ⟨hx6.chgI hc7 (by omega), ?_⟩
  have := hr7.own.mono (lo' := lo) (by omega) (Nat.le_refl _)
  simpa using this
end Go.Proofs.YteephmhilnlkpaaGreat
