/-
  The way to a state: the program's and the reference's.
-/
import Derived.Test.YteephmhilnlkpaaGreatWays
namespace Go.Proofs.YteephmhilnlkpaaGreat
open Go Go.Sh Go.Proofs
set_option linter.unusedVariables false
/-- impl.WayTo -/
def F31 (a0 a1 a2 : Value) (w : World) (R : Value → World → Prop) : Prop :=
  OP Tryz.prog (Instr.box 37 a0) w fun x3 w =>
  OP Tryz.prog (Instr.box 32 a1) w fun x4 w =>
  RD Tryz.prog (Instr.loadAt 37 x3) w fun x11 =>
  CALL Tryz.prog 81 [x11] w fun x12 w =>
  RD Tryz.prog (Op.unary .not x12) w fun x13 =>
  BR x13
   (R (Value.tuple #[(Value.slice none 0 0), (Value.bool false)]) w)
   (RD Tryz.prog (Instr.loadAt 37 x3) w fun x14 =>
   CALL Tryz.prog 82 [x14, a2] w fun x16 w =>
   OP Tryz.prog (Instr.alloc 91 true (.tuple #[])) w fun x8 w =>
   OPU Tryz.prog (Instr.storeAt 91 x8 x16) w fun w =>
   RD Tryz.prog (Instr.fieldAt 91 x8 0) w fun x17 =>
   RD Tryz.prog (Instr.loadAt 45 x17) w fun x18 =>
   RD Tryz.prog (Instr.loadAt 32 x4) w fun x19 =>
   CALL Tryz.prog 84 [x18, x19] w fun x20 w =>
   RD Tryz.prog (bin .lss 3 (.tmp 0) (.const undef) x20 (Value.int .i64 0)) w fun x22 =>
   BR x22
    (R (Value.tuple #[(Value.slice none 0 0), (Value.bool false)]) w)
    (LOOPI [9, 10] [x20, (Value.slice none 0 0)] w fun u8 w next8 =>
     RD Tryz.prog (bin .gtr 3 (.tmp 0) (.const undef) (u8 9) (Value.int .i64 0)) w fun x24 =>
     BR x24
      (RD Tryz.prog (Instr.fieldAt 91 x8 2) w fun x31 =>
      RD Tryz.prog (Instr.loadAt 23 x31) w fun x32 =>
      RD Tryz.prog (Instr.indexAt 23 x32 (u8 9)) w fun x34 =>
      RD Tryz.prog (Instr.loadAt 3 x34) w fun x35 =>
      OP Tryz.prog (Instr.buildSlice 23 1 #[(0, x35)]) w fun x36 w =>
      OP Tryz.prog (Builtin.append_ #[23, 23] 23 [(u8 10), x36].toArray) w fun x37 w =>
      RD Tryz.prog (Instr.fieldAt 91 x8 1) w fun x25 =>
      RD Tryz.prog (Instr.loadAt 23 x25) w fun x26 =>
      RD Tryz.prog (Instr.indexAt 23 x26 (u8 9)) w fun x28 =>
      RD Tryz.prog (Instr.loadAt 3 x28) w fun x29 =>
      next8 [x29, x37] w)
      (CALL Tryz.prog 85 [(u8 10)] w fun x39 w =>
      R (Value.tuple #[(u8 10), (Value.bool true)]) w)))
def cfg31 : Cfg := { ext := extL, joins := [], loops := [(8, 274869519872, [9, 10])], draws := [], pars := [] }
theorem F31_eq (a0 a1 a2 : Value) (w : World) (R : Value → World → Prop) : vcF Tryz.prog cfg31 Tryz.f31 [a0, a1, a2] w R = F31 a0 a1 a2 w R := by kernel_rfl
theorem F31_call {a0 a1 a2 : Value} {w : World} {R : Value → World → Prop} (h : F31 a0 a1 a2 w R) : CALL Tryz.prog 31 [a0, a1, a2] w R :=
  call_of (g := cfg31) ent mixed Tryz.func31 (Nat.le_of_ble_eq_true (by kernel_rfl)) (by kernel_rfl) (F31_eq a0 a1 a2 w R ▸ h)

/-- spec.WayTo -/
def F30 (a0 a1 a2 : Value) (w : World) (R : Value → World → Prop) : Prop :=
  OP Tryz.prog (Instr.box 37 a0) w fun x3 w =>
  OP Tryz.prog (Instr.box 32 a1) w fun x4 w =>
  RD Tryz.prog (Instr.loadAt 37 x3) w fun x13 =>
  CALL Tryz.prog 79 [x13] w fun x14 w =>
  RD Tryz.prog (Op.unary .not x14) w fun x15 =>
  BR x15
   (OP Tryz.prog (Instr.buildSlice 23 0 #[]) w fun x16 w =>
   R (Value.tuple #[x16, (Value.bool false)]) w)
   (RD Tryz.prog (Instr.loadAt 37 x3) w fun x17 =>
   CALL Tryz.prog 80 [x17, a2] w fun x19 w =>
   (fun w => NIL x19 <|
   RD Tryz.prog (Instr.fieldAt 89 x19 0) w fun x22 =>
   RD Tryz.prog (Instr.loadAt 45 x22) w fun x23 =>
   RD Tryz.prog (Instr.loadAt 32 x4) w fun x24 =>
   CALL Tryz.prog 83 [x23, x24] w fun x25 w =>
   RD Tryz.prog (bin .lss 3 (.tmp 0) (.const undef) x25 (Value.int .i64 0)) w fun x27 =>
   BR x27
    (OP Tryz.prog (Instr.buildSlice 23 0 #[]) w fun x28 w =>
    R (Value.tuple #[x28, (Value.bool false)]) w)
    (OP Tryz.prog (Instr.buildSlice 23 0 #[]) w fun x29 w =>
    LOOPI [9, 10] [x25, x29] w fun u8 w next8 =>
     NIL x19 <|
     RD Tryz.prog (Instr.fieldAt 89 x19 1) w fun x32 =>
     RD Tryz.prog (Instr.loadAt 23 x32) w fun x33 =>
     RD Tryz.prog (Instr.indexAt 23 x33 (u8 9)) w fun x35 =>
     RD Tryz.prog (Instr.loadAt 3 x35) w fun x36 =>
     RD Tryz.prog (bin .geq 3 (.tmp 0) (.const undef) x36 (Value.int .i64 0)) w fun x37 =>
     BR x37
      (NIL x19 <|
      RD Tryz.prog (Instr.fieldAt 89 x19 2) w fun x41 =>
      RD Tryz.prog (Instr.loadAt 23 x41) w fun x42 =>
      RD Tryz.prog (Instr.indexAt 23 x42 (u8 9)) w fun x44 =>
      RD Tryz.prog (Instr.loadAt 3 x44) w fun x45 =>
      OP Tryz.prog (Instr.buildSlice 23 1 #[(0, x45)]) w fun x46 w =>
      OP Tryz.prog (Builtin.append_ #[23, 23] 23 [(u8 10), x46].toArray) w fun x47 w =>
      NIL x19 <|
      RD Tryz.prog (Instr.fieldAt 89 x19 1) w fun x50 =>
      RD Tryz.prog (Instr.loadAt 23 x50) w fun x51 =>
      RD Tryz.prog (Instr.indexAt 23 x51 (u8 9)) w fun x53 =>
      RD Tryz.prog (Instr.loadAt 3 x53) w fun x54 =>
      next8 [x54, x47] w)
      (OP Tryz.prog (Instr.buildSlice 23 0 #[]) w fun x55 w =>
      RD Tryz.prog (Builtin.len_ #[23] 3 [(u8 10)].toArray) w fun x57 =>
      RD Tryz.prog (bin .sub 3 (.tmp 0) (.const undef) x57 (Value.int .i64 1)) w fun x58 =>
      LOOPI [11, 12] [x55, x58] w fun u13 w next13 =>
       RD Tryz.prog (bin .geq 3 (.tmp 0) (.const undef) (u13 12) (Value.int .i64 0)) w fun x60 =>
       BR x60
        (RD Tryz.prog (Instr.indexAt 23 (u8 10) (u13 12)) w fun x66 =>
        RD Tryz.prog (Instr.loadAt 3 x66) w fun x67 =>
        OP Tryz.prog (Instr.buildSlice 23 1 #[(0, x67)]) w fun x68 w =>
        OP Tryz.prog (Builtin.append_ #[23, 23] 23 [(u13 11), x68].toArray) w fun x69 w =>
        RD Tryz.prog (bin .sub 3 (.tmp 0) (.const undef) (u13 12) (Value.int .i64 1)) w fun x62 =>
        next13 [x69, x62] w)
        (R (Value.tuple #[(u13 11), (Value.bool true)]) w)))) (World.drew1 w))
def cfg30 : Cfg := { ext := extL, joins := [], loops := [(8, 36028795945223680, [9, 10]), (13, 1180015159965107886080, [11, 12])], draws := [(4, [0, 1, 2, 3, 4, 5, 6], 0)], pars := [] }
theorem F30_eq (a0 a1 a2 : Value) (w : World) (R : Value → World → Prop) : vcF Tryz.prog cfg30 Tryz.f30 [a0, a1, a2] w R = F30 a0 a1 a2 w R := by kernel_rfl
theorem F30_call {a0 a1 a2 : Value} {w : World} {R : Value → World → Prop} (h : F30 a0 a1 a2 w R) : CALL Tryz.prog 30 [a0, a1, a2] w R :=
  call_of (g := cfg30) ent mixed Tryz.func30 (Nat.le_of_ble_eq_true (by kernel_rfl)) (by kernel_rfl) (F30_eq a0 a1 a2 w R ▸ h)

set_option linter.unusedVariables false
set_option linter.unusedSimpArgs false

theorem way_yes {c : DCode} {s : DState} {m : Int} {z : DTrail} (hc : CodeR c) (hz : z.er = lookD c (mostN m)) (h : ¬ plcG s z.states.l < 0) : metIn c s m = true ∧ wayTo c s m = (backD z.er (mostN m) (plcG s z.states.l)).reverse := by
  have h1 : s ∈ z.states.l := plcG_iff.1 (by omega)
  have h2 : (lookD c (mostN m)).states = z.states.l := by rw [← hz]; rfl
  unfold metIn wayTo
  rw [h2, if_pos ⟨hc, h1⟩, ← hz]
  exact ⟨decide_eq_true ⟨hc, h1⟩, rfl⟩
theorem way_no {c : DCode} {s : DState} {m : Int} {z : DTrail} (hz : z.er = lookD c (mostN m)) (h : plcG s z.states.l < 0) : metIn c s m = false ∧ wayTo c s m = [] := by
  have h1 : s ∉ z.states.l := fun h' => by have := plcG_iff.2 h'; omega
  have h2 : (lookD c (mostN m)).states = z.states.l := by rw [← hz]; rfl
  unfold metIn wayTo
  rw [h2, if_neg fun h => h1 h.2]
  exact ⟨decide_eq_false fun h => h1 h.2, rfl⟩
theorem way_bad {c : DCode} {s : DState} {m : Int} (h : ¬ CodeR c) : metIn c s m = false ∧ wayTo c s m = [] := by
  unfold metIn wayTo
  rw [if_neg fun h' => h h'.1]
  exact ⟨decide_eq_false fun h' => h h'.1, rfl⟩
theorem wayTo_len (c : DCode) (s : DState) (m : Int) : (wayTo c s m).length ≤ 150 := by
  unfold wayTo
  split
  · have := backD_len (lookD c (mostN m)) (mostN m) (plcG s (lookD c (mostN m)).states)
    have h2 := brought_in m
    have h3 : mostN m = (brought m 1 150).toNat := rfl
    rw [List.length_reverse]; omega
  · simp
theorem implWayTo_ok {w W0 W1 : World} {v0 v1 : Value} {c : DCode} {s : DState} {m : Int} (h0 : Is W0 v0 c) (e0 : Ext W0 w) (h1 : Is W1 v1 s) (e1 : Ext W1 w) (hw : wCode c ≤ 1048576) :
    CALL Tryz.prog 31 [v0, v1, .int .i64 m] w fun r w' => Ext w w' ∧ ∃ a, r = .tuple #[a, .bool (metIn c s m)] ∧ Own w.heap.size w' a (wayTo c s m) := by
  refine F31_call ?_
  unfold F31
  refine op_box h0 e0 fun w1 hx1 hA => ?_
  have hs1 := hx1.size
  refine op_box h1 (e1.trans hx1) fun w1' hx1' hA1 => ?_
  have hs1' := hx1'.size
  refine rd_load ty37 hA hx1' fun v7 h7 => ?_
  refine (implCodeOk_ok h7 hx1').mono ?_
  rintro _ w2 ⟨hx2, rfl⟩
  have hs2 := hx2.size
  refine rd_nodec ?_
  refine br (fun hn => ?_) (fun hc => ?_)
  · refine ⟨hx1.trans (hx1'.trans hx2), ?_⟩
    rw [(way_bad hn).1, (way_bad hn).2]
    exact ⟨_, rfl, own_nil rfl⟩
  have hc := Decidable.not_not.1 hc
  refine rd_load ty37 hA (hx1'.trans hx2) fun v10 h10 => ?_
  refine (search_ok h10 (hx1'.trans hx2) hw hc).mono ?_
  rintro r12 w3 ⟨hx3, z, o12, hz, hok⟩
  have hs3 := hx3.size
  refine op_varZ (α := DTrail) zlTr fun w4 hx4 hv => ?_
  have hs4 := hx4.size
  refine opu_varA ty91 hv (o12.ext hx4) (by omega) fun w5 hc5 hv5 => ?_
  have hs5 := hc5.size
  have hx15 : Ext w1' w5 := Ext.chgI (hx2.trans (hx3.trans hx4)) hc5 (by omega)
  have hst := at_rv (at_DTrail_0 hv5.at)
  refine rd_fld fd91_0 ?_
  refine rd_loadV ty45 (at_DTrail_0 hv5.at) (Ext.refl _) ?_
  refine rd_load ty32 hA1 hx15 fun v19 h19 => ?_
  refine (implPlace_ok hst (Ext.refl _) h19 hx15).mono ?_
  rintro _ w6 ⟨hx6, rfl⟩
  have hs6 := hx6.size
  refine rd_lss ?_
  refine br (fun hneg => ?_) (fun hat => ?_)
  · refine ⟨hx1.trans (hx1'.trans (Ext.trans (Ext.chgI (hx2.trans (hx3.trans hx4)) hc5 (by omega)) hx6)), ?_⟩
    rw [(way_no hz hneg).1, (way_no hz hneg).2]
    exact ⟨_, rfl, own_nil rfl⟩
  have hy := way_yes (m := m) hc hz hat
  rw [hy.1, hy.2]
  have hpl := plcG_lt (s := s) (l := z.states.l)
  have hmany : z.states.l.length ≤ mostN m := hok.many.2
  have hla : z.ahead.l.length = z.states.l.length := hok.la
  have hlw : z.went.l.length = z.states.l.length := hok.lw
  have hb := brought_in m
  have hM : mostN m ≤ 150 := by unfold mostN; omega
  have hwt := at_rv (at_DTrail_2 (hv5.ext hx6).at)
  have hah := at_rv (at_DTrail_1 (hv5.ext hx6).at)
  generalize hp : plcG s z.states.l = p at *
  refine loopC (mostN m) (fun k us w' => ∃ (a : Int) (way : List Int) (v : Value) (lo hi : Nat), us = [.int .i64 a, v] ∧ Ext w6 w' ∧ 0 ≤ a ∧ a + k ≤ mostN m ∧ a < z.states.l.length ∧ way ++ backD z.er (mostN m - k) a = backD z.er (mostN m) p ∧ way.length ≤ k ∧ RowI lo hi 3 w' v way ∧ w6.heap.size ≤ lo ∧ lo ≤ hi ∧ hi ≤ w'.heap.size) 0 (by omega)
    ⟨p, [], _, w6.heap.size, w6.heap.size, rfl, Ext.refl _, by omega, by omega, by omega, by simp, by simp, rowI_nil _ _ _ _, by omega, by omega, by omega⟩ ?_
  rintro k mm u w7 hkm ⟨a, way, v, lo, hi, hu, hx7, ha0, hak, hal, hback, hwl, hrow, hb1, hb2, hb3⟩
  simp only [List.map_cons, List.map_nil, List.cons.injEq, and_true] at hu
  obtain ⟨hu1, hu2⟩ := hu
  rw [hu1, hu2]
  refine rd_gtr ?_
  refine br (fun hpos => ?_) (fun hzero => ?_)
  · refine rd_fld fd91_2 ?_
    refine rd_loadV ty23 (at_DTrail_2 (hv5.ext hx6).at) hx7 ?_
    refine rd_index u23 ty3 hwt ha0 (by omega) fun b o hA2 => ?_
    refine rd_loadI ty3 hA2 hx7 fun hI => ?_
    refine op_pushD1 (α := Int) u23 ty3 z3 zc3 (by decide) hrow (ownI_int (lo := w7.heap.size) (hi := w7.heap.size) hI) (by rw [maxLen_eq]; omega) (by omega) fun v37 w8 lo8 hi8 hc8 r8 hd8 => ?_
    have hs8 := hc8.size
    have hs7 := hx7.size
    have hx8 : Ext w6 w8 := Ext.chgI hx7 hc8 (by omega)
    refine rd_fld fd91_1 ?_
    refine rd_loadV ty23 (at_DTrail_1 (hv5.ext hx6).at) hx8 ?_
    refine rd_index u23 ty3 hah ha0 (by omega) fun b o hA3 => ?_
    refine rd_loadI ty3 hA3 hx8 fun hI2 => ?_
    have hbk := (hok.back a.toNat (by show a.toNat < z.ahead.l.length; omega)).2 (by omega)
    have hbk' : 0 ≤ z.ahead.l[a.toNat]'(by omega) ∧ z.ahead.l[a.toNat]'(by omega) < a.toNat := hbk
    refine ⟨mm - 1, by omega, k + 1, by omega, _, way ++ [z.went.l[a.toNat]'(by omega)], v37, lo8, hi8, rfl, hx8, hbk'.1, by omega, by omega, ?_, by simp; omega, r8, by omega, by omega, by omega⟩
    rw [← hback, show mostN m - k = (mostN m - (k + 1)) + 1 by omega, backD_step hpos, List.append_assoc, List.singleton_append]
    show way ++ z.went.l[a.toNat]'_ :: _ = way ++ z.went.l.getD a.toNat 0 :: backD z.er _ (z.ahead.l.getD a.toNat 0)
    rw [getD_gt (l := z.went.l) (by omega), getD_gt (l := z.ahead.l) (by omega)]
  · have hs7 := hx7.size
    rw [backD_zero (by omega), List.append_nil] at hback
    refine (reverse_ok hrow.own).mono ?_
    rintro r w8 ⟨hc8, o8⟩
    rw [hback] at o8
    exact ⟨(hx1.trans (hx1'.trans (hx15.trans hx6))).trans (Ext.chgI hx7 hc8 (by omega)), _, rfl, o8.own.mono (by omega)⟩
theorem specWayTo_ok {w W0 W1 : World} {v0 v1 : Value} {c : DCode} {s : DState} {m : Int} (h0 : Is W0 v0 c) (e0 : Ext W0 w) (h1 : Is W1 v1 s) (e1 : Ext W1 w) (hw : wCode c ≤ 1048576) :
    CALL Tryz.prog 30 [v0, v1, .int .i64 m] w fun r w' => Ext w w' ∧ ∃ a, r = .tuple #[a, .bool (metIn c s m)] ∧ Own w.heap.size w' a (wayTo c s m) := by
  refine F30_call ?_
  unfold F30
  refine op_box h0 e0 fun w1 hx1 hA => ?_
  have hs1 := hx1.size
  refine op_box h1 (e1.trans hx1) fun w1' hx1' hA1 => ?_
  have hs1' := hx1'.size
  refine rd_load ty37 hA hx1' fun v7 h7 => ?_
  refine (specCodeOk_ok h7 hx1').mono ?_
  rintro _ w2 ⟨hx2, rfl⟩
  have hs2 := hx2.size
  refine rd_nodec ?_
  refine br (fun hn => ?_) (fun hc => ?_)
  · refine op_build0I (α := Int) u23 ty3 fun a w3 hx3 r3 => ?_
    refine ⟨hx1.trans (hx1'.trans (hx2.trans hx3)), ?_⟩
    rw [(way_bad hn).1, (way_bad hn).2]
    exact ⟨_, rfl, r3.own.own.mono (by have := hx3.size; omega)⟩
  have hc := Decidable.not_not.1 hc
  refine rd_load ty37 hA (hx1'.trans hx2) fun v10 h10 => ?_
  refine (l23All_ok h10 (hx1'.trans hx2) hw hc).mono ?_
  rintro _ w3 ⟨hx3, g, z, rfl, hg, hv3, hz, hok⟩
  have hs3 := hx3.size
  have hx5 := ext_drew w3
  have hs5 := hx5.size
  have hv5 := hv3.ext hx5
  have hx15 : Ext w1' (World.drew1 w3) := hx2.trans (hx3.trans hx5)
  generalize World.drew1 w3 = w5 at *
  have hst := at_rv (at_DTrail_0 hv5.at)
  refine ⟨rfl, ?_⟩
  refine rd_fld fd89_0 ?_
  refine rd_loadV ty45 (at_DTrail_0 hv5.at) (Ext.refl _) ?_
  refine rd_load ty32 hA1 hx15 fun v19 h19 => ?_
  refine (l23At_ok hst (Ext.refl _) h19 hx15).mono ?_
  rintro _ w6 ⟨hx6, rfl⟩
  have hs6 := hx6.size
  refine rd_lss ?_
  refine br (fun hneg => ?_) (fun hat => ?_)
  · refine op_build0I (α := Int) u23 ty3 fun a w7 hx7 r7 => ?_
    refine ⟨hx1.trans (hx1'.trans (hx15.trans (hx6.trans hx7))), ?_⟩
    rw [(way_no hz hneg).1, (way_no hz hneg).2]
    exact ⟨_, rfl, r7.own.own.mono (by have := hx7.size; omega)⟩
  have hy := way_yes (m := m) hc hz hat
  rw [hy.1, hy.2]
  have hpl := plcG_lt (s := s) (l := z.states.l)
  have hmany : z.states.l.length ≤ mostN m := hok.many.2
  have hla : z.ahead.l.length = z.states.l.length := hok.la
  have hlw : z.went.l.length = z.states.l.length := hok.lw
  have hb := brought_in m
  have hM : mostN m ≤ 150 := by unfold mostN; omega
  refine op_build0I (α := Int) u23 ty3 fun a29 w6' hx6' r29 => ?_
  have hs6' := hx6'.size
  have hx66 := hx6.trans hx6'
  have hwt := at_rv (at_DTrail_2 (hv5.ext hx66).at)
  have hah := at_rv (at_DTrail_1 (hv5.ext hx66).at)
  generalize hp : plcG s z.states.l = p at *
  refine loopC (mostN m) (fun k us w' => ∃ (a : Int) (way : List Int) (v : Value) (lo hi : Nat), us = [.int .i64 a, v] ∧ Ext w6' w' ∧ 0 ≤ a ∧ a + k ≤ mostN m ∧ a < z.states.l.length ∧ way ++ backD z.er (mostN m - k) a = backD z.er (mostN m) p ∧ way.length ≤ k ∧ RowI lo hi 3 w' v way ∧ w6'.heap.size ≤ lo ∧ lo ≤ hi ∧ hi ≤ w'.heap.size) 0 (by omega)
    ⟨p, [], _, w6'.heap.size, w6'.heap.size, rfl, Ext.refl _, by omega, by omega, by omega, by simp, by simp, r29, by omega, by omega, by omega⟩ ?_
  rintro k mm u w7 hkm ⟨a, way, v, lo, hi, hu, hx7, ha0, hak, hal, hback, hwl, hrow, hb1, hb2, hb3⟩
  simp only [List.map_cons, List.map_nil, List.cons.injEq, and_true] at hu
  obtain ⟨hu1, hu2⟩ := hu
  rw [hu1, hu2]
  have hbk := hok.back a.toNat (by show a.toNat < z.ahead.l.length; omega)
  have hbk0 : a.toNat = 0 → z.ahead.l[a.toNat]'(by omega) = -1 := hbk.1
  have hbk1 : 0 < a.toNat → 0 ≤ z.ahead.l[a.toNat]'(by omega) ∧ z.ahead.l[a.toNat]'(by omega) < a.toNat := hbk.2
  refine ⟨rfl, ?_⟩
  refine rd_fld fd89_1 ?_
  refine rd_loadV ty23 (at_DTrail_1 (hv5.ext hx66).at) hx7 ?_
  refine rd_index u23 ty3 hah ha0 (by omega) fun b o hA3 => ?_
  refine rd_loadI ty3 hA3 hx7 fun hI2 => ?_
  refine rd_geq ?_
  refine br (fun hge => ?_) (fun hlt => ?_)
  · have hpos : 0 < a := by
      rcases Int.lt_or_le 0 a with h | h
      · exact h
      · have := hbk0 (by omega); omega
    refine ⟨rfl, ?_⟩
    refine rd_fld fd89_2 ?_
    refine rd_loadV ty23 (at_DTrail_2 (hv5.ext hx66).at) hx7 ?_
    refine rd_index u23 ty3 hwt ha0 (by omega) fun b o hA2 => ?_
    refine rd_loadI ty3 hA2 hx7 fun hI => ?_
    refine op_pushD1 (α := Int) u23 ty3 z3 zc3 (by decide) hrow (ownI_int (lo := w7.heap.size) (hi := w7.heap.size) hI) (by rw [maxLen_eq]; omega) (by omega) fun v37 w8 lo8 hi8 hc8 r8 hd8 => ?_
    have hs8 := hc8.size
    have hs7 := hx7.size
    have hx8 : Ext w6' w8 := Ext.chgI hx7 hc8 (by omega)
    refine ⟨rfl, ?_⟩
    refine rd_fld fd89_1 ?_
    refine rd_loadV ty23 (at_DTrail_1 (hv5.ext hx66).at) hx8 ?_
    refine rd_index u23 ty3 hah ha0 (by omega) fun b o hA4 => ?_
    refine rd_loadI ty3 hA4 hx8 fun hI3 => ?_
    have hb1' := hbk1 (by omega)
    refine ⟨mm - 1, by omega, k + 1, by omega, _, way ++ [z.went.l[a.toNat]'(by omega)], v37, lo8, hi8, rfl, hx8, hb1'.1, by omega, by omega, ?_, by simp; omega, r8, by omega, by omega, by omega⟩
    rw [← hback, show mostN m - k = (mostN m - (k + 1)) + 1 by omega, backD_step hpos, List.append_assoc, List.singleton_append]
    show way ++ z.went.l[a.toNat]'_ :: _ = way ++ z.went.l.getD a.toNat 0 :: backD z.er _ (z.ahead.l.getD a.toNat 0)
    rw [getD_gt (l := z.went.l) (by omega), getD_gt (l := z.ahead.l) (by omega)]
  · have hs7 := hx7.size
    have hz0 : a ≤ 0 := by
      rcases Int.lt_or_le 0 a with h | h
      · have := hbk1 (by omega); omega
      · exact h
    rw [backD_zero hz0, List.append_nil] at hback
    rw [hback] at hrow hwl
    generalize backD z.er (mostN m) p = bk at *
    refine op_build0I (α := Int) u23 ty3 fun a55 w8 hx8 r8 => ?_
    have hs8 := hx8.size
    have hrow8 := hrow.ext hx8
    refine rd_len u23 hrow8.is ?_
    refine rd_sub (by unfold I64; omega) ?_
    refine loopC bk.length (fun j us w' => us = [us.headD undef, .int .i64 ((bk.length : Int) - 1 - j)] ∧ ∃ (v : Value) (lo2 hi2 : Nat), us.headD undef = v ∧ Ext w8 w' ∧ RowI lo2 hi2 3 w' v (bk.reverse.take j) ∧ w8.heap.size ≤ lo2 ∧ lo2 ≤ hi2 ∧ hi2 ≤ w'.heap.size ∧ j ≤ bk.length) 0 (Nat.zero_le _)
      ⟨by simp, _, w8.heap.size, w8.heap.size, rfl, Ext.refl _, by simpa using r8, by omega, by omega, by omega, by omega⟩ ?_
    rintro j mj u13 w9 hjm ⟨hu, v9, lo2, hi2, hv9, hx9, r9, hb4, hb5, hb6, hjl⟩
    simp only [List.map_cons, List.map_nil, List.headD_cons, List.cons.injEq, and_true, true_and] at hu hv9
    rw [hu, hv9]
    refine rd_geq ?_
    refine br (fun hge2 => ?_) (fun hlt2 => ?_)
    · have hjl2 : j < bk.length := by omega
      refine rd_index u23 ty3 hrow8.is (by omega) (by omega) fun b o hA6 => ?_
      refine rd_loadI ty3 hA6 hx9 fun hI6 => ?_
      refine op_pushD1 (α := Int) u23 ty3 z3 zc3 (by decide) r9 (ownI_int (lo := w9.heap.size) (hi := w9.heap.size) hI6) (by rw [maxLen_eq]; simp; omega) (by simp; omega) fun v69 w10 lo10 hi10 hc10 r10 hd10 => ?_
      have hs9 := hx9.size
      have hs10 := hc10.size
      refine rd_sub (by unfold I64; omega) ?_
      refine ⟨mj - 1, by omega, j + 1, by omega, by simp; omega, v69, lo10, hi10, rfl, Ext.chgI hx9 hc10 (by omega), ?_, by omega, by omega, by omega, by omega⟩
      have e1 : bk[((bk.length : Int) - 1 - j).toNat]'(by omega) = bk.reverse[j]'(by simp; omega) := by
        rw [List.getElem_reverse]
        congr 1; omega
      rw [e1] at r10
      rw [List.take_succ_eq_append_getElem (by simp; omega)]
      exact r10
    · have hjj : j = bk.length := by omega
      subst hjj
      rw [List.take_of_length_le (by simp)] at r9
      have hs9 := hx9.size
      exact ⟨(hx1.trans (hx1'.trans (hx15.trans hx66))).trans ((hx7.trans hx8).trans hx9), _, rfl, r9.own.own.mono (by omega)⟩
end Go.Proofs.YteephmhilnlkpaaGreat
