/-
  Meetings in the reference's words: every pair of strands, every pair of touches, each race put at its place.
-/
import Derived.Test.YteephmhilnlkpaaGreatMeet4
namespace Go.Proofs.YteephmhilnlkpaaGreat
open Go Go.Sh Go.Proofs
set_option linter.unusedVariables false
/-- spec.l24Meet -/
def F101 (a0 a1 : Value) (w : World) (R : Value → World → Prop) : Prop :=
  OP Tryz.prog (Instr.box 37 a0) w fun x2 w =>
  OP Tryz.prog (Instr.box 32 a1) w fun x3 w =>
  OP Tryz.prog (Instr.buildSlice 61 0 #[]) w fun x15 w =>
  LOOPI [5, 6] [x15, (Value.int .i64 0)] w fun u3 w next3 =>
   RD Tryz.prog (Instr.fieldAt 32 x3 2) w fun x17 =>
   RD Tryz.prog (Instr.loadAt 27 x17) w fun x18 =>
   RD Tryz.prog (Builtin.len_ #[27] 3 [x18].toArray) w fun x19 =>
   RD Tryz.prog (bin .lss 3 (.tmp 0) (.tmp 0) (u3 6) x19) w fun x20 =>
   BR x20
    (LOOPI [5, 7] [(u3 5), (Value.int .i64 0)] w fun u6 w next6 =>
     RD Tryz.prog (bin .lss 3 (.tmp 0) (.tmp 0) (u6 7) (u3 6)) w fun x25 =>
     BR x25
      (RD Tryz.prog (Instr.loadAt 32 x3) w fun x28 =>
      CALL Tryz.prog 91 [x28, (u3 6)] w fun x30 w =>
      RD Tryz.prog (Instr.loadAt 32 x3) w fun x31 =>
      CALL Tryz.prog 91 [x31, (u6 7)] w fun x33 w =>
      RD Tryz.prog (bin .lss 3 (.tmp 0) (.const undef) x30 (Value.int .i64 0)) w fun x35 =>
      BR x35
      (RD Tryz.prog (bin .add 3 (.tmp 0) (.const undef) (u6 7) (Value.int .i64 1)) w fun x27 =>
       next6 [(u6 5), x27] w)
      (RD Tryz.prog (bin .lss 3 (.tmp 0) (.const undef) x33 (Value.int .i64 0)) w fun x38 =>
      BR x38
       (RD Tryz.prog (bin .add 3 (.tmp 0) (.const undef) (u6 7) (Value.int .i64 1)) w fun x27 =>
       next6 [(u6 5), x27] w)
       (RD Tryz.prog (Instr.loadAt 37 x2) w fun x40 =>
       CALL Tryz.prog 169 [x40, x30, (Value.int .i64 0)] w fun x42 w =>
       RD Tryz.prog (Instr.loadAt 37 x2) w fun x43 =>
       CALL Tryz.prog 169 [x43, x33, (Value.int .i64 0)] w fun x45 w =>
       LOOPI [5, 12] [(u6 5), (Value.int .i64 0)] w fun u14 w next14 =>
        RD Tryz.prog (Builtin.len_ #[168] 3 [x42].toArray) w fun x48 =>
        RD Tryz.prog (bin .lss 3 (.tmp 0) (.tmp 0) (u14 12) x48) w fun x49 =>
        BR x49
         (LOOPI [5, 13] [(u14 5), (Value.int .i64 0)] w fun u17 w next17 =>
          RD Tryz.prog (Builtin.len_ #[168] 3 [x45].toArray) w fun x54 =>
          RD Tryz.prog (bin .lss 3 (.tmp 0) (.tmp 0) (u17 13) x54) w fun x55 =>
          BR x55
           (JOIN [] (fun J20 =>
            (fun w => RD Tryz.prog (Instr.indexAt 168 x42 (u14 12)) w fun x60 =>
            RD Tryz.prog (Instr.fieldAt 171 x60 1) w fun x61 =>
            RD Tryz.prog (Instr.loadAt 3 x61) w fun x62 =>
            RD Tryz.prog (Instr.indexAt 168 x45 (u17 13)) w fun x65 =>
            RD Tryz.prog (Instr.fieldAt 171 x65 1) w fun x66 =>
            RD Tryz.prog (Instr.loadAt 3 x66) w fun x67 =>
            RD Tryz.prog (bin .neq 3 (.tmp 0) (.tmp 0) x62 x67) w fun x68 =>
            BR x68
            (RD Tryz.prog (bin .add 3 (.tmp 0) (.const undef) (u17 13) (Value.int .i64 1)) w fun x57 =>
             next17 [(u17 5), x57] w)
            (RD Tryz.prog (Instr.indexAt 168 x42 (u14 12)) w fun x72 =>
            RD Tryz.prog (Instr.fieldAt 171 x72 2) w fun x73 =>
            RD Tryz.prog (Instr.loadAt 4 x73) w fun x74 =>
            RD Tryz.prog (Op.unary .not x74) w fun x75 =>
            GBR x75
            (RD Tryz.prog (Instr.indexAt 168 x45 (u17 13)) w fun x79 =>
            RD Tryz.prog (Instr.fieldAt 171 x79 2) w fun x80 =>
            RD Tryz.prog (Instr.loadAt 4 x80) w fun x81 =>
            RD Tryz.prog (Op.unary .not x81) w fun x82 =>
            BR x82
             (RD Tryz.prog (bin .add 3 (.tmp 0) (.const undef) (u17 13) (Value.int .i64 1)) w fun x57 =>
             next17 [(u17 5), x57] w)
             (J20 [] w))
            (J20 [] w)
            (BR undef
            (BR undef
             (RD Tryz.prog (bin .add 3 (.tmp 0) (.const undef) (u17 13) (Value.int .i64 1)) w fun x57 =>
             next17 [(u17 5), x57] w)
             (J20 [] w))
            (J20 [] w)))) (World.drew1 w)) (fun u20 w =>
            RD Tryz.prog (Instr.indexAt 168 x42 (u14 12)) w fun x87 =>
            RD Tryz.prog (Instr.fieldAt 171 x87 1) w fun x88 =>
            RD Tryz.prog (Instr.loadAt 3 x88) w fun x89 =>
            RD Tryz.prog (Instr.build 117 #[(0, x89), (1, x30), (2, x33)]) w fun x92 =>
            OP Tryz.prog (Instr.alloc 117 true (.tuple #[])) w fun x14 w =>
            OPU Tryz.prog (Instr.storeAt 117 x14 x92) w fun w =>
            RD Tryz.prog (bin .gtr 3 (.tmp 0) (.tmp 0) x30 x33) w fun x95 =>
            BR x95
             (RD Tryz.prog (Instr.fieldAt 117 x14 1) w fun x97 =>
             OPU Tryz.prog (Instr.storeAt 3 x97 x33) w fun w =>
             RD Tryz.prog (Instr.fieldAt 117 x14 2) w fun x99 =>
             OPU Tryz.prog (Instr.storeAt 3 x99 x30) w fun w =>
             RD Tryz.prog (Instr.loadAt 117 x14) w fun x101 =>
             CALL Tryz.prog 170 [(u17 5), x101] w fun x102 w =>
             RD Tryz.prog (bin .add 3 (.tmp 0) (.const undef) (u17 13) (Value.int .i64 1)) w fun x57 =>
             next17 [x102, x57] w)
             (RD Tryz.prog (Instr.loadAt 117 x14) w fun x101 =>
             CALL Tryz.prog 170 [(u17 5), x101] w fun x102 w =>
             RD Tryz.prog (bin .add 3 (.tmp 0) (.const undef) (u17 13) (Value.int .i64 1)) w fun x57 =>
             next17 [x102, x57] w)))
           (RD Tryz.prog (bin .add 3 (.tmp 0) (.const undef) (u14 12) (Value.int .i64 1)) w fun x51 =>
           next14 [(u17 5), x51] w))
         (RD Tryz.prog (bin .add 3 (.tmp 0) (.const undef) (u6 7) (Value.int .i64 1)) w fun x27 =>
         next6 [(u14 5), x27] w))))
      (RD Tryz.prog (bin .add 3 (.tmp 0) (.const undef) (u3 6) (Value.int .i64 1)) w fun x22 =>
      next3 [(u6 5), x22] w))
    (R (u3 5) w)
def cfg101 : Cfg := { ext := extL, joins := [(20, 38685625939437757438885888, [])], loops := [(3, 10141204801825835211973625610208, [5, 6]), (6, 10141204801825835211973617287072, [5, 7]), (14, 10141204801825835141604881494048, [5, 12]), (17, 10141204801825830708373998297120, [5, 13])], draws := [(19, [0, 1, 2, 3, 4, 5, 6, 7, 8, 9, 10, 11, 12, 13, 14, 15, 16, 17, 18, 19, 20, 21, 22, 23, 24, 25, 26], 0)], pars := [] }
theorem F101_eq (a0 a1 : Value) (w : World) (R : Value → World → Prop) : vcF Tryz.prog cfg101 Tryz.f101 [a0, a1] w R = F101 a0 a1 w R := by kernel_rfl
theorem F101_call {a0 a1 : Value} {w : World} {R : Value → World → Prop} (h : F101 a0 a1 w R) : CALL Tryz.prog 101 [a0, a1] w R :=
  call_of (g := cfg101) ent mixed Tryz.func101 (Nat.le_of_ble_eq_true (by kernel_rfl)) (by kernel_rfl) (F101_eq a0 a1 w R ▸ h)

set_option linter.unusedVariables false
set_option linter.unusedSimpArgs false

theorem clashP0 {a b : DTouch} (ha : a.held = 0) (hb : b.held = 0) : clashP a b ↔ a.global = b.global ∧ (a.write = true ∨ b.write = true) := by
  unfold clashP
  rw [ha, hb]
  constructor
  · exact fun h => ⟨h.1, h.2.1⟩
  · exact fun h => ⟨h.1, h.2, by omega, by omega, by decide⟩
theorem l24Meet_ok {w W0 W1 : World} {v0 v1 : Value} {c : DCode} {s : DState} (h0 : Is W0 v0 c) (e0 : Ext W0 w) (h1 : Is W1 v1 s) (e1 : Ext W1 w) (hc : CodeR c) (hs : StateR c s) :
    CALL Tryz.prog 101 [v0, v1] w fun r w' => Ext w w' ∧ Own w.heap.size w' r (meets c s) := by
  have hn6 := hs.2.2.1
  have hTl := tA_len s hc
  have hTa := @tA_at c s
  have hatl := at_lt hs
  have hins := hc.2.1.2.1
  have hTd : ∀ t, tA c s t = if 0 ≤ atOf s t then touchAt c (atOf s t) 0 else [] := fun t => rfl
  rw [← meets_h]
  generalize tA c s = T at *
  refine F101_call ?_
  unfold F101
  refine op_box h0 e0 fun w1 hx1 hAc => ?_
  refine op_box h1 (e1.trans hx1) fun w2 hx2 hB => ?_
  refine op_build0I (α := DRace) u61 ty117 fun a0 w3 hx3 hr3 => ?_
  have hs1 := hx1.size
  have hs2 := hx2.size
  have hs3 := hx3.size
  generalize hn : s.stacks.length = n at *
  refine loopC n (fun k us w' => ∃ (out : Value), us = [out, .int .i64 (k : Int)] ∧ k ≤ n ∧ Ext w2 w' ∧ Own w2.heap.size w' out (canon (hT T k))) 0 (Nat.zero_le _) ⟨_, rfl, Nat.zero_le _, hx3, (hr3.own.mono (lo' := w2.heap.size) hs3 (Nat.le_refl _)).own⟩ ?_
  rintro t mk u3 w4 hkm ⟨out, hu, htn, hx4, ho4⟩
  simp only [List.map_cons, List.map_nil, List.cons.injEq, and_true] at hu
  obtain ⟨hu1, hu2⟩ := hu
  rw [hu1, hu2]
  refine rd_fld fd32_2 ?_
  refine rd_load ty27 (at_DState_2 hB) hx4 fun v18 h18 => ?_
  refine rd_len u27 h18 ?_
  rw [hn]
  refine rd_lss ?_
  refine br (fun hlt => ?_) (fun hge => ?_)
  case refine_2 =>
    have htn2 : t = n := by omega
    rw [htn2] at ho4
    exact ⟨(hx1.trans hx2).trans hx4, ho4.mono (by omega)⟩
  have htn' : t < n := by omega
  have hLt : (hT T t).length ≤ 5184 := hT_len hTl (by omega)
  refine loopC t (fun k us w' => ∃ (out : Value), us = [out, .int .i64 (k : Int)] ∧ k ≤ t ∧ Ext w2 w' ∧ Own w2.heap.size w' out (canon (hT T t ++ hU T (T t) k))) 0 (Nat.zero_le _) ⟨out, rfl, Nat.zero_le _, hx4, by simpa [hU] using ho4⟩ ?_
  rintro u mk6 u6 w6 hkm6 ⟨out6, hu6, hut, hx6, ho6⟩
  simp only [List.map_cons, List.map_nil, List.cons.injEq, and_true] at hu6
  obtain ⟨hu61, hu62⟩ := hu6
  rw [hu61, hu62]
  refine rd_lss ?_
  refine br (fun hlt6 => ?_) (fun hge6 => ?_)
  case refine_2 =>
    have hut2 : u = t := by omega
    rw [hut2] at ho6
    refine rd_inc (by omega) ?_
    refine ⟨mk - 1, by omega, t + 1, by omega, out6, rfl, by omega, hx6, ?_⟩
    have e : hT T (t + 1) = hT T t ++ hU T (T t) t := range_flat t
    rw [e]; exact ho6
  have hut' : u < t := by omega
  have hLu : (hU T (T t) u).length ≤ 864 := hU_len hTl (hTl t) (by omega)
  have hUs : hU T (T t) (u + 1) = hU T (T t) u ++ hA (T u) (T t) := range_flat u
  refine rd_load ty32 hB hx6 fun v28 h28 => ?_
  refine (specAtOf_ok h28 hx6).mono ?_
  rintro _ w7 ⟨hx7, rfl⟩
  have hx27 := hx6.trans hx7
  refine rd_load ty32 hB hx27 fun v31 h31 => ?_
  refine (specAtOf_ok h31 hx27).mono ?_
  rintro _ w8 ⟨hx8, rfl⟩
  have hx28 := hx27.trans hx8
  have ho8 := (ho6.ext hx7).ext hx8
  refine rd_lss ?_
  refine br (fun ha0 => ?_) (fun ha0 => ?_)
  · refine rd_inc (by omega) ?_
    refine ⟨mk6 - 1, by omega, u + 1, by omega, out6, rfl, by omega, hx28, ?_⟩
    have e : T t = [] := by rw [hTd, if_neg (by omega)]
    have : hA (T u) (T t) = [] := by rw [e]; rfl
    rw [hUs, this, List.append_nil]; exact ho8
  refine rd_lss ?_
  refine br (fun hb0 => ?_) (fun hb0 => ?_)
  · refine rd_inc (by omega) ?_
    refine ⟨mk6 - 1, by omega, u + 1, by omega, out6, rfl, by omega, hx28, ?_⟩
    have e : T u = [] := by rw [hTd, if_neg (by omega)]
    have : hA (T u) (T t) = [] := by
      rw [e]; unfold hA gB
      simp
    rw [hUs, this, List.append_nil]; exact ho8
  have hTt : T t = touchAt c (atOf s t) 0 := by rw [hTd, if_pos (by omega)]
  have hTu : T u = touchAt c (atOf s u) 0 := by rw [hTd, if_pos (by omega)]
  have ha9 := hatl t
  have hb9 := hatl u
  have hx18 := hx2.trans hx28
  refine rd_load ty37 hAc hx18 fun v40 h40 => ?_
  refine (l17At_ok h40 hx18 hc (by omega) (by omega) (by unfold I64; omega)).mono ?_
  rintro v42 w9 ⟨hx9, ho9⟩
  have hx19 := hx18.trans hx9
  refine rd_load ty37 hAc hx19 fun v43 h43 => ?_
  refine (l17At_ok h43 hx19 hc (by omega) (by omega) (by unfold I64; omega)).mono ?_
  rintro v45 w10 ⟨hx10, ho10⟩
  rw [← hTt] at ho9
  rw [← hTu] at ho10
  have hI42 : Is w10 v42 (T t) := ho9.is.ext hx10
  have hI45 : Is w10 v45 (T u) := ho10.is
  have hx210 := (hx28.trans hx9).trans hx10
  have hsn : (T t).length ≤ 12 := hTl t
  have hsu : (T u).length ≤ 12 := hTl u
  refine loopC (T t).length (fun k us w' => ∃ (out : Value), us = [out, .int .i64 (k : Int)] ∧ k ≤ (T t).length ∧ Ext w10 w' ∧ Own w2.heap.size w' out (canon (hT T t ++ hU T (T t) u ++ hA (T u) ((T t).take k)))) 0 (Nat.zero_le _) ⟨out6, rfl, Nat.zero_le _, Ext.refl _, by simpa [hA] using (ho8.ext hx9).ext hx10⟩ ?_
  rintro i mk14 u14 w14 hkm14 ⟨out14, hu14, hil, hx14, ho14⟩
  simp only [List.map_cons, List.map_nil, List.cons.injEq, and_true] at hu14
  obtain ⟨hu141, hu142⟩ := hu14
  rw [hu141, hu142]
  refine rd_len u168 hI42 ?_
  refine rd_lss ?_
  refine br (fun hlt14 => ?_) (fun hge14 => ?_)
  case refine_2 =>
    have hil2 : i = (T t).length := by omega
    rw [hil2, List.take_length] at ho14
    refine rd_inc (by omega) ?_
    refine ⟨mk6 - 1, by omega, u + 1, by omega, out14, rfl, by omega, hx210.trans hx14, ?_⟩
    rw [hUs, ← List.append_assoc]; exact ho14
  have hi' : i < (T t).length := by omega
  have hLi : (hA (T u) ((T t).take i)).length ≤ 144 := hA_len hsu (by rw [List.length_take]; omega)
  generalize hag : (T t)[i] = a at *
  have hata := hTa (t := t) (x := a) (by rw [← hag]; exact List.getElem_mem _)
  refine loopC (T u).length (fun k us w' => ∃ (out : Value), us = [out, .int .i64 (k : Int)] ∧ k ≤ (T u).length ∧ Ext w10 w' ∧ Own w2.heap.size w' out (canon (hT T t ++ hU T (T t) u ++ hA (T u) ((T t).take i) ++ ((T u).take k).flatMap (clR a)))) 0 (Nat.zero_le _) ⟨out14, rfl, Nat.zero_le _, hx14, by simpa using ho14⟩ ?_
  rintro j mk17 u17 w17 hkm17 ⟨out17, hu17, hjl, hx17, ho17⟩
  simp only [List.map_cons, List.map_nil, List.cons.injEq, and_true] at hu17
  obtain ⟨hu171, hu172⟩ := hu17
  rw [hu171, hu172]
  refine rd_len u168 hI45 ?_
  refine rd_lss ?_
  refine br (fun hlt17 => ?_) (fun hge17 => ?_)
  case refine_2 =>
    have hjl2 : j = (T u).length := by omega
    rw [hjl2, List.take_length] at ho17
    refine rd_inc (by omega) ?_
    refine ⟨mk14 - 1, by omega, i + 1, by omega, out17, rfl, by omega, hx17, ?_⟩
    have e : hA (T u) ((T t).take (i + 1)) = hA (T u) ((T t).take i) ++ (T u).flatMap (clR a) := by
      unfold hA
      rw [flatMap_take hi', hag]
      rfl
    rw [e, ← List.append_assoc]; exact ho17
  have hj' : j < (T u).length := by omega
  have hLj : (((T u).take j).flatMap (clR a)).length ≤ 12 := gB_len a (bs := (T u).take j) (by rw [List.length_take]; omega)
  generalize hbg : (T u)[j] = b at *
  have hatb := hTa (t := u) (x := b) (by rw [← hbg]; exact List.getElem_mem _)
  have hcl0 := clashP0 hata.2 hatb.2
  have hno : ∀ w', Ext w17 w' → ¬ clashP a b → ∃ (out : Value), [out17, Value.int .i64 ((j + 1 : Nat) : Int)] = [out, .int .i64 ((j + 1 : Nat) : Int)] ∧ j + 1 ≤ (T u).length ∧ Ext w10 w' ∧ Own w2.heap.size w' out (canon (hT T t ++ hU T (T t) u ++ hA (T u) ((T t).take i) ++ ((T u).take (j + 1)).flatMap (clR a))) := fun w' hx hn => by
    refine ⟨out17, rfl, by omega, hx17.trans hx, ?_⟩
    have : clR a b = [] := by unfold clR; rw [if_neg hn]
    rw [flatMap_take hj', hbg, this, List.append_nil]
    exact ho17.ext hx
  refine JOIN.mk (fun us w' => Ext w17 w' ∧ clashP a b) ?_ ?_
  · have hx18 := ext_drew w17
    generalize World.drew1 w17 = w18 at *
    have hx1018 := hx17.trans hx18
    refine rd_indexN u168 ty171 (i := i) hI42 hi' fun b2 o2 hA2 => ?_
    refine rd_fld fd171_1 ?_
    rw [hag] at hA2
    refine rd_loadI ty3 (at_DTouch_1 hA2) hx1018 fun hI62 => ?_
    refine rd_indexN u168 ty171 (i := j) hI45 hj' fun b3 o3 hA3 => ?_
    refine rd_fld fd171_1 ?_
    rw [hbg] at hA3
    refine rd_loadI ty3 (at_DTouch_1 hA3) hx1018 fun hI67 => ?_
    refine rd_neq ?_
    refine br (fun hne => ?_) (fun heq => ?_)
    · refine rd_inc (by omega) ?_
      exact ⟨mk17 - 1, by omega, j + 1, by omega, hno w18 hx18 fun h => hne (hcl0.1 h).1⟩
    have heq' := Decidable.not_not.1 heq
    refine rd_indexN u168 ty171 (i := i) hI42 hi' fun b4 o4 hA4 => ?_
    refine rd_fld fd171_2 ?_
    rw [hag] at hA4
    refine rd_loadB ty4 (at_DTouch_2 hA4) hx1018 ?_
    refine rd_not ?_
    refine gbr_b (fun hwa => ?_) (fun hwa => ?_)
    · refine rd_indexN u168 ty171 (i := j) hI45 hj' fun b5 o5 hA5 => ?_
      refine rd_fld fd171_2 ?_
      rw [hbg] at hA5
      refine rd_loadB ty4 (at_DTouch_2 hA5) hx1018 ?_
      refine rd_not ?_
      refine br_b (fun hwb => ?_) (fun hwb => ?_)
      · refine rd_inc (by omega) ?_
        refine ⟨mk17 - 1, by omega, j + 1, by omega, hno w18 hx18 fun h => ?_⟩
        rcases (hcl0.1 h).2 with h | h <;> simp [h] at hwa hwb
      · exact ⟨hx18, hcl0.2 ⟨heq', .inr (by simpa using hwb)⟩⟩
    · exact ⟨hx18, hcl0.2 ⟨heq', .inl (by simpa using hwa)⟩⟩
  rintro u20 w20 ⟨hx20, hcl⟩
  have hx1020 := hx17.trans hx20
  have ho20 := ho17.ext hx20
  refine rd_indexN u168 ty171 (i := i) hI42 hi' fun b2 o2 hA2 => ?_
  refine rd_fld fd171_1 ?_
  rw [hag] at hA2
  refine rd_loadI ty3 (at_DTouch_1 hA2) hx1020 fun hI89 => ?_
  refine rd_build (cells := #[.int .i64 a.global, .int .i64 (atOf s t), .int .i64 (atOf s u)]) (by kernel_rfl) ?_
  refine op_varZ (α := DRace) zl117 fun w21 hx21 hv21 => ?_
  have hlt21 := hv21.lt
  have hm : ∀ (w : World) lo hi, OwnI lo hi w (.agg #[.int .i64 a.global, .int .i64 (atOf s t), .int .i64 (atOf s u)]) (⟨a.global, atOf s t, atOf s u⟩ : DRace) := fun w lo hi => ⟨[], mine_race (x := ⟨a.global, atOf s t, atOf s u⟩) hI89 (by unfold I64; simp only; omega) (by unfold I64; simp only; omega), by simp⟩
  refine opu_varA (lo := w20.heap.size) (hi := w20.heap.size) ty117 hv21 (hm w21 _ _) (.inr (Nat.le_refl _)) fun w22 hc22 hv22 => ?_
  have hx22 : Ext w20 w22 := hx21.chgI hc22 (Nat.le_refl _)
  have hrace : raceOf a b = if atOf s u < atOf s t then ⟨a.global, atOf s u, atOf s t⟩ else ⟨a.global, atOf s t, atOf s u⟩ := by
    unfold raceOf
    rw [hata.1, hatb.1]
    split
    · rw [Int.min_eq_right (by omega), Int.max_eq_left (by omega)]
    · rw [Int.min_eq_left (by omega), Int.max_eq_right (by omega)]
  have hclr : clR a b = [raceOf a b] := by unfold clR; rw [if_pos hcl]
  have hlen : (canon (hT T t ++ hU T (T t) u ++ hA (T u) ((T t).take i) ++ ((T u).take j).flatMap (clR a))).length ≤ 10000 := by
    refine Nat.le_trans (canon_len _) ?_
    simp only [List.length_append]
    omega
  have hsz2 := hx210.size
  have hsz3 := hx1020.size
  have hyes : ∀ (r : Value) (w' w'' : World), Ext w20 w' → Ext w' w'' → OwnI w2.heap.size w''.heap.size w'' r (putR (raceOf a b) (canon (hT T t ++ hU T (T t) u ++ hA (T u) ((T t).take i) ++ ((T u).take j).flatMap (clR a)))) →
      ∃ (out : Value), [r, Value.int .i64 ((j + 1 : Nat) : Int)] = [out, .int .i64 ((j + 1 : Nat) : Int)] ∧ j + 1 ≤ (T u).length ∧ Ext w10 w'' ∧ Own w2.heap.size w'' out (canon (hT T t ++ hU T (T t) u ++ hA (T u) ((T t).take i) ++ ((T u).take (j + 1)).flatMap (clR a))) := fun r w' w'' hx hy ho => by
    refine ⟨r, rfl, by omega, (hx1020.trans hx).trans hy, ?_⟩
    rw [flatMap_take hj', hbg, hclr, ← List.append_assoc, canon_snoc]
    exact ho.own
  refine rd_gtr ?_
  refine br (fun hgt => ?_) (fun hle => ?_)
  · rw [if_pos hgt] at hrace
    obtain ⟨F, hO, hF⟩ := hv22
    refine rd_fld fd117_1 ?_
    obtain ⟨G1, hL1⟩ := lens_DRace_1 (Lens.var hO)
    refine opu_varL ty3 hL1 hF (Nat.le_refl _) (Nat.le_refl _) (mine_int (x := atOf s u) (by unfold I64; omega)) fun w23 hc23 hv23 => ?_
    obtain ⟨F2, hO2, hF2⟩ := hv23
    refine rd_fld fd117_2 ?_
    obtain ⟨G2, hL2⟩ := lens_DRace_2 (Lens.var hO2)
    refine opu_varL ty3 hL2 hF2 (Nat.le_refl _) (Nat.le_refl _) (mine_int (x := atOf s t) (by unfold I64; omega)) fun w24 hc24 hv24 => ?_
    have hx24 : Ext w20 w24 := (hx22.chgI hc23 (Nat.le_refl _)).chgI hc24 (Nat.le_refl _)
    refine rd_varI ty117 hv24 (Ext.refl _) fun v101 h101 => ?_
    have ho24 := ho20.ext hx24
    refine (l18Put_ok ho24.toI (by have := hx24.size; omega) h101.is (Ext.refl _) (by omega)).mono ?_
    rintro v102 w25 ⟨hx25, ho25⟩
    rw [← hrace] at ho25
    refine rd_inc (by omega) ?_
    exact ⟨mk17 - 1, by omega, j + 1, by omega, hyes v102 w24 w25 hx24 hx25 ho25⟩
  · rw [if_neg hle] at hrace
    refine rd_varI ty117 hv22 (Ext.refl _) fun v101 h101 => ?_
    have ho22 := ho20.ext hx22
    refine (l18Put_ok ho22.toI (by have := hx22.size; omega) h101.is (Ext.refl _) (by omega)).mono ?_
    rintro v102 w23 ⟨hx23, ho23⟩
    rw [← hrace] at ho23
    refine rd_inc (by omega) ?_
    exact ⟨mk17 - 1, by omega, j + 1, by omega, hyes v102 w22 w23 hx22 hx23 ho23⟩
end Go.Proofs.YteephmhilnlkpaaGreat
