/-
  Marks in lists of states; two lists of states held against each other.
-/
import Derived.Test.YteephmhilnlkpaaGreatMarks
namespace Go.Proofs.YteephmhilnlkpaaGreat
open Go Go.Sh Go.Proofs
set_option linter.unusedVariables false
/-- laws.markStateS -/
def F28 (a0 a1 : Value) (w : World) (R : Value → World → Prop) : Prop :=
  LOOPI [1, 5] [a1, (Value.int .i64 0)] w fun u2 w next2 =>
   RD Tryz.prog (Builtin.len_ #[45] 3 [a0].toArray) w fun x8 =>
   RD Tryz.prog (bin .lss 3 (.tmp 0) (.tmp 0) (u2 5) x8) w fun x9 =>
   BR x9
    (RD Tryz.prog (Instr.indexAt 45 a0 (u2 5)) w fun x14 =>
    RD Tryz.prog (Instr.fieldAt 32 x14 0) w fun x15 =>
    RD Tryz.prog (Instr.loadAt 23 x15) w fun x16 =>
    CALL Tryz.prog 33 [x16, (u2 1)] w fun x18 w =>
    RD Tryz.prog (Instr.indexAt 45 a0 (u2 5)) w fun x21 =>
    RD Tryz.prog (Instr.fieldAt 32 x21 1) w fun x22 =>
    RD Tryz.prog (Instr.loadAt 23 x22) w fun x23 =>
    CALL Tryz.prog 33 [x23, x18] w fun x25 w =>
    RD Tryz.prog (Instr.indexAt 45 a0 (u2 5)) w fun x28 =>
    RD Tryz.prog (Instr.fieldAt 32 x28 2) w fun x29 =>
    RD Tryz.prog (Instr.loadAt 27 x29) w fun x30 =>
    CALL Tryz.prog 59 [x30, x25] w fun x32 w =>
    RD Tryz.prog (bin .add 3 (.tmp 0) (.const undef) (u2 5) (Value.int .i64 1)) w fun x11 =>
    next2 [x32, x11] w)
    (R (u2 1) w)
def cfg28 : Cfg := { ext := extL, joins := [], loops := [(2, 8589934562, [1, 5])], draws := [], pars := [] }
theorem F28_eq (a0 a1 : Value) (w : World) (R : Value → World → Prop) : vcF Tryz.prog cfg28 Tryz.f28 [a0, a1] w R = F28 a0 a1 w R := by kernel_rfl
theorem F28_call {a0 a1 : Value} {w : World} {R : Value → World → Prop} (h : F28 a0 a1 w R) : CALL Tryz.prog 28 [a0, a1] w R :=
  call_of (g := cfg28) ent mixed Tryz.func28 (Nat.le_of_ble_eq_true (by kernel_rfl)) (by kernel_rfl) (F28_eq a0 a1 w R ▸ h)

/-- laws.heldStateS -/
def F29 (a0 a1 : Value) (w : World) (R : Value → World → Prop) : Prop :=
  LOOPI [1, 5] [a1, (Value.int .i64 0)] w fun u2 w next2 =>
   RD Tryz.prog (Builtin.len_ #[45] 3 [a0].toArray) w fun x8 =>
   RD Tryz.prog (bin .lss 3 (.tmp 0) (.tmp 0) (u2 5) x8) w fun x9 =>
   BR x9
    (RD Tryz.prog (Instr.indexAt 45 a0 (u2 5)) w fun x14 =>
    RD Tryz.prog (Instr.fieldAt 32 x14 0) w fun x15 =>
    RD Tryz.prog (Instr.loadAt 23 x15) w fun x16 =>
    CALL Tryz.prog 34 [x16, (u2 1)] w fun x18 w =>
    RD Tryz.prog (bin .lss 3 (.tmp 0) (.const undef) x18 (Value.int .i64 0)) w fun x20 =>
    BR x20
     (R (Value.int .i64 (-1)) w)
     (RD Tryz.prog (Instr.indexAt 45 a0 (u2 5)) w fun x23 =>
     RD Tryz.prog (Instr.fieldAt 32 x23 1) w fun x24 =>
     RD Tryz.prog (Instr.loadAt 23 x24) w fun x25 =>
     CALL Tryz.prog 34 [x25, x18] w fun x27 w =>
     RD Tryz.prog (bin .lss 3 (.tmp 0) (.const undef) x27 (Value.int .i64 0)) w fun x29 =>
     BR x29
      (R (Value.int .i64 (-1)) w)
      (RD Tryz.prog (Instr.indexAt 45 a0 (u2 5)) w fun x32 =>
      RD Tryz.prog (Instr.fieldAt 32 x32 2) w fun x33 =>
      RD Tryz.prog (Instr.loadAt 27 x33) w fun x34 =>
      CALL Tryz.prog 60 [x34, x27] w fun x36 w =>
      RD Tryz.prog (bin .lss 3 (.tmp 0) (.const undef) x36 (Value.int .i64 0)) w fun x38 =>
      BR x38
       (R (Value.int .i64 (-1)) w)
       (RD Tryz.prog (bin .add 3 (.tmp 0) (.const undef) (u2 5) (Value.int .i64 1)) w fun x11 =>
       next2 [x36, x11] w))))
    (R (u2 1) w)
def cfg29 : Cfg := { ext := extL, joins := [], loops := [(2, 549755813874, [1, 5])], draws := [], pars := [] }
theorem F29_eq (a0 a1 : Value) (w : World) (R : Value → World → Prop) : vcF Tryz.prog cfg29 Tryz.f29 [a0, a1] w R = F29 a0 a1 w R := by kernel_rfl
theorem F29_call {a0 a1 : Value} {w : World} {R : Value → World → Prop} (h : F29 a0 a1 w R) : CALL Tryz.prog 29 [a0, a1] w R :=
  call_of (g := cfg29) ent mixed Tryz.func29 (Nat.le_of_ble_eq_true (by kernel_rfl)) (by kernel_rfl) (F29_eq a0 a1 w R ▸ h)

set_option linter.unusedVariables false
set_option linter.unusedSimpArgs false

def nSS (l : List DState) : Nat := sm nSt l
def mkSS (k : Int) : List DState → List DState
  | [] => []
  | x :: r => mkSt k x :: mkSS (k + nSt x) r
theorem mkSS_len (k : Int) (l : List DState) : (mkSS k l).length = l.length := by
  induction l generalizing k with
  | nil => rfl
  | cons x r ih => simp [mkSS, ih]
theorem mkSS_append (k : Int) (l m : List DState) : mkSS k (l ++ m) = mkSS k l ++ mkSS (k + nSS l) m := by
  induction l generalizing k with
  | nil => simp [mkSS, nSS, sm]
  | cons x r ih => simp [mkSS, ih, nSS, sm, Int.add_assoc]
theorem mkSS_get (k : Int) (l : List DState) {i : Nat} (hi : i < l.length) : (mkSS k l)[i]'(by rw [mkSS_len]; exact hi) = mkSt (k + nSS (l.take i)) l[i] := by
  have e : l = l.take i ++ (l[i] :: l.drop (i + 1)) := by simp
  have h1 : (mkSS k l)[i]? = some (mkSt (k + nSS (l.take i)) l[i]) := by
    conv => lhs; rw [e, mkSS_append]
    rw [List.getElem?_append_right (by rw [mkSS_len, List.length_take]; omega)]
    simp [mkSS, mkSS_len, Nat.min_eq_left (Nat.le_of_lt hi)]
  rw [List.getElem?_eq_getElem (by rw [mkSS_len]; exact hi)] at h1
  exact Option.some.inj h1
theorem nSS_take {l : List DState} {i : Nat} (hi : i < l.length) : nSS (l.take (i + 1)) = nSS (l.take i) + nSt l[i] := sm_take nSt hi
theorem nSS_le {l : List DState} (i : Nat) : nSS (l.take i) ≤ nSS l := by
  unfold nSS
  conv => rhs; rw [← List.take_append_drop i l]
  unfold sm
  rw [List.map_append, List.sum_append]
  omega
theorem markStateS_mine {w : World} {F : List Nat} {v : Value} {l : List DState} {k : Int} (h : Mine F w v l) (hl : l.length ≤ 1048576) (hn : nSS l ≤ 1000000000) (hs : ∀ s ∈ l, s.stacks.length ≤ 1048576) (hk0 : 0 ≤ k) (hk1 : k ≤ 100000000000000000) :
    CALL Tryz.prog 28 [v, .int .i64 k] w fun r w' => r = .int .i64 (k + nSS l) ∧ Chg F w w' ∧ OwnS F w' v (mkSS k l) := by
  refine F28_call ?_
  unfold F28
  refine loopC l.length (fun i us w' => us = [.int .i64 (k + nSS (l.take i)), .int .i64 (i : Int)] ∧ Chg F w w' ∧ OwnS F w' v (mkSS k (l.take i) ++ l.drop i)) 0 (Nat.zero_le _) ⟨by simp [nSS, sm], Chg.refl _ _, by simpa [mkSS] using h.toS⟩ ?_
  rintro i m u w2 hkm ⟨hu, hc2, F', hm2, hF'⟩
  simp only [List.map_cons, List.map_nil, List.cons.injEq, and_true] at hu
  obtain ⟨hu1, hu2⟩ := hu
  rw [hu1, hu2]
  have hlen : (mkSS k (l.take i) ++ l.drop i).length = l.length := by simp [mkSS_len]; omega
  refine rd_len u45 hm2.is ?_
  rw [hlen]
  refine rd_lss ?_
  refine br (fun hlt => ?_) (fun hge => ?_)
  · have hi : i < l.length := by omega
    have h1 := nSS_take hi
    have h2 := nSS_le (l := l) (i + 1)
    have h3 := hs _ (List.getElem_mem hi)
    have hns : nSt l[i] = l[i].vars.length + l[i].owner.length + nLL l[i].stacks := rfl
    obtain ⟨cur, hcur, hm2, hlen, hget⟩ : ∃ cur : List DState, mkSS k (l.take i) ++ l.drop i = cur ∧ Mine F' w2 v cur ∧ cur.length = l.length ∧ ∀ h : i < cur.length, cur[i]'h = l[i] := ⟨_, rfl, hm2, hlen, fun h => by
      rw [List.getElem_append_right (by rw [mkSS_len, List.length_take]; omega)]
      simp [mkSS_len, Nat.min_eq_left (Nat.le_of_lt hi)]⟩
    refine rd_focus u45 ty32 hm2 (by omega) fun b o G hL => ?_
    refine rd_fld fd32_0 ?_
    obtain ⟨G1, hL1⟩ := lens_DState_0 hL
    refine rd_lens_row ty23 hL1 fun u3 hM3 hG3 hb3 => ?_
    simp only [hget] at hM3 hb3
    refine (markIntS_ok hM3 (by omega) (by omega) (by omega)).mono ?_
    rintro _ w3 ⟨rfl, hc3, hm3⟩
    obtain ⟨F4, hm4, hF4⟩ := hb3 w3 G1 _ hc3 hm3 fun c hc => .inl hc
    have hF4' : ∀ c ∈ F4, c ∈ F' := fun c hc => by
      rcases hF4 c hc with h | h
      · exact h
      · exact hG3 c h
    refine rd_focus u45 ty32 hm4 (by simp; omega) fun b o G hL => ?_
    refine rd_fld fd32_1 ?_
    obtain ⟨G5, hL5⟩ := lens_DState_1 hL
    refine rd_lens_row ty23 hL5 fun u5 hM5 hG5 hb5 => ?_
    simp only [List.getElem_set_self, List.set_set] at hM5 hb5
    refine (markIntS_ok hM5 (by omega) (by omega) (by omega)).mono ?_
    rintro _ w5 ⟨rfl, hc5, hm5⟩
    obtain ⟨F6, hm6, hF6⟩ := hb5 w5 G5 _ hc5 hm5 fun c hc => .inl hc
    have hF6' : ∀ c ∈ F6, c ∈ F4 := fun c hc => by
      rcases hF6 c hc with h | h
      · exact h
      · exact hG5 c h
    refine rd_focus u45 ty32 hm6 (by simp; omega) fun b o G hL => ?_
    refine rd_fld fd32_2 ?_
    obtain ⟨G7, hL7⟩ := lens_DState_2 hL
    refine rd_lens_row ty27 hL7 fun u7 hM7 hG7 hb7 => ?_
    simp only [List.getElem_set_self, List.set_set] at hM7 hb7
    refine (markIntSS_ok hM7 (by omega) (by omega) (by omega)).mono ?_
    rintro _ w7 ⟨rfl, hc7, F7', hm7, hF7'⟩
    obtain ⟨F8, hm8, hF8⟩ := hb7 w7 F7' _ hc7 hm7 fun c hc => .inl (hF7' c hc)
    refine rd_inc (by omega) ?_
    refine ⟨m - 1, by omega, i + 1, by omega, by rw [h1, hns]; simp [Int.add_assoc], ((hc2.sub hc3 fun c hc => hF' c (hG3 c hc)).sub hc5 fun c hc => hF' c (hF4' c (hG5 c hc))).sub hc7 fun c hc => hF' c (hF4' c (hF6' c (hG7 c hc))), F8, ?_, fun c hc => ?_⟩
    · have : cur.set i (mkSt (k + nSS (l.take i)) l[i]) = mkSS k (l.take (i + 1)) ++ l.drop (i + 1) := by
        rw [← hcur, List.drop_eq_getElem_cons hi, List.set_append_right _ _ (by rw [mkSS_len, List.length_take]; omega), List.take_succ_eq_append_getElem hi, mkSS_append, mkSS_len, List.length_take, Nat.min_eq_left (Nat.le_of_lt hi), Nat.sub_self, List.set_cons_zero]
        simp only [mkSS, List.append_assoc, List.cons_append, List.nil_append]
      rw [← this]; exact hm8
    · rcases hF8 c hc with h | h
      · exact hF' c (hF4' c (hF6' c h))
      · exact hF' c (hF4' c (hF6' c (hG7 c (hF7' c h))))
  · have : i = l.length := by omega
    subst this
    rw [List.take_length, List.drop_length, List.append_nil] at hm2
    exact ⟨by rw [List.take_length], hc2, F', hm2, hF'⟩
theorem markStateS_ok {w : World} {lo hi : Nat} {v : Value} {l : List DState} {k : Int} (h : OwnI lo hi w v l) (hl : l.length ≤ 1048576) (hn : nSS l ≤ 1000000000) (hs : ∀ s ∈ l, s.stacks.length ≤ 1048576) (hk0 : 0 ≤ k) (hk1 : k ≤ 100000000000000000) :
    CALL Tryz.prog 28 [v, .int .i64 k] w fun r w' => r = .int .i64 (k + nSS l) ∧ ChgI lo hi w w' ∧ OwnI lo hi w' v (mkSS k l) := by
  obtain ⟨F, hM, hF⟩ := h
  exact (markStateS_mine hM hl hn hs hk0 hk1).mono fun r w' ⟨h1, h2, h3⟩ => ⟨h1, h2.toI hF, h3.toI hF⟩
theorem heldStateS_ok {w w0 : World} {v : Value} {l : List DState} {k : Int} (h : Is w0 v (mkSS k l)) (hx : Ext w0 w) (hl : l.length ≤ 1048576) (hn : nSS l ≤ 1000000000) (hs : ∀ s ∈ l, s.stacks.length ≤ 1048576) (hk0 : 0 ≤ k) (hk1 : k ≤ 100000000000000000) :
    CALL Tryz.prog 29 [v, .int .i64 k] w fun r w' => Ext w w' ∧ r = .int .i64 (k + nSS l) := by
  refine F29_call ?_
  unfold F29
  refine loopC l.length (fun i us w' => us = [.int .i64 (k + nSS (l.take i)), .int .i64 (i : Int)] ∧ Ext w w') 0 (Nat.zero_le _) ⟨by simp [nSS, sm], Ext.refl w⟩ ?_
  rintro i m u w2 hkm ⟨hu, hx2⟩
  simp only [List.map_cons, List.map_nil, List.cons.injEq, and_true] at hu
  obtain ⟨hu1, hu2⟩ := hu
  rw [hu1, hu2]
  refine rd_len u45 h ?_
  rw [mkSS_len]
  refine rd_lss ?_
  refine br (fun hlt => ?_) (fun hge => ?_)
  · have hi : i < l.length := by omega
    have h1 := nSS_take hi
    have h2 := nSS_le (l := l) (i + 1)
    have hst := hs _ (List.getElem_mem hi)
    have hns : nSt l[i] = l[i].vars.length + l[i].owner.length + nLL l[i].stacks := rfl
    have hxx := hx.trans hx2
    refine rd_indexN u45 ty32 h (by rw [mkSS_len]; exact hi) fun b o hA => ?_
    rw [mkSS_get k l hi] at hA
    refine rd_fld fd32_0 ?_
    refine rd_load ty23 (at_DState_0 hA) hxx fun v3 h3 => ?_
    refine (heldIntS_ok h3 hxx (by omega) (by omega) (by omega)).mono ?_
    rintro _ w3 ⟨rfl, hx3⟩
    refine rd_lss ?_
    refine br (fun h => by omega) (fun _ => ?_)
    refine rd_indexN u45 ty32 h (by rw [mkSS_len]; exact hi) fun b o hA => ?_
    rw [mkSS_get k l hi] at hA
    refine rd_fld fd32_1 ?_
    refine rd_load ty23 (at_DState_1 hA) (hxx.trans hx3) fun v4 h4 => ?_
    refine (heldIntS_ok h4 (hxx.trans hx3) (by omega) (by omega) (by omega)).mono ?_
    rintro _ w4 ⟨rfl, hx4⟩
    refine rd_lss ?_
    refine br (fun h => by omega) (fun _ => ?_)
    refine rd_indexN u45 ty32 h (by rw [mkSS_len]; exact hi) fun b o hA => ?_
    rw [mkSS_get k l hi] at hA
    refine rd_fld fd32_2 ?_
    refine rd_load ty27 (at_DState_2 hA) (hxx.trans (hx3.trans hx4)) fun v5 h5 => ?_
    refine (heldIntSS_ok h5 (hxx.trans (hx3.trans hx4)) (by omega) (by omega) (by omega)).mono ?_
    rintro _ w5 ⟨rfl, hx5⟩
    refine rd_lss ?_
    refine br (fun h => by omega) (fun _ => ?_)
    refine rd_inc (by omega) ?_
    exact ⟨m - 1, by omega, i + 1, by omega, by rw [h1, hns]; simp [Int.add_assoc], hx2.trans (hx3.trans (hx4.trans hx5))⟩
  · have : i = l.length := by omega
    subst this
    exact ⟨hx2, by rw [List.take_length]⟩
/-- laws.eqStateS -/
def F27 (a0 a1 : Value) (w : World) (R : Value → World → Prop) : Prop :=
  RD Tryz.prog (Builtin.len_ #[45] 3 [a0].toArray) w fun x7 =>
  RD Tryz.prog (Builtin.len_ #[45] 3 [a1].toArray) w fun x9 =>
  RD Tryz.prog (bin .neq 3 (.tmp 0) (.tmp 0) x7 x9) w fun x10 =>
  BR x10
   (R (Value.bool false) w)
   (LOOPI [5] [(Value.int .i64 0)] w fun u4 w next4 =>
    RD Tryz.prog (Builtin.len_ #[45] 3 [a0].toArray) w fun x13 =>
    RD Tryz.prog (bin .lss 3 (.tmp 0) (.tmp 0) (u4 5) x13) w fun x14 =>
    BR x14
     ((fun w => RD Tryz.prog (Instr.indexAt 45 a0 (u4 5)) w fun x19 =>
     RD Tryz.prog (Instr.loadAt 32 x19) w fun x20 =>
     RD Tryz.prog (Instr.indexAt 45 a1 (u4 5)) w fun x23 =>
     RD Tryz.prog (Instr.loadAt 32 x23) w fun x24 =>
     CALL Tryz.prog 20 [x20, x24] w fun x25 w =>
     RD Tryz.prog (Op.unary .not x25) w fun x26 =>
     BR x26
      (R (Value.bool false) w)
      (RD Tryz.prog (bin .add 3 (.tmp 0) (.const undef) (u4 5) (Value.int .i64 1)) w fun x16 =>
      next4 [x16] w)) (World.drew1 w))
     (R (Value.bool true) w))
def cfg27 : Cfg := { ext := extL, joins := [], loops := [(4, 134215728, [5])], draws := [(6, [0, 1, 2, 3, 4, 5, 6, 7, 8, 9], 0)], pars := [] }
theorem F27_eq (a0 a1 : Value) (w : World) (R : Value → World → Prop) : vcF Tryz.prog cfg27 Tryz.f27 [a0, a1] w R = F27 a0 a1 w R := by kernel_rfl
theorem F27_call {a0 a1 : Value} {w : World} {R : Value → World → Prop} (h : F27 a0 a1 w R) : CALL Tryz.prog 27 [a0, a1] w R :=
  call_of (g := cfg27) ent mixed Tryz.func27 (Nat.le_of_ble_eq_true (by kernel_rfl)) (by kernel_rfl) (F27_eq a0 a1 w R ▸ h)


theorem eqStateS_ok {w : World} {v0 : Value} {W0 : World} {l1 : (List DState)} {v1 : Value} {W1 : World} {l2 : (List DState)}  (h0 : Is W0 v0 l1) (e0 : Ext W0 w) (h1 : Is W1 v1 l2) (e1 : Ext W1 w)  :
    CALL Tryz.prog 27 [v0, v1] w fun r w' => Ext w w' ∧ (r = .bool (decide (l1 = l2))) := by
  refine F27_call ?_
  unfold F27
  have hl1 := is_len h0
  have hln7 := is_len h0
  refine rd_len u45 h0 ?_
  have hln9 := is_len h1
  refine rd_len u45 h1 ?_
  refine rd_neq ?_
  refine br (fun c1 => ?_) (fun c1 => ?_)
  · refine ⟨Ext.refl w, ?_⟩
    have : l1 ≠ l2 := fun e => c1 (by rw [e])
    simp [this]
  · refine loopC (l1.length) (fun k us w' => us = [.int .i64 (k : Int)] ∧ Ext w w' ∧ (l1.take k = l2.take k)) (0) (by omega) ⟨by simp, Ext.refl w, by simp⟩ ?_
    rintro k m4 uu4 w1_ hk4 ⟨hu, hx1_, hinv⟩
    simp only [List.map_cons, List.map_nil, List.cons.injEq, and_true] at hu
    try rw [hu]
    try clear hu
    have hln13 := is_len h0
    refine rd_len u45 h0 ?_
    refine rd_lss ?_
    refine br (fun c2 => ?_) (fun c2 => ?_)
    · have hx2_ := ext_drew w1_
      refine rd_indexN u45 ty32 h0 (by omega) fun b19 o19 h19 => ?_
      refine rd_load ty32 h19 (e0.trans (hx1_.trans hx2_)) fun v20 h20 => ?_
      refine rd_indexN u45 ty32 h1 (by omega) fun b23 o23 h23 => ?_
      refine rd_load ty32 h23 (e1.trans (hx1_.trans hx2_)) fun v24 h24 => ?_
      refine (eqState_ok h20 (e0.trans (hx1_.trans hx2_)) h24 (e1.trans (hx1_.trans hx2_))).mono ?_
      rintro _ w3_ ⟨hx3_, rfl⟩
      refine rd_nodec ?_
      refine br (fun c3 => ?_) (fun c3 => ?_)
      · refine ⟨(hx1_.trans (hx2_.trans hx3_)), ?_⟩
        have : l1 ≠ l2 := fun e => c3 (by subst e; rfl)
        simp [this]
      · refine rd_inc (by omega) ?_
        refine ⟨m4 - 1, by omega, k + 1, by omega, by simp, (hx1_.trans (hx2_.trans hx3_)), ?_⟩
        rw [List.take_succ_eq_append_getElem (by omega), List.take_succ_eq_append_getElem (by omega), hinv, Decidable.not_not.1 c3]
    · refine ⟨hx1_, ?_⟩
      rw [List.take_of_length_le (by omega), List.take_of_length_le (by omega)] at hinv
      simp [hinv]

end Go.Proofs.YteephmhilnlkpaaGreat
