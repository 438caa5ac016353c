/-
  All states, the way to one, the ends: the program's and the reference's.
-/
import Derived.Test.YteephmhilnlkpaaGreatSearchS
import Derived.Test.YteephmhilnlkpaaGreatPush
namespace Go.Proofs.YteephmhilnlkpaaGreat
open Go Go.Sh Go.Proofs
set_option linter.unusedVariables false
/-- impl.StatesOf -/
def F26 (a0 a1 : Value) (w : World) (R : Value → World → Prop) : Prop :=
  OP Tryz.prog (Instr.box 37 a0) w fun x2 w =>
  RD Tryz.prog (Instr.loadAt 37 x2) w fun x7 =>
  CALL Tryz.prog 81 [x7] w fun x8 w =>
  RD Tryz.prog (Op.unary .not x8) w fun x9 =>
  BR x9
   (R (Value.tuple #[(Value.slice none 0 0), (Value.bool false)]) w)
   (RD Tryz.prog (Instr.loadAt 37 x2) w fun x10 =>
   CALL Tryz.prog 82 [x10, a1] w fun x12 w =>
   OP Tryz.prog (Instr.alloc 91 true (.tuple #[])) w fun x6 w =>
   OPU Tryz.prog (Instr.storeAt 91 x6 x12) w fun w =>
   (fun w => RD Tryz.prog (Instr.fieldAt 91 x6 0) w fun x13 =>
   RD Tryz.prog (Instr.loadAt 45 x13) w fun x14 =>
   RD Tryz.prog (Instr.fieldAt 91 x6 3) w fun x15 =>
   RD Tryz.prog (Instr.loadAt 4 x15) w fun x16 =>
   R (Value.tuple #[x14, x16]) w) (World.drew1 w))
def cfg26 : Cfg := { ext := extL, joins := [], loops := [], draws := [(4, [0, 1, 2, 3, 4, 5], 0)], pars := [] }
theorem F26_eq (a0 a1 : Value) (w : World) (R : Value → World → Prop) : vcF Tryz.prog cfg26 Tryz.f26 [a0, a1] w R = F26 a0 a1 w R := by kernel_rfl
theorem F26_call {a0 a1 : Value} {w : World} {R : Value → World → Prop} (h : F26 a0 a1 w R) : CALL Tryz.prog 26 [a0, a1] w R :=
  call_of (g := cfg26) ent mixed Tryz.func26 (Nat.le_of_ble_eq_true (by kernel_rfl)) (by kernel_rfl) (F26_eq a0 a1 w R ▸ h)

/-- spec.StatesOf -/
def F25 (a0 a1 : Value) (w : World) (R : Value → World → Prop) : Prop :=
  OP Tryz.prog (Instr.box 37 a0) w fun x2 w =>
  RD Tryz.prog (Instr.loadAt 37 x2) w fun x7 =>
  CALL Tryz.prog 79 [x7] w fun x8 w =>
  RD Tryz.prog (Op.unary .not x8) w fun x9 =>
  BR x9
   (OP Tryz.prog (Instr.buildSlice 45 0 #[]) w fun x10 w =>
   R (Value.tuple #[x10, (Value.bool false)]) w)
   (RD Tryz.prog (Instr.loadAt 37 x2) w fun x11 =>
   CALL Tryz.prog 80 [x11, a1] w fun x13 w =>
   (fun w => NIL x13 <|
   RD Tryz.prog (Instr.fieldAt 89 x13 0) w fun x16 =>
   RD Tryz.prog (Instr.loadAt 45 x16) w fun x17 =>
   NIL x13 <|
   RD Tryz.prog (Instr.fieldAt 89 x13 3) w fun x20 =>
   RD Tryz.prog (Instr.loadAt 4 x20) w fun x21 =>
   R (Value.tuple #[x17, x21]) w) (World.drew1 w))
def cfg25 : Cfg := { ext := extL, joins := [], loops := [], draws := [(4, [0, 1, 2, 3, 4, 5, 6, 7, 8, 9], 0)], pars := [] }
theorem F25_eq (a0 a1 : Value) (w : World) (R : Value → World → Prop) : vcF Tryz.prog cfg25 Tryz.f25 [a0, a1] w R = F25 a0 a1 w R := by kernel_rfl
theorem F25_call {a0 a1 : Value} {w : World} {R : Value → World → Prop} (h : F25 a0 a1 w R) : CALL Tryz.prog 25 [a0, a1] w R :=
  call_of (g := cfg25) ent mixed Tryz.func25 (Nat.le_of_ble_eq_true (by kernel_rfl)) (by kernel_rfl) (F25_eq a0 a1 w R ▸ h)

/-- slices.Reverse[[]int,int] -/
def F85 (a0 : Value) (w : World) (R : Value → World → Prop) : Prop :=
  RD Tryz.prog (Builtin.len_ #[23] 3 [a0].toArray) w fun x5 =>
  RD Tryz.prog (bin .sub 3 (.tmp 0) (.const undef) x5 (Value.int .i64 1)) w fun x6 =>
  LOOPI [2, 3] [(Value.int .i64 0), x6] w fun u1 w next1 =>
   RD Tryz.prog (bin .lss 3 (.tmp 0) (.tmp 0) (u1 2) (u1 3)) w fun x9 =>
   BR x9
    ((fun w => RD Tryz.prog (Instr.indexAt 23 a0 (u1 3)) w fun x20 =>
    RD Tryz.prog (Instr.loadAt 3 x20) w fun x21 =>
    RD Tryz.prog (Instr.indexAt 23 a0 (u1 2)) w fun x24 =>
    RD Tryz.prog (Instr.loadAt 3 x24) w fun x25 =>
    RD Tryz.prog (Instr.indexAt 23 a0 (u1 2)) w fun x26 =>
    OPU Tryz.prog (Instr.storeAt 3 x26 x21) w fun w =>
    RD Tryz.prog (Instr.indexAt 23 a0 (u1 3)) w fun x27 =>
    OPU Tryz.prog (Instr.storeAt 3 x27 x25) w fun w =>
    RD Tryz.prog (bin .add 3 (.tmp 0) (.const undef) (u1 2) (Value.int .i64 1)) w fun x11 =>
    RD Tryz.prog (bin .sub 3 (.tmp 0) (.const undef) (u1 3) (Value.int .i64 1)) w fun x13 =>
    next1 [x11, x13] w) (World.drew1 w))
    (R (Value.tuple #[]) w)
def cfg85 : Cfg := { ext := extL, joins := [], loops := [(1, 268435340, [2, 3])], draws := [(3, [0, 1, 2, 3, 4, 5, 6, 7, 8, 9, 10, 11, 12, 13, 14, 15], 0)], pars := [] }
theorem F85_eq (a0 : Value) (w : World) (R : Value → World → Prop) : vcF Tryz.prog cfg85 Tryz.f85 [a0] w R = F85 a0 w R := by kernel_rfl
theorem F85_call {a0 : Value} {w : World} {R : Value → World → Prop} (h : F85 a0 w R) : CALL Tryz.prog 85 [a0] w R :=
  call_of (g := cfg85) ent mixed Tryz.func85 (Nat.le_of_ble_eq_true (by kernel_rfl)) (by kernel_rfl) (F85_eq a0 w R ▸ h)

set_option linter.unusedVariables false
set_option linter.unusedSimpArgs false

/-- how many are looked for -/
def mostN (m : Int) : Nat := (brought m 1 150).toNat
def statesOf (c : DCode) (m : Int) : List DState := if CodeR c then (lookD c (mostN m)).states else []
def wholeOf (c : DCode) (m : Int) : Bool := if CodeR c then (lookD c (mostN m)).whole else false
theorem implStatesOf_ok {w W0 : World} {v0 : Value} {c : DCode} {m : Int} (h0 : Is W0 v0 c) (e0 : Ext W0 w) (hw : wCode c ≤ 1048576) :
    CALL Tryz.prog 26 [v0, .int .i64 m] w fun r w' => Ext w w' ∧ (∃ a, r = .tuple #[a, .bool (wholeOf c m)] ∧ Own w.heap.size w' a (statesOf c m)) ∧ (CodeR c → TrOk c (mostN m) (lookD c (mostN m))) := by
  refine F26_call ?_
  unfold F26
  refine op_box h0 e0 fun w1 hx1 hA => ?_
  have hs1 := hx1.size
  refine rd_load ty37 hA (Ext.refl _) fun v7 h7 => ?_
  refine (implCodeOk_ok h7 (Ext.refl _)).mono ?_
  rintro _ w2 ⟨hx2, rfl⟩
  have hs2 := hx2.size
  refine rd_nodec ?_
  refine br (fun hn => ?_) (fun hc => ?_)
  · refine ⟨hx1.trans hx2, ?_, fun h => absurd h hn⟩
    rw [show wholeOf c m = false from if_neg hn, show statesOf c m = [] from if_neg hn]
    exact ⟨_, rfl, own_nil rfl⟩
  have hc := Decidable.not_not.1 hc
  refine rd_load ty37 hA hx2 fun v10 h10 => ?_
  refine (search_ok h10 hx2 hw hc).mono ?_
  rintro r12 w3 ⟨hx3, z, o12, hz, hok⟩
  have hs3 := hx3.size
  refine op_varZ (α := DTrail) zlTr fun w4 hx4 hv => ?_
  have hs4 := hx4.size
  refine opu_varA ty91 hv (o12.ext hx4) (by omega) fun w5 hc5 hv5 => ?_
  have hs5 := hc5.size
  have o5 := (o12.ext hx4).chg hc5 (by omega)
  obtain ⟨_, r5, _, _⟩ := trail_inv o5
  have hx6 := ext_drew w5
  refine rd_fld fd91_0 ?_
  refine rd_loadV ty45 (at_DTrail_0 hv5.at) hx6 ?_
  refine rd_fld fd91_3 ?_
  refine rd_loadB ty4 (at_DTrail_3 hv5.at) hx6 ?_
  have e1 : wholeOf c m = z.whole := by unfold wholeOf; rw [if_pos hc, show lookD c (mostN m) = z.er from hz.symm]; rfl
  have e2 : statesOf c m = z.states.l := by unfold statesOf; rw [if_pos hc, show lookD c (mostN m) = z.er from hz.symm]; rfl
  refine ⟨(Ext.chgI (hx1.trans (hx2.trans (hx3.trans hx4))) hc5 (by omega)).trans hx6, ?_, fun _ => by rw [show mostN m = (brought m 1 150).toNat from rfl, ← hz]; exact hok⟩
  rw [e1, e2]
  exact ⟨_, rfl, (r5.ext hx6).own.own.mono (by omega)⟩
theorem specStatesOf_ok {w W0 : World} {v0 : Value} {c : DCode} {m : Int} (h0 : Is W0 v0 c) (e0 : Ext W0 w) (hw : wCode c ≤ 1048576) :
    CALL Tryz.prog 25 [v0, .int .i64 m] w fun r w' => Ext w w' ∧ (∃ a, r = .tuple #[a, .bool (wholeOf c m)] ∧ Own w.heap.size w' a (statesOf c m)) ∧ (CodeR c → TrOk c (mostN m) (lookD c (mostN m))) := by
  refine F25_call ?_
  unfold F25
  refine op_box h0 e0 fun w1 hx1 hA => ?_
  have hs1 := hx1.size
  refine rd_load ty37 hA (Ext.refl _) fun v7 h7 => ?_
  refine (specCodeOk_ok h7 (Ext.refl _)).mono ?_
  rintro _ w2 ⟨hx2, rfl⟩
  have hs2 := hx2.size
  refine rd_nodec ?_
  refine br (fun hn => ?_) (fun hc => ?_)
  · refine op_build0I (α := DState) u45 ty32 fun a w3 hx3 r3 => ?_
    refine ⟨hx1.trans (hx2.trans hx3), ?_, fun h => absurd h hn⟩
    rw [show wholeOf c m = false from if_neg hn, show statesOf c m = [] from if_neg hn]
    exact ⟨_, rfl, r3.own.own.mono (by have := hx3.size; omega)⟩
  have hc := Decidable.not_not.1 hc
  refine rd_load ty37 hA hx2 fun v10 h10 => ?_
  refine (l23All_ok h10 hx2 hw hc).mono ?_
  rintro _ w3 ⟨hx3, g, z, rfl, hg, hv, hz, hok⟩
  have hs3 := hx3.size
  have hx6 := ext_drew w3
  refine ⟨rfl, ?_⟩
  refine rd_fld fd89_0 ?_
  refine rd_loadV ty45 (at_DTrail_0 hv.at) hx6 ?_
  refine ⟨rfl, ?_⟩
  refine rd_fld fd89_3 ?_
  refine rd_loadB ty4 (at_DTrail_3 hv.at) hx6 ?_
  have hR : RowI w2.heap.size w3.heap.size 32 w3 z.states.v z.states.l := by
    obtain ⟨v, o, cs, F, hr, hra, hve⟩ := hv.own
    exact (trail_inv o).2.1
  have e1 : wholeOf c m = z.whole := by unfold wholeOf; rw [if_pos hc, show lookD c (mostN m) = z.er from hz.symm]; rfl
  have e2 : statesOf c m = z.states.l := by unfold statesOf; rw [if_pos hc, show lookD c (mostN m) = z.er from hz.symm]; rfl
  refine ⟨(hx1.trans (hx2.trans hx3)).trans hx6, ?_, fun _ => by rw [show mostN m = (brought m 1 150).toNat from rfl, ← hz]; exact hok⟩
  rw [e1, e2]
  exact ⟨_, rfl, (hR.ext hx6).own.own.mono (by omega)⟩
/-- the way to a state -/
theorem backD_zero {f : Tr} {n : Nat} {a : Int} (h : a ≤ 0) : backD f n a = [] := by
  cases n with
  | zero => rfl
  | succ n => rw [backD, if_neg (by omega)]
theorem backD_step {f : Tr} {n : Nat} {a : Int} (h : 0 < a) : backD f (n + 1) a = f.went.getD a.toNat 0 :: backD f n (f.ahead.getD a.toNat 0) := by rw [backD, if_pos h]
theorem backD_len (f : Tr) : ∀ (n : Nat) (a : Int), (backD f n a).length ≤ n
  | 0, _ => by simp [backD]
  | n + 1, a => by
    rw [backD]
    split
    · have := backD_len f n (f.ahead.getD a.toNat 0); simp; exact this
    · simp
def metIn (c : DCode) (s : DState) (m : Int) : Bool := decide (CodeR c ∧ s ∈ (lookD c (mostN m)).states)
def wayTo (c : DCode) (s : DState) (m : Int) : List Int := if CodeR c ∧ s ∈ (lookD c (mostN m)).states then (backD (lookD c (mostN m)) (mostN m) (plcG s (lookD c (mostN m)).states)).reverse else []
theorem getD_gt {l : List Int} {i : Nat} (h : i < l.length) : l.getD i 0 = l[i] := by rw [List.getD_eq_getElem?_getD, List.getElem?_eq_getElem h]; rfl
/-- in place, from both ends -/
theorem reverse_ok {w : World} {lo hi : Nat} {v : Value} {l : List Int} (h : OwnI lo hi w v l) :
    CALL Tryz.prog 85 [v] w fun r w' => ChgI lo hi w w' ∧ OwnI lo hi w' v l.reverse := by
  obtain ⟨F, hM, hF⟩ := h
  have hlen := is_len hM.is
  refine F85_call ?_
  unfold F85
  refine rd_len u23 hM.is ?_
  refine rd_sub (by unfold I64; omega) ?_
  refine loopC l.length (fun k us w' => us = [.int .i64 (k : Int), .int .i64 ((l.length : Int) - 1 - k)] ∧ Chg F w w' ∧ ∃ cur : List Int, Mine F w' v cur ∧ cur.length = l.length ∧ 2 * k ≤ l.length + 1 ∧ ∀ j, j < l.length → cur[j]? = if j < k ∨ l.length - k ≤ j then l[l.length - 1 - j]? else l[j]?) 0 (Nat.zero_le _)
    ⟨by simp, Chg.refl _ _, l, hM, rfl, by omega, fun j hj => by rw [if_neg (by omega)]⟩ ?_
  rintro k m u w2 hkm ⟨hu, hc2, cur, hm2, hl2, hk2, hcur⟩
  simp only [List.map_cons, List.map_nil, List.cons.injEq, and_true] at hu
  obtain ⟨hu1, hu2⟩ := hu
  rw [hu1, hu2]
  refine rd_lss ?_
  refine br (fun hlt => ?_) (fun hge => ?_)
  · have hx3 := ext_drew w2
    have hm3 := hm2.ext hx3
    have e1 : ((l.length : Int) - 1 - k) = ((l.length - 1 - k : Nat) : Int) := by omega
    rw [e1]
    obtain ⟨i, hi⟩ : ∃ i, l.length - 1 - k = i := ⟨_, rfl⟩
    rw [hi]
    have hki : k < i := by omega
    have hil : i < l.length := by omega
    refine rd_indexN u23 ty3 hm3.is (by omega) fun b o hA => ?_
    refine rd_loadI ty3 hA (Ext.refl _) fun hI1 => ?_
    refine rd_indexN u23 ty3 hm3.is (by omega) fun b o hA2 => ?_
    refine rd_loadI ty3 hA2 (Ext.refl _) fun hI2 => ?_
    refine set_step (α := Int) u23 ty3 hm3 (by omega) (mine_int hI1).own fun w4 hc4 hm4 => ?_
    refine set_step (α := Int) u23 ty3 hm4 (by simp; omega) (mine_int hI2).own fun w5 hc5 hm5 => ?_
    refine rd_inc (by omega) ?_
    refine rd_sub (by unfold I64; omega) ?_
    refine ⟨m - 1, by omega, k + 1, by omega, ?_, hc2.trans ((hx3.chg F).trans (hc4.trans hc5)), _, hm5, by simp [hl2], by omega, fun j hj => ?_⟩
    · congr 2; congr 1; omega
    · rw [List.getElem?_set, List.getElem?_set]
      simp only [List.length_set]
      have hc_i := hcur i hil
      have hc_k := hcur k (by omega)
      rw [if_neg (by omega), List.getElem?_eq_getElem (by omega), List.getElem?_eq_getElem (by omega), Option.some.injEq] at hc_i hc_k
      by_cases hji : i = j
      · subst hji
        rw [if_pos rfl, if_pos (by omega), if_pos (by omega), hc_k, List.getElem?_eq_getElem (by omega)]
        congr 2; omega
      · by_cases hjk : k = j
        · subst hjk
          rw [if_neg (by omega), if_pos rfl, if_pos (by omega), if_pos (by omega), hc_i, List.getElem?_eq_getElem (by omega)]
          congr 2; omega
        · rw [if_neg hji, if_neg hjk, hcur j hj]
          by_cases h : j < k ∨ l.length - k ≤ j
          · rw [if_pos h, if_pos (by omega)]
          · rw [if_neg h, if_neg (by omega)]
  · refine ⟨hc2.toI hF, F, ?_, hF⟩
    have : l.reverse = cur := by
      refine List.ext_getElem? fun j => ?_
      rcases Nat.lt_or_ge j l.length with hj | hj
      · rw [hcur j hj, List.getElem?_reverse hj]
        by_cases h : j < k ∨ l.length - k ≤ j
        · rw [if_pos h]
        · rw [if_neg h]
          congr 1; omega
      · rw [List.getElem?_eq_none (by simpa using hj), List.getElem?_eq_none (by omega)]
    rw [this]; exact hm2
end Go.Proofs.YteephmhilnlkpaaGreat
