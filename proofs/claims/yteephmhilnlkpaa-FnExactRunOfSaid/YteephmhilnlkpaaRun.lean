/-
  Runs by picks: the program's and the reference's.
-/
import Derived.Test.YteephmhilnlkpaaKeep
import Derived.Test.YteephmhilnlkpaaStepS
import Derived.Test.YteephmhilnlkpaaPush
namespace Go.Proofs.Yteephmhilnlkpaa
open Go Go.Sh Go.Proofs
set_option linter.unusedVariables false
set_option linter.unusedSimpArgs false

theorem ready_mem {c : DCode} {s : DState} {t : Int} : ∀ {k : Nat}, t ∈ readyTo c s k → GoR c s t
  | 0, h => by simp [readyTo] at h
  | k + 1, h => by
    rw [readyTo] at h
    split at h
    · rcases List.mem_append.1 h with h | h
      · exact ready_mem h
      · simp only [List.mem_cons, List.not_mem_nil, or_false] at h
        subst h; assumption
    · exact ready_mem h
/-- who goes by a pick -/
def pickOf (c : DCode) (s : DState) (p : Int) : Int := (readyL c s).getD ((max p 0).tmod (readyL c s).length).toNat 0
theorem pick_lt {p : Int} {n : Nat} (h : n ≠ 0) : 0 ≤ (max p 0).tmod n ∧ ((max p 0).tmod n).toNat < n := by
  have h1 : 0 ≤ max p 0 := by omega
  have h2 := Int.emod_nonneg (max p 0) (b := (n : Int)) (by omega)
  have h3 := Int.emod_lt_of_pos (max p 0) (b := (n : Int)) (by omega)
  rw [Int.tmod_eq_emod_of_nonneg h1]
  omega
theorem pick_get {c : DCode} {s : DState} {p : Int} (h : ((max p 0).tmod (readyL c s).length).toNat < (readyL c s).length) : (readyL c s)[((max p 0).tmod (readyL c s).length).toNat] = pickOf c s p := by
  unfold pickOf; rw [List.getD_eq_getElem?_getD, List.getElem?_eq_getElem h]; rfl
theorem pick_go {c : DCode} {s : DState} {p : Int} (h : (readyL c s).length ≠ 0) : GoR c s (pickOf c s p) := by
  have h1 := (pick_lt (p := p) h).2
  rw [← pick_get h1]
  exact ready_mem (List.getElem_mem h1)
def runD (c : DCode) : List Int → DState → List Int → DState × List Int
  | [], s, went => (s, went)
  | p :: ps, s, went => if (readyL c s).length = 0 then (s, went) else runD c ps (stepD c s (pickOf c s p)) (went ++ [pickOf c s p])
theorem runD_stop {c : DCode} {l : List Int} {s : DState} {went : List Int} (h : (readyL c s).length = 0) : runD c l s went = (s, went) := by
  cases l with
  | nil => rfl
  | cons p ps => rw [runD, if_pos h]
theorem runD_step {c : DCode} {l : List Int} {k : Nat} {s : DState} {went : List Int} (hk : k < l.length) (h : ¬ (readyL c s).length = 0) : runD c (l.drop k) s went = runD c (l.drop (k + 1)) (stepD c s (pickOf c s l[k])) (went ++ [pickOf c s l[k]]) := by
  rw [List.drop_eq_getElem_cons hk, runD, if_neg h]
def runOf (c : DCode) (picks : List Int) : DState × List Int := if CodeR c then runD c (picks.take 400) (startD c) [] else (⟨[], [], []⟩, [])
/-- a state and a list, each of its own -/
def Own2 {α β : Type} [Rep α] [Rep β] (w w' : World) (r : Value) (x : α) (y : β) : Prop := ∃ a b lo hi lo2 hi2, r = .tuple #[a, b] ∧ OwnI lo hi w' a x ∧ OwnI lo2 hi2 w' b y ∧ w.heap.size ≤ lo ∧ w.heap.size ≤ lo2 ∧ hi ≤ w'.heap.size ∧ hi2 ≤ w'.heap.size ∧ (hi ≤ lo2 ∨ hi2 ≤ lo)
/-- impl.RunOf -/
def F8 (a0 a1 : Value) (w : World) (R : Value → World → Prop) : Prop :=
  OP Try.prog (Instr.box 35 a0) w fun x2 w =>
  OP Try.prog (Instr.alloc 30 true (.tuple #[])) w fun x4 w =>
  RD Try.prog (Instr.loadAt 35 x2) w fun x12 =>
  CALL Try.prog 26 [x12] w fun x13 w =>
  RD Try.prog (Op.unary .not x13) w fun x14 =>
  BR x14
   (RD Try.prog (Instr.build 30 #[]) w fun x15 =>
   OPU Try.prog (Instr.storeAt 30 x4 x15) w fun w =>
   RD Try.prog (loadRes 30 x4) w fun r4 => R (Value.tuple #[r4, (Value.slice none 0 0)]) w)
   (RD Try.prog (Instr.loadAt 35 x2) w fun x16 =>
   CALL Try.prog 27 [x16] w fun x17 w =>
   OP Try.prog (Instr.alloc 30 true (.tuple #[])) w fun x6 w =>
   OPU Try.prog (Instr.storeAt 30 x6 x17) w fun w =>
   RD Try.prog (Builtin.len_ #[23] 3 [a1].toArray) w fun x20 =>
   RD Try.prog (Builtin.min_ #[3, 3] 3 [x20, (Value.int .i64 400)].toArray) w fun x21 =>
   RD Try.prog (Instr.sliceAt 23 a1 none (some x21) none) w fun x22 =>
   RD Try.prog (Builtin.len_ #[23] 3 [x22].toArray) w fun x23 =>
   LOOPI [7, 24] [(Value.slice none 0 0), (Value.int .i64 0)] w fun u6 w next6 =>
    RD Try.prog (bin .lss 3 (.tmp 0) (.tmp 0) (u6 24) x23) w fun x25 =>
    BR x25
     (RD Try.prog (Instr.indexAt 23 x22 (u6 24)) w fun x26 =>
     RD Try.prog (Instr.loadAt 3 x26) w fun x27 =>
     RD Try.prog (Instr.loadAt 35 x2) w fun x28 =>
     RD Try.prog (Instr.loadAt 30 x6) w fun x29 =>
     CALL Try.prog 28 [x28, x29] w fun x30 w =>
     RD Try.prog (Builtin.len_ #[23] 3 [x30].toArray) w fun x32 =>
     RD Try.prog (bin .eql 3 (.tmp 0) (.const undef) x32 (Value.int .i64 0)) w fun x33 =>
     BR x33
      (RD Try.prog (Instr.loadAt 30 x6) w fun x51 =>
      OPU Try.prog (Instr.storeAt 30 x4 x51) w fun w =>
      RD Try.prog (loadRes 30 x4) w fun r4 => R (Value.tuple #[r4, (u6 7)]) w)
      (RD Try.prog (Builtin.max_ #[3, 3] 3 [x27, (Value.int .i64 0)].toArray) w fun x36 =>
      RD Try.prog (Builtin.len_ #[23] 3 [x30].toArray) w fun x38 =>
      RD Try.prog (bin .rem 3 (.tmp 0) (.tmp 0) x36 x38) w fun x39 =>
      RD Try.prog (Instr.indexAt 23 x30 x39) w fun x40 =>
      RD Try.prog (Instr.loadAt 3 x40) w fun x41 =>
      RD Try.prog (Instr.loadAt 35 x2) w fun x42 =>
      RD Try.prog (Instr.loadAt 30 x6) w fun x43 =>
      CALL Try.prog 29 [x42, x43, x41] w fun x45 w =>
      OPU Try.prog (Instr.storeAt 30 x6 x45) w fun w =>
      OP Try.prog (Instr.buildSlice 23 1 #[(0, x41)]) w fun x48 w =>
      OP Try.prog (Builtin.append_ #[23, 23] 23 [(u6 7), x48].toArray) w fun x49 w =>
      RD Try.prog (bin .add 3 (.tmp 0) (.const undef) (u6 24) (Value.int .i64 1)) w fun x50 =>
      next6 [x49, x50] w))
     (RD Try.prog (Instr.loadAt 30 x6) w fun x51 =>
     OPU Try.prog (Instr.storeAt 30 x4 x51) w fun w =>
     RD Try.prog (loadRes 30 x4) w fun r4 => R (Value.tuple #[r4, (u6 7)]) w))
def cfg8 : Cfg := { ext := extL, joins := [], loops := [(6, 2251799796911744, [7, 24])], draws := [], pars := [] }
theorem F8_eq (a0 a1 : Value) (w : World) (R : Value → World → Prop) : vcF Try.prog cfg8 Try.f8 [a0, a1] w R = F8 a0 a1 w R := by kernel_rfl
theorem F8_call {a0 a1 : Value} {w : World} {R : Value → World → Prop} (h : F8 a0 a1 w R) : CALL Try.prog 8 [a0, a1] w R :=
  call_of (g := cfg8) ent mixed Try.func8 (Nat.le_of_ble_eq_true (by kernel_rfl)) (by kernel_rfl) (F8_eq a0 a1 w R ▸ h)


theorem implRunOf_ok {w : World} {v0 : Value} {W0 : World} {c : DCode} {v1 : Value} {W1 : World} {picks : (List Int)}  (h0 : Is W0 v0 c) (e0 : Ext W0 w) (h1 : Is W1 v1 picks) (e1 : Ext W1 w) (hw : wCode c ≤ 1048576) :
    CALL Try.prog 8 [v0, v1] w fun r w' => Ext w w' ∧ (Own2 w w' r (runOf c picks).1 (runOf c picks).2) := by
  refine F8_call ?_
  unfold F8
  have hs_e0 := e0.size
  have hs_e1 := e1.size
  refine op_boxS ty35 rfl h0 e0 fun w1_ hx1_ hA2 hV2 => ?_
  have hs_hx1_ := hx1_.size
  refine op_varZ (α := DState) zl30 fun w2_ hx2_ hv4 => ?_
  have hg4 := hv4.lt
  have hs_hx2_ := hx2_.size
  refine rd_var hV2 hx2_ ?_
  refine (implCodeOk_ok h0 (e0.trans (hx1_.trans hx2_))).mono ?_
  rintro _ w3_ ⟨hx3_, rfl⟩
  have hs_hx3_ := hx3_.size
  refine rd_nodec ?_
  refine br (fun c1 => ?_) (fun c1 => ?_)
  · refine rd_build (cells := #[.slice none 0 0, .slice none 0 0, .slice none 0 0]) (by kernel_rfl) ?_
    have o15 : OwnI (α := DState) w3_.heap.size w3_.heap.size w3_ (.agg #[.slice none 0 0, .slice none 0 0, .slice none 0 0]) RepZ.zv := ownI_zero
    refine opu_varA ty30 (hv4.ext hx3_) (o15.ext (Ext.refl w3_)) (by omega) fun w4_ hc4_ hv4_s4 => ?_
    have hs_hc4_ := hc4_.size
    have o15_c4 := (o15.ext (Ext.refl w3_)).chg hc4_ (by omega)
    refine rd_varRI ty30 hv4_s4 (Ext.refl w4_) fun r4 hr4 => ?_
    replace hr4 := hr4.ext (Ext.refl w4_)
    refine ⟨(Ext.chgI ((hx1_.trans hx2_).trans hx3_) hc4_ (by omega)), ?_⟩
    rw [show runOf c picks = (⟨[], [], []⟩, []) from if_neg c1]
    exact ⟨_, _, _, _, _, _, rfl, hr4, ownI_zcap (lo := w4_.heap.size) (hi := w4_.heap.size) none, by omega, by omega, by omega, by omega, by omega⟩
  · have hc : CodeR c := Decidable.not_not.1 c1
    refine rd_var hV2 (hx2_.trans hx3_) ?_
    refine (startIn_ok h0 (e0.trans (hx1_.trans (hx2_.trans hx3_))) (by omega) (by assumption)).mono ?_
    rintro r17 w5_ ⟨hx5_, o17⟩
    have o17 := o17.toI
    have hs_hx5_ := hx5_.size
    refine op_varZ (α := DState) zl30 fun w6_ hx6_ hv6 => ?_
    have hg6 := hv6.lt
    have hs_hx6_ := hx6_.size
    refine opu_varA ty30 (hv6.ext (Ext.refl w6_)) (o17.ext hx6_) (by omega) fun w7_ hc7_ hv6_s7 => ?_
    have hs_hc7_ := hc7_.size
    have hv4_c7 := (hv4.ext (hx3_.trans (hx5_.trans hx6_))).chg hc7_ (by omega) (by omega)
    have o17_c7 := (o17.ext hx6_).chg hc7_ (by omega)
    have hln20 := is_len h1
    refine rd_len u23 h1 ?_
    refine rd_min ?_
    refine rd_slice_to u23 ty3 h1 (by omega) (by omega) fun v22 h22 => ?_
    have ht : picks.take (min (picks.length : Int) 400).toNat = picks.take 400 := by
      rw [show (min (picks.length : Int) 400).toNat = min 400 picks.length by omega, ← List.take_eq_take_min]
    rw [ht] at h22
    have hln23 := is_len h22
    refine rd_len u23 h22 ?_
    refine loopC ((picks.take 400).length) (fun k us w' => ∃ (s : DState) (went : List Int) (v : Value) (lo hi lo2 hi2 : Nat), us = [v, .int .i64 (k : Int)] ∧ Ext w5_ w' ∧ (k ≤ (picks.take 400).length ∧ runD c (picks.take 400) (startD c) [] = runD c ((picks.take 400).drop k) s went ∧ StateR c s ∧ went.length = k ∧ VarI lo hi w' w5_.heap.size s ∧ RowI lo2 hi2 3 w' v went ∧ (w2_.heap.size ≤ lo ∧ (hi ≤ w5_.heap.size ∨ w5_.heap.size < lo) ∧ w5_.heap.size < lo2 ∧ lo ≤ hi ∧ lo2 ≤ hi2 ∧ hi ≤ w'.heap.size ∧ hi2 ≤ w'.heap.size ∧ (hi ≤ lo2 ∨ hi2 ≤ lo)))) (0) (by omega) ⟨startD c, [], _, _, _, _, _, rfl, (Ext.chgI hx6_ hc7_ (by omega)), by omega, rfl, start_right hc, rfl, (hv6_s7.ext (Ext.refl w7_)), rowI_nil w7_.heap.size w7_.heap.size _ _, by omega⟩ ?_
    rintro k m6 uu6 w8_ hk6 ⟨s, went, v7, lo, hi, lo2, hi2, hu, hx8_, hkl, hrun, hs, hwl, hst, hrow, hbd⟩
    have hs_hx8_ := hx8_.size
    simp only [List.map_cons, List.map_nil, List.cons.injEq, and_true] at hu
    obtain ⟨hu0, hu1⟩ := hu
    try rw [hu0]
    try rw [hu1]
    try clear hu0 hu1
    have hk4 : (picks.take 400).length ≤ 400 := List.length_take_le _ _
    refine rd_lss ?_
    refine br (fun c2 => ?_) (fun c2 => ?_)
    · refine rd_indexN u23 ty3 h22 (by omega) fun b26 o26 h26 => ?_
      refine rd_loadI ty3 h26 (e1.trans (hx1_.trans (hx2_.trans (hx3_.trans (hx5_.trans hx8_))))) fun hI27 => ?_
      refine rd_var hV2 (hx2_.trans (hx3_.trans (hx5_.trans hx8_))) ?_
      refine rd_varI ty30 hst (Ext.refl w8_) fun v29 o29 => ?_
      refine (readyIn_ok h0 (e0.trans (hx1_.trans (hx2_.trans (hx3_.trans (hx5_.trans hx8_))))) o29.is (Ext.refl w8_) (by assumption) (by assumption)).mono ?_
      rintro r30 w9_ ⟨hx9_, o30⟩
      have o30 := o30.toI
      have hs_hx9_ := hx9_.size
      have hln32 := is_len o30.is
      refine rd_len u23 o30.is ?_
      refine rd_eql ?_
      refine br (fun c3 => ?_) (fun c3 => ?_)
      · refine rd_varI ty30 hst hx9_ fun v51 o51 => ?_
        refine opu_varA ty30 (hv4.ext (hx3_.trans (hx5_.trans (hx8_.trans hx9_)))) (o51.ext hx9_) (by omega) fun w10_ hc10_ hv4_s10 => ?_
        have hs_hc10_ := hc10_.size
        have o17_c10 := (o17.ext (hx8_.trans hx9_)).chg hc10_ (by omega)
        have hst_c10 := (hst.ext hx9_).chg hc10_ (by omega) (by omega)
        have hrow_c10 := (hrow.ext hx9_).chg hc10_ (by omega)
        have o30_c10 := (o30.ext (Ext.refl w9_)).chg hc10_ (by omega)
        have o29_c10 := (o29.ext hx9_).chg hc10_ (by omega)
        have o51_c10 := (o51.ext hx9_).chg hc10_ (by omega)
        refine rd_varRI ty30 hv4_s10 (Ext.refl w10_) fun r4 hr4 => ?_
        replace hr4 := hr4.ext (Ext.refl w10_)
        refine ⟨(Ext.chgI (((((hx1_.trans hx2_).trans hx3_).trans hx5_).trans hx8_).trans hx9_) hc10_ (by omega)), ?_⟩
        have hR : runOf c picks = (s, went) := by unfold runOf; rw [if_pos hc, hrun, runD_stop (by omega)]
        rw [hR]
        exact ⟨_, _, _, _, _, _, rfl, hr4, (hrow_c10.ext (Ext.refl w10_)).own, by omega, by omega, by omega, by omega, by omega⟩
      · refine rd_max ?_
        have hln38 := is_len o30.is
        refine rd_len u23 o30.is ?_
        refine rd_rem (by omega) ?_
        refine rd_index u23 ty3 o30.is (pick_lt (by omega)).1 (pick_lt (by omega)).2 fun b40 o40 h40 => ?_
        refine rd_loadI ty3 h40 (Ext.refl w9_) fun hI41 => ?_
        have hgo := pick_go (c := c) (s := s) (p := (picks.take 400)[k]) (by omega)
        rw [pick_get] at hI41
        rw [pick_get]
        refine rd_var hV2 (hx2_.trans (hx3_.trans (hx5_.trans (hx8_.trans hx9_)))) ?_
        refine rd_varI ty30 hst hx9_ fun v43 o43 => ?_
        refine (stepped_ok h0 (e0.trans (hx1_.trans (hx2_.trans (hx3_.trans (hx5_.trans (hx8_.trans hx9_)))))) o43.is hx9_ (by assumption) (by assumption) (by assumption)).mono ?_
        rintro r45 w11_ ⟨hx11_, o45⟩
        have o45 := o45.toI
        have hs_hx11_ := hx11_.size
        refine opu_varA ty30 (hst.ext (hx9_.trans hx11_)) (o45.ext (Ext.refl w11_)) (by omega) fun w12_ hc12_ hst_s12 => ?_
        have hs_hc12_ := hc12_.size
        have hv4_c12 := (hv4.ext (hx3_.trans (hx5_.trans (hx8_.trans (hx9_.trans hx11_))))).chg hc12_ (by omega) (by omega)
        have o17_c12 := (o17.ext (hx8_.trans (hx9_.trans hx11_))).chg hc12_ (by omega)
        have hrow_c12 := (hrow.ext (hx9_.trans hx11_)).chg hc12_ (by omega)
        have o30_c12 := (o30.ext hx11_).chg hc12_ (by omega)
        have o29_c12 := (o29.ext (hx9_.trans hx11_)).chg hc12_ (by omega)
        have o43_c12 := (o43.ext (hx9_.trans hx11_)).chg hc12_ (by omega)
        have o45_c12 := (o45.ext (Ext.refl w11_)).chg hc12_ (by omega)
        refine op_pushD1 (α := Int) u23 ty3 z3 zc3 (by decide) (hrow_c12.ext (Ext.refl w12_)) (ownI_int (lo := w12_.heap.size) (hi := w12_.heap.size) (by first | assumption | (unfold I64 at *; omega))) (by rw [maxLen_eq]; omega) (by omega) fun v49 w13_ lo49 hi49 hc13_ o49 hd49 => ?_
        have hs_hc13_ := hc13_.size
        have hv4_c13 := (hv4_c12.ext (Ext.refl w12_)).chg hc13_ (by omega) (by omega)
        have o17_c13 := (o17_c12.ext (Ext.refl w12_)).chg hc13_ (by omega)
        have hst_s12_c13 := (hst_s12.ext (Ext.refl w12_)).chg hc13_ (by omega) (by omega)
        have o30_c13 := (o30_c12.ext (Ext.refl w12_)).chg hc13_ (by omega)
        have o29_c13 := (o29_c12.ext (Ext.refl w12_)).chg hc13_ (by omega)
        have o43_c13 := (o43_c12.ext (Ext.refl w12_)).chg hc13_ (by omega)
        have o45_c13 := (o45_c12.ext (Ext.refl w12_)).chg hc13_ (by omega)
        refine rd_inc (by omega) ?_
        refine ⟨m6 - 1, by omega, k + 1, by omega, stepD c s (pickOf c s (picks.take 400)[k]), went ++ [pickOf c s (picks.take 400)[k]], _, (w9_.heap.size), (w11_.heap.size), (lo49), (hi49), rfl, (Ext.chgI (Ext.chgI ((hx8_.trans hx9_).trans hx11_) hc12_ (by omega)) hc13_ (by omega)), ?_⟩
        refine ⟨by omega, ?_, step_right hc hs hgo, by simp; omega, (hst_s12_c13.ext (Ext.refl w13_)), (o49.ext (Ext.refl w13_)), ?_⟩
        · rw [hrun, runD_step (by omega) (by omega)]
        · omega
    · refine rd_varI ty30 hst (Ext.refl w8_) fun v51 o51 => ?_
      refine opu_varA ty30 (hv4.ext (hx3_.trans (hx5_.trans hx8_))) (o51.ext (Ext.refl w8_)) (by omega) fun w14_ hc14_ hv4_s14 => ?_
      have hs_hc14_ := hc14_.size
      have o17_c14 := (o17.ext hx8_).chg hc14_ (by omega)
      have hst_c14 := (hst.ext (Ext.refl w8_)).chg hc14_ (by omega) (by omega)
      have hrow_c14 := (hrow.ext (Ext.refl w8_)).chg hc14_ (by omega)
      have o51_c14 := (o51.ext (Ext.refl w8_)).chg hc14_ (by omega)
      refine rd_varRI ty30 hv4_s14 (Ext.refl w14_) fun r4 hr4 => ?_
      replace hr4 := hr4.ext (Ext.refl w14_)
      refine ⟨(Ext.chgI ((((hx1_.trans hx2_).trans hx3_).trans hx5_).trans hx8_) hc14_ (by omega)), ?_⟩
      have hR : runOf c picks = (s, went) := by unfold runOf; rw [if_pos hc, hrun, List.drop_eq_nil_of_le (by omega)]; rfl
      rw [hR]
      exact ⟨_, _, _, _, _, _, rfl, hr4, (hrow_c14.ext (Ext.refl w14_)).own, by omega, by omega, by omega, by omega, by omega⟩

/-- spec.RunOf -/
def F5 (a0 a1 : Value) (w : World) (R : Value → World → Prop) : Prop :=
  OP Try.prog (Instr.box 35 a0) w fun x2 w =>
  OP Try.prog (Instr.alloc 30 true (.tuple #[])) w fun x4 w =>
  OP Try.prog (Instr.buildSlice 23 0 #[]) w fun x12 w =>
  RD Try.prog (Instr.loadAt 35 x2) w fun x13 =>
  CALL Try.prog 20 [x13] w fun x14 w =>
  OP Try.prog (Instr.alloc 30 true (.tuple #[])) w fun x7 w =>
  OPU Try.prog (Instr.storeAt 30 x7 x14) w fun w =>
  RD Try.prog (Instr.loadAt 35 x2) w fun x15 =>
  CALL Try.prog 21 [x15] w fun x16 w =>
  RD Try.prog (Op.unary .not x16) w fun x17 =>
  BR x17
   (RD Try.prog (Instr.loadAt 30 x7) w fun x18 =>
   OPU Try.prog (Instr.storeAt 30 x4 x18) w fun w =>
   RD Try.prog (loadRes 30 x4) w fun r4 => R (Value.tuple #[r4, x12]) w)
   (LOOPI [6, 8] [x12, (Value.int .i64 0)] w fun u6 w next6 =>
    RD Try.prog (Builtin.len_ #[23] 3 [a1].toArray) w fun x22 =>
    RD Try.prog (bin .lss 3 (.tmp 0) (.tmp 0) (u6 8) x22) w fun x23 =>
    BR x23
    (RD Try.prog (bin .lss 3 (.tmp 0) (.const undef) (u6 8) (Value.int .i64 400)) w fun x26 =>
    BR x26
     (RD Try.prog (Instr.loadAt 35 x2) w fun x30 =>
     RD Try.prog (Instr.loadAt 30 x7) w fun x31 =>
     CALL Try.prog 22 [x30, x31] w fun x32 w =>
     RD Try.prog (Builtin.len_ #[23] 3 [x32].toArray) w fun x34 =>
     RD Try.prog (bin .eql 3 (.tmp 0) (.const undef) x34 (Value.int .i64 0)) w fun x35 =>
     BR x35
      (RD Try.prog (Instr.loadAt 30 x7) w fun x57 =>
      OPU Try.prog (Instr.storeAt 30 x4 x57) w fun w =>
      RD Try.prog (loadRes 30 x4) w fun r4 => R (Value.tuple #[r4, (u6 6)]) w)
      (RD Try.prog (Instr.indexAt 23 a1 (u6 8)) w fun x38 =>
      RD Try.prog (Instr.loadAt 3 x38) w fun x39 =>
      JOIN [10] (fun J13 =>
       RD Try.prog (bin .lss 3 (.tmp 0) (.const undef) x39 (Value.int .i64 0)) w fun x41 =>
       BR x41
        (J13 [(Value.int .i64 0)] w)
        (J13 [x39] w)) (fun u13 w =>
       RD Try.prog (Builtin.len_ #[23] 3 [x32].toArray) w fun x45 =>
       RD Try.prog (bin .rem 3 (.tmp 0) (.tmp 0) (u13 10) x45) w fun x46 =>
       RD Try.prog (Instr.indexAt 23 x32 x46) w fun x47 =>
       RD Try.prog (Instr.loadAt 3 x47) w fun x48 =>
       RD Try.prog (Instr.loadAt 35 x2) w fun x49 =>
       RD Try.prog (Instr.loadAt 30 x7) w fun x50 =>
       CALL Try.prog 23 [x49, x50, x48] w fun x52 w =>
       OPU Try.prog (Instr.storeAt 30 x7 x52) w fun w =>
       OP Try.prog (Instr.buildSlice 23 1 #[(0, x48)]) w fun x55 w =>
       OP Try.prog (Builtin.append_ #[23, 23] 23 [(u6 6), x55].toArray) w fun x56 w =>
       RD Try.prog (bin .add 3 (.tmp 0) (.const undef) (u6 8) (Value.int .i64 1)) w fun x29 =>
       next6 [x56, x29] w)))
     (RD Try.prog (Instr.loadAt 30 x7) w fun x57 =>
     OPU Try.prog (Instr.storeAt 30 x4 x57) w fun w =>
     RD Try.prog (loadRes 30 x4) w fun r4 => R (Value.tuple #[r4, (u6 6)]) w))
    (RD Try.prog (Instr.loadAt 30 x7) w fun x57 =>
     OPU Try.prog (Instr.storeAt 30 x4 x57) w fun w =>
     RD Try.prog (loadRes 30 x4) w fun r4 => R (Value.tuple #[r4, (u6 6)]) w))
def cfg5 : Cfg := { ext := extL, joins := [(13, 3298534884352, [10])], loops := [(6, 144115188074811200, [6, 8])], draws := [], pars := [] }
theorem F5_eq (a0 a1 : Value) (w : World) (R : Value → World → Prop) : vcF Try.prog cfg5 Try.f5 [a0, a1] w R = F5 a0 a1 w R := by kernel_rfl
theorem F5_call {a0 a1 : Value} {w : World} {R : Value → World → Prop} (h : F5 a0 a1 w R) : CALL Try.prog 5 [a0, a1] w R :=
  call_of (g := cfg5) ent mixed Try.func5 (Nat.le_of_ble_eq_true (by kernel_rfl)) (by kernel_rfl) (F5_eq a0 a1 w R ▸ h)


set_option maxRecDepth 20000 in
theorem specRunOf_ok {w : World} {v0 : Value} {W0 : World} {c : DCode} {v1 : Value} {W1 : World} {picks : (List Int)}  (h0 : Is W0 v0 c) (e0 : Ext W0 w) (h1 : Is W1 v1 picks) (e1 : Ext W1 w) (hw : wCode c ≤ 1048576) :
    CALL Try.prog 5 [v0, v1] w fun r w' => Ext w w' ∧ (Own2 w w' r (runOf c picks).1 (runOf c picks).2) := by
  refine F5_call ?_
  unfold F5
  have hs_e0 := e0.size
  have hs_e1 := e1.size
  refine op_boxS ty35 rfl h0 e0 fun w1_ hx1_ hA2 hV2 => ?_
  have hs_hx1_ := hx1_.size
  refine op_varZ (α := DState) zl30 fun w2_ hx2_ hv4 => ?_
  have hg4 := hv4.lt
  have hs_hx2_ := hx2_.size
  refine op_build0I (α := Int) u23 ty3 fun v12 w3_ hx3_ o12 => ?_
  have hs_hx3_ := hx3_.size
  refine rd_var hV2 (hx2_.trans hx3_) ?_
  refine (specStartOf_ok h0 (e0.trans (hx1_.trans (hx2_.trans hx3_))) (by omega)).mono ?_
  rintro r14 w4_ ⟨hx4_, o14⟩
  have o14 := o14.toI
  have hs_hx4_ := hx4_.size
  refine op_varZ (α := DState) zl30 fun w5_ hx5_ hv7 => ?_
  have hg7 := hv7.lt
  have hs_hx5_ := hx5_.size
  refine opu_varA ty30 (hv7.ext (Ext.refl w5_)) (o14.ext hx5_) (by omega) fun w6_ hc6_ hv7_s6 => ?_
  have hs_hc6_ := hc6_.size
  have hv4_c6 := (hv4.ext (hx3_.trans (hx4_.trans hx5_))).chg hc6_ (by omega) (by omega)
  have o12_c6 := (o12.ext (hx4_.trans hx5_)).chg hc6_ (by omega)
  have o14_c6 := (o14.ext hx5_).chg hc6_ (by omega)
  refine rd_var hV2 (Ext.chgI (((hx2_.trans hx3_).trans hx4_).trans hx5_) hc6_ (by omega)) ?_
  refine (specCodeOk_ok h0 (Ext.chgI (((((e0.trans hx1_).trans hx2_).trans hx3_).trans hx4_).trans hx5_) hc6_ (by omega))).mono ?_
  rintro _ w7_ ⟨hx7_, rfl⟩
  have hs_hx7_ := hx7_.size
  refine rd_nodec ?_
  refine br (fun c1 => ?_) (fun c1 => ?_)
  · refine rd_varI ty30 hv7_s6 hx7_ fun v18 o18 => ?_
    refine opu_varA ty30 (hv4_c6.ext hx7_) (o18.ext hx7_) (by omega) fun w8_ hc8_ hv4_s8 => ?_
    have hs_hc8_ := hc8_.size
    have o12_c8 := (o12_c6.ext hx7_).chg hc8_ (by omega)
    have o14_c8 := (o14_c6.ext hx7_).chg hc8_ (by omega)
    have hv7_s6_c8 := (hv7_s6.ext hx7_).chg hc8_ (by omega) (by omega)
    have o18_c8 := (o18.ext hx7_).chg hc8_ (by omega)
    refine rd_varRI ty30 hv4_s8 (Ext.refl w8_) fun r4 hr4 => ?_
    replace hr4 := hr4.ext (Ext.refl w8_)
    refine ⟨(Ext.chgI ((Ext.chgI ((((hx1_.trans hx2_).trans hx3_).trans hx4_).trans hx5_) hc6_ (by omega)).trans hx7_) hc8_ (by omega)), ?_⟩
    rw [show runOf c picks = (⟨[], [], []⟩, []) from if_neg c1]
    rw [show startOf c = ⟨[], [], []⟩ from if_neg c1] at hr4
    exact ⟨_, _, _, _, _, _, rfl, hr4, (o12_c8.ext (Ext.refl w8_)).own, by omega, by omega, by omega, by omega, by omega⟩
  · refine loopC ((picks.take 400).length) (fun k us w' => ∃ (s : DState) (went : List Int) (v : Value) (lo hi lo2 hi2 : Nat), us = [v, .int .i64 (k : Int)] ∧ Ext w4_ w' ∧ (k ≤ (picks.take 400).length ∧ runD c (picks.take 400) (startD c) [] = runD c ((picks.take 400).drop k) s went ∧ StateR c s ∧ went.length = k ∧ VarI lo hi w' w4_.heap.size s ∧ RowI lo2 hi2 3 w' v went ∧ (w2_.heap.size ≤ lo ∧ (hi ≤ w4_.heap.size ∨ w4_.heap.size < lo) ∧ w4_.heap.size < lo2 ∧ lo ≤ hi ∧ lo2 ≤ hi2 ∧ hi ≤ w'.heap.size ∧ hi2 ≤ w'.heap.size ∧ (hi ≤ lo2 ∨ hi2 ≤ lo)))) (0) (by omega) ⟨startOf c, [], _, _, _, _, _, rfl, ((Ext.chgI hx5_ hc6_ (by omega)).trans hx7_), by omega, by rw [show startOf c = startD c from if_pos (Decidable.not_not.1 c1)]; rfl, by rw [show startOf c = startD c from if_pos (Decidable.not_not.1 c1)]; exact start_right (Decidable.not_not.1 c1), rfl, (hv7_s6.ext hx7_), rowI_zcap w7_.heap.size w7_.heap.size _ _ _, by omega⟩ ?_
    rintro k m6 uu6 w9_ hk6 ⟨s, went, v7, lo, hi, lo2, hi2, hu, hx9_, hkl, hrun, hs, hwl, hst, hrow, hbd⟩
    have hs_hx9_ := hx9_.size
    simp only [List.map_cons, List.map_nil, List.cons.injEq, and_true] at hu
    obtain ⟨hu0, hu1⟩ := hu
    try rw [hu0]
    try rw [hu1]
    try clear hu0 hu1
    have hk5 : (picks.take 400).length = min 400 picks.length := List.length_take
    have hc : CodeR c := Decidable.not_not.1 c1
    have hsd : startOf c = startD c := if_pos hc
    have hln22 := is_len h1
    refine rd_len u23 h1 ?_
    refine rd_lss ?_
    refine br (fun c2 => ?_) (fun c2 => ?_)
    · refine rd_lss ?_
      refine br (fun c3 => ?_) (fun c3 => ?_)
      · refine rd_var hV2 (hx2_.trans (hx3_.trans (hx4_.trans hx9_))) ?_
        refine rd_varI ty30 hst (Ext.refl w9_) fun v31 o31 => ?_
        refine (l22Ready_ok h0 (e0.trans (hx1_.trans (hx2_.trans (hx3_.trans (hx4_.trans hx9_))))) o31.is (Ext.refl w9_) (by assumption) (by assumption)).mono ?_
        rintro r32 w10_ ⟨hx10_, o32⟩
        have o32 := o32.toI
        have hs_hx10_ := hx10_.size
        have hln34 := is_len o32.is
        refine rd_len u23 o32.is ?_
        refine rd_eql ?_
        refine br (fun c4 => ?_) (fun c4 => ?_)
        · refine rd_varI ty30 hst hx10_ fun v57 o57 => ?_
          refine opu_varA ty30 (hv4.ext (hx3_.trans (hx4_.trans (hx9_.trans hx10_)))) (o57.ext hx10_) (by omega) fun w11_ hc11_ hv4_s11 => ?_
          have hs_hc11_ := hc11_.size
          have o12_c11 := (o12.ext (hx4_.trans (hx9_.trans hx10_))).chg hc11_ (by omega)
          have hrow_c11 := (hrow.ext hx10_).chg hc11_ (by omega)
          have o14_c11 := (o14.ext (hx9_.trans hx10_)).chg hc11_ (by omega)
          have hst_c11 := (hst.ext hx10_).chg hc11_ (by omega) (by omega)
          have o32_c11 := (o32.ext (Ext.refl w10_)).chg hc11_ (by omega)
          have o31_c11 := (o31.ext hx10_).chg hc11_ (by omega)
          have o57_c11 := (o57.ext hx10_).chg hc11_ (by omega)
          refine rd_varRI ty30 hv4_s11 (Ext.refl w11_) fun r4 hr4 => ?_
          replace hr4 := hr4.ext (Ext.refl w11_)
          refine ⟨(Ext.chgI (((((hx1_.trans hx2_).trans hx3_).trans hx4_).trans hx9_).trans hx10_) hc11_ (by omega)), ?_⟩
          have hR : runOf c picks = (s, went) := by unfold runOf; rw [if_pos hc, hrun, runD_stop (by omega)]
          rw [hR]
          exact ⟨_, _, _, _, _, _, rfl, hr4, (hrow_c11.ext (Ext.refl w11_)).own, by omega, by omega, by omega, by omega, by omega⟩
        · refine rd_indexN u23 ty3 h1 (by omega) fun b38 o38 h38 => ?_
          refine rd_loadI ty3 h38 (e1.trans (hx1_.trans (hx2_.trans (hx3_.trans (hx4_.trans (hx9_.trans hx10_)))))) fun hI39 => ?_
          refine JOIN.mk (fun us w' => us = [.int .i64 (max picks[k] 0)] ∧ Ext w10_ w' ∧ (True)) ?_ ?_
          · refine rd_lss ?_
            refine br (fun c5 => ?_) (fun c5 => ?_)
            · refine ⟨by rw [show max picks[k] 0 = 0 by omega], Ext.refl w10_, ?_⟩
              trivial
            · refine ⟨by rw [show max picks[k] 0 = picks[k] by omega], Ext.refl w10_, ?_⟩
              trivial
          · rintro uj13 w12_ ⟨hu, hx12_, hinv⟩
            have hs_hx12_ := hx12_.size
            simp only [List.map_cons, List.map_nil, List.cons.injEq, and_true] at hu
            try rw [hu]
            try clear hu
            have hln45 := is_len o32.is
            refine rd_len u23 o32.is ?_
            refine rd_rem (by omega) ?_
            refine rd_index u23 ty3 o32.is (pick_lt (by omega)).1 (pick_lt (by omega)).2 fun b47 o47 h47 => ?_
            refine rd_loadI ty3 h47 hx12_ fun hI48 => ?_
            have hgo := pick_go (c := c) (s := s) (p := picks[k]) (by omega)
            rw [pick_get] at hI48
            rw [pick_get]
            refine rd_var hV2 (hx2_.trans (hx3_.trans (hx4_.trans (hx9_.trans (hx10_.trans hx12_))))) ?_
            refine rd_varI ty30 hst (hx10_.trans hx12_) fun v50 o50 => ?_
            refine (l21Step_ok h0 (e0.trans (hx1_.trans (hx2_.trans (hx3_.trans (hx4_.trans (hx9_.trans (hx10_.trans hx12_))))))) o50.is (hx10_.trans hx12_) (by assumption) (by assumption) (by assumption)).mono ?_
            rintro r52 w13_ ⟨hx13_, o52⟩
            have o52 := o52.toI
            have hs_hx13_ := hx13_.size
            refine opu_varA ty30 (hst.ext (hx10_.trans (hx12_.trans hx13_))) (o52.ext (Ext.refl w13_)) (by omega) fun w14_ hc14_ hst_s14 => ?_
            have hs_hc14_ := hc14_.size
            have hv4_c14 := (hv4.ext (hx3_.trans (hx4_.trans (hx9_.trans (hx10_.trans (hx12_.trans hx13_)))))).chg hc14_ (by omega) (by omega)
            have o12_c14 := (o12.ext (hx4_.trans (hx9_.trans (hx10_.trans (hx12_.trans hx13_))))).chg hc14_ (by omega)
            have hrow_c14 := (hrow.ext (hx10_.trans (hx12_.trans hx13_))).chg hc14_ (by omega)
            have o14_c14 := (o14.ext (hx9_.trans (hx10_.trans (hx12_.trans hx13_)))).chg hc14_ (by omega)
            have o32_c14 := (o32.ext (hx12_.trans hx13_)).chg hc14_ (by omega)
            have o31_c14 := (o31.ext (hx10_.trans (hx12_.trans hx13_))).chg hc14_ (by omega)
            have o50_c14 := (o50.ext (hx10_.trans (hx12_.trans hx13_))).chg hc14_ (by omega)
            have o52_c14 := (o52.ext (Ext.refl w13_)).chg hc14_ (by omega)
            refine op_pushD1 (α := Int) u23 ty3 z3 zc3 (by decide) (hrow_c14.ext (Ext.refl w14_)) (ownI_int (lo := w14_.heap.size) (hi := w14_.heap.size) (by first | assumption | (unfold I64 at *; omega))) (by rw [maxLen_eq]; omega) (by omega) fun v56 w15_ lo56 hi56 hc15_ o56 hd56 => ?_
            have hs_hc15_ := hc15_.size
            have hv4_c15 := (hv4_c14.ext (Ext.refl w14_)).chg hc15_ (by omega) (by omega)
            have o12_c15 := (o12_c14.ext (Ext.refl w14_)).chg hc15_ (by omega)
            have o14_c15 := (o14_c14.ext (Ext.refl w14_)).chg hc15_ (by omega)
            have hst_s14_c15 := (hst_s14.ext (Ext.refl w14_)).chg hc15_ (by omega) (by omega)
            have o32_c15 := (o32_c14.ext (Ext.refl w14_)).chg hc15_ (by omega)
            have o31_c15 := (o31_c14.ext (Ext.refl w14_)).chg hc15_ (by omega)
            have o50_c15 := (o50_c14.ext (Ext.refl w14_)).chg hc15_ (by omega)
            have o52_c15 := (o52_c14.ext (Ext.refl w14_)).chg hc15_ (by omega)
            refine rd_inc (by omega) ?_
            refine ⟨m6 - 1, by omega, k + 1, by omega, stepD c s (pickOf c s picks[k]), went ++ [pickOf c s picks[k]], _, (w12_.heap.size), (w13_.heap.size), (lo56), (hi56), rfl, (Ext.chgI (Ext.chgI (((hx9_.trans hx10_).trans hx12_).trans hx13_) hc14_ (by omega)) hc15_ (by omega)), ?_⟩
            refine ⟨by omega, ?_, step_right hc hs hgo, by simp; omega, (hst_s14_c15.ext (Ext.refl w15_)), (o56.ext (Ext.refl w15_)), ?_⟩
            · rw [hrun, runD_step (by omega) (by omega), List.getElem_take]
            · omega
      · refine rd_varI ty30 hst (Ext.refl w9_) fun v57 o57 => ?_
        refine opu_varA ty30 (hv4.ext (hx3_.trans (hx4_.trans hx9_))) (o57.ext (Ext.refl w9_)) (by omega) fun w16_ hc16_ hv4_s16 => ?_
        have hs_hc16_ := hc16_.size
        have o12_c16 := (o12.ext (hx4_.trans hx9_)).chg hc16_ (by omega)
        have hrow_c16 := (hrow.ext (Ext.refl w9_)).chg hc16_ (by omega)
        have o14_c16 := (o14.ext hx9_).chg hc16_ (by omega)
        have hst_c16 := (hst.ext (Ext.refl w9_)).chg hc16_ (by omega) (by omega)
        have o57_c16 := (o57.ext (Ext.refl w9_)).chg hc16_ (by omega)
        refine rd_varRI ty30 hv4_s16 (Ext.refl w16_) fun r4 hr4 => ?_
        replace hr4 := hr4.ext (Ext.refl w16_)
        refine ⟨(Ext.chgI ((((hx1_.trans hx2_).trans hx3_).trans hx4_).trans hx9_) hc16_ (by omega)), ?_⟩
        have hR : runOf c picks = (s, went) := by unfold runOf; rw [if_pos hc, hrun, List.drop_eq_nil_of_le (by omega)]; rfl
        rw [hR]
        exact ⟨_, _, _, _, _, _, rfl, hr4, (hrow_c16.ext (Ext.refl w16_)).own, by omega, by omega, by omega, by omega, by omega⟩
    · refine rd_varI ty30 hst (Ext.refl w9_) fun v57 o57 => ?_
      refine opu_varA ty30 (hv4.ext (hx3_.trans (hx4_.trans hx9_))) (o57.ext (Ext.refl w9_)) (by omega) fun w17_ hc17_ hv4_s17 => ?_
      have hs_hc17_ := hc17_.size
      have o12_c17 := (o12.ext (hx4_.trans hx9_)).chg hc17_ (by omega)
      have hrow_c17 := (hrow.ext (Ext.refl w9_)).chg hc17_ (by omega)
      have o14_c17 := (o14.ext hx9_).chg hc17_ (by omega)
      have hst_c17 := (hst.ext (Ext.refl w9_)).chg hc17_ (by omega) (by omega)
      have o57_c17 := (o57.ext (Ext.refl w9_)).chg hc17_ (by omega)
      refine rd_varRI ty30 hv4_s17 (Ext.refl w17_) fun r4 hr4 => ?_
      replace hr4 := hr4.ext (Ext.refl w17_)
      refine ⟨(Ext.chgI ((((hx1_.trans hx2_).trans hx3_).trans hx4_).trans hx9_) hc17_ (by omega)), ?_⟩
      have hR : runOf c picks = (s, went) := by unfold runOf; rw [if_pos hc, hrun, List.drop_eq_nil_of_le (by omega)]; rfl
      rw [hR]
      exact ⟨_, _, _, _, _, _, rfl, hr4, (hrow_c17.ext (Ext.refl w17_)).own, by omega, by omega, by omega, by omega, by omega⟩

end Go.Proofs.Yteephmhilnlkpaa
