/-
  The law FnExactOrdersOf of the given program returns true for every input, and its arguments read afterwards as before: the given statement Rows.FnExactOrdersOfSaid.
-/
import Derived.Test.YtjgfldfbljmhhaaGreatPOrdersOf5
namespace Go.Proofs.YtjgfldfbljmhhaaGreat
open Go Go.Sh Go.Proofs
set_option linter.unusedVariables false
/-- (*impl.world).orders -/
def F82 (a0 : Value) (w : World) (R : Value → World → Prop) : Prop :=
  CALL Tryz.prog 68 [a0] w fun x11 w =>
  CALL Tryz.prog 67 [a0, x11] w fun x14 w =>
  NIL a0 <|
  RD Tryz.prog (Instr.fieldAt 144 a0 0) w fun x17 =>
  RD Tryz.prog (Instr.fieldAt 35 x17 4) w fun x18 =>
  RD Tryz.prog (Instr.loadAt 33 x18) w fun x19 =>
  RD Tryz.prog (Builtin.len_ #[33] 3 [x19].toArray) w fun x20 =>
  LOOPI [5, 21] [(Value.slice none 0 0), (Value.int .i64 0)] w fun u5 w next5 =>
   RD Tryz.prog (bin .lss 3 (.tmp 0) (.tmp 0) (u5 21) x20) w fun x22 =>
   BR x22
    (RD Tryz.prog (Instr.indexAt 33 x19 (u5 21)) w fun x24 =>
    RD Tryz.prog (Instr.loadAt 136 x24) w fun x25 =>
    OP Tryz.prog (Instr.alloc 136 true (.tuple #[])) w fun x7 w =>
    OPU Tryz.prog (Instr.storeAt 136 x7 x25) w fun w =>
    RD Tryz.prog (Instr.fieldAt 136 x7 0) w fun x26 =>
    RD Tryz.prog (Instr.loadAt 3 x26) w fun x27 =>
    RD Tryz.prog (bin .neq 3 (.tmp 0) (.const undef) x27 (Value.int .i64 6)) w fun x28 =>
    BR x28
    (RD Tryz.prog (bin .add 3 (.tmp 0) (.const undef) (u5 21) (Value.int .i64 1)) w fun x55 =>
     next5 [(u5 5), x55] w)
    (RD Tryz.prog (Instr.indexAt 72 x11 (u5 21)) w fun x32 =>
    RD Tryz.prog (Instr.loadAt 4 x32) w fun x33 =>
    RD Tryz.prog (Op.unary .not x33) w fun x34 =>
    BR x34
     (RD Tryz.prog (bin .add 3 (.tmp 0) (.const undef) (u5 21) (Value.int .i64 1)) w fun x55 =>
     next5 [(u5 5), x55] w)
     (RD Tryz.prog (Instr.indexAt 23 x14 (u5 21)) w fun x38 =>
     RD Tryz.prog (Instr.loadAt 3 x38) w fun x39 =>
     CALL Tryz.prog 97 [x39] w fun x40 w =>
     RD Tryz.prog (Builtin.len_ #[23] 3 [x40].toArray) w fun x41 =>
     LOOPI [5, 42] [(u5 5), (Value.int .i64 0)] w fun u9 w next9 =>
      RD Tryz.prog (bin .lss 3 (.tmp 0) (.tmp 0) (u9 42) x41) w fun x43 =>
      BR x43
       (RD Tryz.prog (Instr.indexAt 23 x40 (u9 42)) w fun x44 =>
       RD Tryz.prog (Instr.loadAt 3 x44) w fun x45 =>
       RD Tryz.prog (Instr.fieldAt 136 x7 1) w fun x48 =>
       RD Tryz.prog (Instr.loadAt 3 x48) w fun x49 =>
       RD Tryz.prog (Instr.build 93 #[(0, x45), (1, x49), (2, (u5 21))]) w fun x51 =>
       OP Tryz.prog (Instr.buildSlice 48 1 #[(0, x51)]) w fun x52 w =>
       OP Tryz.prog (Builtin.append_ #[48, 48] 48 [(u9 5), x52].toArray) w fun x53 w =>
       RD Tryz.prog (bin .add 3 (.tmp 0) (.const undef) (u9 42) (Value.int .i64 1)) w fun x54 =>
       next9 [x53, x54] w)
       (RD Tryz.prog (bin .add 3 (.tmp 0) (.const undef) (u5 21) (Value.int .i64 1)) w fun x55 =>
       next5 [(u9 5), x55] w))))
    (CALL Tryz.prog 143 [(u5 5), (Value.func (.func 144) #[] #[])] w fun x57 w =>
    R (u5 5) w)
def cfg82 : Cfg := { ext := extL, joins := [], loops := [(5, 72057594035831520, [5, 21]), (9, 36024398972453408, [5, 42])], draws := [], pars := [] }
theorem F82_eq (a0 : Value) (w : World) (R : Value → World → Prop) : vcF Tryz.prog cfg82 Tryz.f82 [a0] w R = F82 a0 w R := by kernel_rfl
theorem F82_call {a0 : Value} {w : World} {R : Value → World → Prop} (h : F82 a0 w R) : CALL Tryz.prog 82 [a0] w R :=
  call_of (g := cfg82) ent mixed Tryz.func82 (Nat.le_of_ble_eq_true (by kernel_rfl)) (by kernel_rfl) (F82_eq a0 w R ▸ h)
set_option linter.unusedVariables false
set_option linter.unusedSimpArgs false
open Rep (rep)
theorem is_mkO {w : World} {a b d : Int} (ha : I64 a) (hb : I64 b) (hd : I64 d) : Is w (.agg #[.int .i64 a, .int .i64 b, .int .i64 d]) (⟨a, b, d⟩ : DOrder) :=
  ⟨[], _, ⟨[], [], [.int .i64 a], _, rfl, rfl, ⟨rfl, rfl, ha⟩, ⟨[], [], [.int .i64 b], _, rfl, rfl, ⟨rfl, rfl, hb⟩, ⟨rfl, rfl, hd⟩⟩⟩, rfl⟩
/-- a list that is appended to, behind the world wb -/
structure OI (wb w : World) (out : Value) (L : List DOrder) : Prop where
  ext : Ext wb w
  row : ∃ lo hi, wb.heap.size ≤ lo ∧ hi ≤ w.heap.size ∧ RowI lo hi 93 w out L
theorem OI.step {wb w w' : World} {out : Value} {L : List DOrder} (h : OI wb w out L) (hx : Ext w w') : OI wb w' out L := by
  obtain ⟨lo, hi, h1, h2, hr⟩ := h.row
  exact ⟨h.ext.trans hx, lo, hi, h1, Nat.le_trans h2 hx.size, hr.ext hx⟩
theorem OI.own {wb w : World} {out : Value} {L : List DOrder} (h : OI wb w out L) : Own wb.heap.size w out L := by
  obtain ⟨lo, hi, h1, h2, hr⟩ := h.row
  exact hr.own.own.mono (by omega)
theorem orders_ok {w W0 : World} {b : Nat} {c : DCode} (hW : WAt W0 b c) (e0 : Ext W0 w) (hc : CodeR c) :
    CALL Tryz.prog 82 [.pointer (some ⟨b, 0, none⟩)] w fun r w' => Ext w w' ∧ Own w.heap.size w' r (ordL c) := by
  refine F82_call ?_
  unfold F82
  have hil := hc.f.ins
  have hcode := hW.wl.code
  refine (met_ok hW e0 hc).mono ?_
  rintro v11 w1 ⟨hx1, ho1⟩
  refine (may_ok hW (e0.trans hx1) ho1.is (Ext.refl _) hc).mono ?_
  rintro v14 w2 ⟨hx2, ho2⟩
  have hx12 := hx1.trans hx2
  have hMe := ho1.is.ext hx2
  have hMa := ho2.is
  have hs12 := hx12.size
  refine NIL.mk rfl ?_
  refine rd_fld fd144_0 ?_
  refine rd_fld fd35_4 ?_
  refine rd_load ty33 (at_DCode_4 hcode) (e0.trans hx12) fun v19 h19 => ?_
  refine rd_len u33 h19 ?_
  have hml : (metN c).length = c.ins.length := by unfold metN; rw [setB_len]
  have hbl := ordB_len c
  have hO0 : OI w2 w2 (.slice none 0 0) (ordB c 0) := ⟨Ext.refl _, w2.heap.size, w2.heap.size, Nat.le_refl _, Nat.le_refl _, rowI_nil _ _ _ _⟩
  refine loopC c.ins.length (fun k us w' => ∃ out, us = [out, .int .i64 (k : Int)] ∧ k ≤ c.ins.length ∧ OI w2 w' out (ordB c k)) 0 (Nat.zero_le _) ⟨_, rfl, Nat.zero_le _, hO0⟩ ?_
  rintro k mk u w3 hkm ⟨out, hu, hkl, hO3⟩
  simp only [List.map_cons, List.map_nil, List.cons.injEq, and_true] at hu
  obtain ⟨hu1, hu2⟩ := hu
  rw [hu1, hu2]
  have hsuc : ordB c (k + 1) = ordB c k ++ ordA c k := range_flat k
  have hblk := hbl k
  refine rd_lss ?_
  refine br (fun hlt => ?_) (fun hge => ?_)
  case refine_2 =>
    have hke : k = c.ins.length := by omega
    rw [hke] at hO3 hblk
    obtain ⟨lo, hi, h1, h2, hr⟩ := hO3.row
    refine (sortO_ok hr.own (by omega)).mono ?_
    rintro _ w4 ⟨hc4, ho4⟩
    rw [srtO_ordB hc] at ho4
    exact ⟨(hx12.trans hO3.ext).chgI hc4 (by omega), ho4.own.mono (by omega)⟩
  have hk : k < c.ins.length := by omega
  refine rd_indexN u33 ty136 h19 hk fun b3 o3 hA3 => ?_
  rw [insAt_get] at hA3
  refine rd_load ty136 hA3 ((e0.trans hx12).trans hO3.ext) fun v25 h25 => ?_
  refine op_var zl136 rfl ty136 rfl h25 ((e0.trans hx12).trans hO3.ext) fun w4 hx4 hAI hV4 => ?_
  have hO4 := hO3.step hx4
  have hgl : w3.heap.size < w4.heap.size := hV4.lt
  have hAB4 := atB_box h25 hV4 rfl
  have hmk := mkd_get (ms := metN c) (i := k) (by rw [hml]; exact hk)
  have hiff : (metN c)[k] = true ↔ MetP c k := by
    rw [← hmk]; unfold metN; rw [mkd_setB]; exact ⟨fun h => h.2, fun h => ⟨by omega, h⟩⟩
  refine rd_fld fd136_0 ?_
  refine rd_loadI ty3 (at_DIns_0 hAI) (Ext.refl _) fun _ => ?_
  refine rd_neq ?_
  have hno : ¬ (MetP c k ∧ (insAt c k).op = 6) → ordB c (k + 1) = ordB c k := fun h => by
    rw [hsuc]; unfold ordA; rw [if_neg h, List.append_nil]
  refine br (fun hne => ?_) (fun heq => ?_)
  · refine rd_inc (by omega) ?_
    exact ⟨mk - 1, by omega, k + 1, by omega, out, rfl, by omega, by rw [hno fun h => hne h.2]; exact hO4⟩
  have h6 : (insAt c k).op = 6 := Decidable.not_not.1 heq
  refine rd_indexN u72 ty4 (i := k) hMe (by rw [hml]; exact hk) fun b4 o4 hA4 => ?_
  refine rd_loadB ty4 hA4 hO4.ext ?_
  refine rd_not ?_
  refine br_b (fun hf => ?_) (fun hf => ?_)
  · have hnm : ¬ MetP c k := fun h => by rw [hiff.2 h] at hf; cases hf
    refine rd_inc (by omega) ?_
    exact ⟨mk - 1, by omega, k + 1, by omega, out, rfl, by omega, by rw [hno fun h => hnm h.1]; exact hO4⟩
  have hMk : MetP c k := hiff.1 (by simpa using hf)
  have hag := (ag_lock hc hk (.inl h6)).1
  have hA : ordA c k = (bitsL (nat0 (mayN c) k)).map (ordW c k) := by unfold ordA; rw [if_pos ⟨hMk, h6⟩]
  rw [hA] at hsuc
  refine rd_indexN u23 ty3 (i := k) hMa (by rw [ints_len, mayN_len]; exact hk) fun b5 o5 hA5 => ?_
  rw [ints_nat0] at hA5
  refine rd_loadI ty3 hA5 hO4.ext fun _ => ?_
  have hm64 := nat0_lt (mayN_lt c) k
  generalize hmm : nat0 (mayN c) k = m at *
  refine (bitsOf_ok (m := m) (by omega)).mono ?_
  rintro v40 w5 ⟨hx5, ho5⟩
  have hO5 := hO4.step hx5
  have hBl := bitsTo_len m 64
  have hbL : (bitsL m).length ≤ 64 := hBl
  refine rd_len u23 ho5.is ?_
  obtain ⟨Fb, hmb, hFb⟩ := ho5
  have hs5 := hx5.size
  have hlb := hmb.lt
  refine loopC (bitsL m).length (fun j us w' => ∃ out', us = [out', .int .i64 (j : Int)] ∧ j ≤ (bitsL m).length ∧ Ext w2 w' ∧ w5.heap.size ≤ w'.heap.size ∧ Mine Fb w' v40 (bitsL m) ∧ AtB W0 w' w3.heap.size 0 (insAt c k) ∧ ∃ lo hi, w2.heap.size ≤ lo ∧ hi ≤ w'.heap.size ∧ RowI lo hi 93 w' out' (ordB c k ++ ((bitsL m).take j).map (ordW c k)) ∧ (w3.heap.size < lo ∨ hi ≤ w3.heap.size) ∧ ∀ b ∈ Fb, b < lo ∨ hi ≤ b) 0 (Nat.zero_le _) ⟨out, rfl, Nat.zero_le _, hO5.ext, Nat.le_refl _, hmb, hAB4.ext hx5, ?_⟩ ?_
  · obtain ⟨lo, hi, h1, h2, hr⟩ := hO3.row
    refine ⟨lo, hi, h1, by omega, by simpa using (hr.ext (hx4.trans hx5)), .inr h2, fun b hb => .inr ?_⟩
    have := hFb b hb
    omega
  rintro j mj u6 w6 hjm ⟨out6, hu6, hjl, hx26, hs56, hM6, hAB6, lo, hi, h1, h2, hr6, hd3, hdb⟩
  simp only [List.map_cons, List.map_nil, List.cons.injEq, and_true] at hu6
  obtain ⟨hu61, hu62⟩ := hu6
  rw [hu61, hu62]
  refine rd_lss ?_
  refine br (fun hlt6 => ?_) (fun hge6 => ?_)
  case refine_2 =>
    refine rd_inc (by omega) ?_
    refine ⟨mk - 1, by omega, k + 1, by omega, out6, rfl, by omega, ?_⟩
    rw [hsuc]
    rw [List.take_of_length_le (by omega)] at hr6
    exact ⟨hx26, lo, hi, h1, h2, hr6⟩
  have hj : j < (bitsL m).length := by omega
  refine rd_indexN u23 ty3 (i := j) hM6.is hj fun b6 o6 hA6 => ?_
  refine rd_loadI ty3 hA6 (Ext.refl _) fun _ => ?_
  have hAI6 := hAB6.at ((e0.trans hx12).trans hx26)
  refine rd_fld fd136_1 ?_
  refine rd_loadI ty3 (at_DIns_1 hAI6) (Ext.refl _) fun _ => ?_
  refine rd_build (cells := #[.int .i64 (bitsL m)[j], .int .i64 (insAt c k).arg, .int .i64 (k : Int)]) (by kernel_rfl) ?_
  obtain ⟨l, hl, hbit⟩ := (mem_bitsM hm64).1 (List.getElem_mem hj)
  have hl6 := bit_lt6 hm64 hbit
  have hW : ordW c k (bitsL m)[j] = ⟨(bitsL m)[j], (insAt c k).arg, k⟩ := by unfold ordW; rw [hag]
  have hag6 := (ag_lock hc hk (.inl h6)).2.2
  have hlen : (ordB c k ++ ((bitsL m).take j).map (ordW c k)).length ≤ 200000 := by
    simp only [List.length_append, List.length_map, List.length_take]; omega
  refine op_pushD1 (x := (⟨(bitsL m)[j], (insAt c k).arg, k⟩ : DOrder)) u48 ty93 z93 zc93 (by decide) hr6 (lo2 := 0) (hi2 := 0) (flat_own (is_mkO (by unfold I64; omega) (by unfold I64; omega) (by unfold I64; omega))) (by rw [maxLen_eq]; omega) (by omega) fun v' w' lo' hi' hc7 hr' hd7 => ?_
  have hs7 := hc7.size
  have hs26 := hx26.size
  refine rd_inc (by omega) ?_
  refine ⟨mj - 1, by omega, j + 1, by omega, v', rfl, by omega, hx26.chgI hc7 h1, by omega, hM6.keep fun b hb => ?_, hAB6.keep ?_, lo', hi', by omega, by omega, ?_, by omega, fun b hb => ?_⟩
  · exact hc7.block b (hM6.lt b hb) (hdb b hb)
  · exact hc7.block _ (by omega) hd3
  · rw [List.take_succ_eq_append_getElem hj, List.map_append, ← List.append_assoc]
    simp only [List.map_cons, List.map_nil]
    rw [hW]; exact hr'
  · have := hdb b hb
    have := hM6.lt b hb
    omega
end Go.Proofs.YtjgfldfbljmhhaaGreat
namespace Go.Proofs.YtjgfldfbljmhhaaGreat
open Go Go.Sh Go.Proofs
set_option linter.unusedVariables false
/-- spec.l19All -/
def F74 (a0 : Value) (w : World) (R : Value → World → Prop) : Prop :=
  OP Tryz.prog (Instr.box 35 a0) w fun x1 w =>
  OP Tryz.prog (Instr.buildSlice 48 0 #[]) w fun x8 w =>
  RD Tryz.prog (Instr.loadAt 35 x1) w fun x9 =>
  CALL Tryz.prog 57 [x9] w fun x10 w =>
  LOOPI [3, 5] [x8, (Value.int .i64 0)] w fun u4 w next4 =>
   RD Tryz.prog (Instr.fieldAt 35 x1 1) w fun x12 =>
   RD Tryz.prog (Instr.loadAt 22 x12) w fun x13 =>
   RD Tryz.prog (Builtin.len_ #[22] 3 [x13].toArray) w fun x14 =>
   RD Tryz.prog (bin .lss 3 (.tmp 0) (.tmp 0) (u4 5) x14) w fun x15 =>
   BR x15
    (LOOPI [3, 6] [(u4 3), (Value.int .i64 0)] w fun u7 w next7 =>
     RD Tryz.prog (Instr.fieldAt 35 x1 1) w fun x19 =>
     RD Tryz.prog (Instr.loadAt 22 x19) w fun x20 =>
     RD Tryz.prog (Builtin.len_ #[22] 3 [x20].toArray) w fun x21 =>
     RD Tryz.prog (bin .lss 3 (.tmp 0) (.tmp 0) (u7 6) x21) w fun x22 =>
     BR x22
      (LOOPI [3, 7] [(u7 3), (Value.int .i64 0)] w fun u10 w next10 =>
       RD Tryz.prog (Instr.fieldAt 35 x1 4) w fun x26 =>
       RD Tryz.prog (Instr.loadAt 33 x26) w fun x27 =>
       RD Tryz.prog (Builtin.len_ #[33] 3 [x27].toArray) w fun x28 =>
       RD Tryz.prog (bin .lss 3 (.tmp 0) (.tmp 0) (u10 7) x28) w fun x29 =>
       BR x29
        (NIL x10 <|
        RD Tryz.prog (Instr.fieldAt 74 x10 1) w fun x34 =>
        RD Tryz.prog (Instr.loadAt 72 x34) w fun x35 =>
        RD Tryz.prog (Instr.indexAt 72 x35 (u10 7)) w fun x37 =>
        RD Tryz.prog (Instr.loadAt 4 x37) w fun x38 =>
        BR x38
        (RD Tryz.prog (Instr.fieldAt 35 x1 4) w fun x40 =>
        RD Tryz.prog (Instr.loadAt 33 x40) w fun x41 =>
        RD Tryz.prog (Instr.indexAt 33 x41 (u10 7)) w fun x43 =>
        RD Tryz.prog (Instr.fieldAt 136 x43 0) w fun x44 =>
        RD Tryz.prog (Instr.loadAt 3 x44) w fun x45 =>
        RD Tryz.prog (bin .eql 3 (.tmp 0) (.const undef) x45 (Value.int .i64 6)) w fun x46 =>
        BR x46
        (RD Tryz.prog (Instr.fieldAt 35 x1 4) w fun x49 =>
        RD Tryz.prog (Instr.loadAt 33 x49) w fun x50 =>
        RD Tryz.prog (Instr.indexAt 33 x50 (u10 7)) w fun x52 =>
        RD Tryz.prog (Instr.fieldAt 136 x52 1) w fun x53 =>
        RD Tryz.prog (Instr.loadAt 3 x53) w fun x54 =>
        RD Tryz.prog (bin .eql 3 (.tmp 0) (.tmp 0) x54 (u7 6)) w fun x56 =>
        BR x56
        (NIL x10 <|
        RD Tryz.prog (Instr.fieldAt 74 x10 2) w fun x61 =>
        RD Tryz.prog (Instr.loadAt 23 x61) w fun x62 =>
        RD Tryz.prog (Instr.indexAt 23 x62 (u10 7)) w fun x64 =>
        RD Tryz.prog (Instr.loadAt 3 x64) w fun x65 =>
        CALL Tryz.prog 76 [x65, (u4 5)] w fun x67 w =>
        BR x67
         (RD Tryz.prog (Instr.build 93 #[(0, (u4 5)), (1, (u7 6)), (2, (u10 7))]) w fun x73 =>
         OP Tryz.prog (Instr.buildSlice 48 1 #[(0, x73)]) w fun x74 w =>
         OP Tryz.prog (Builtin.append_ #[48, 48] 48 [(u10 3), x74].toArray) w fun x75 w =>
         RD Tryz.prog (bin .add 3 (.tmp 0) (.const undef) (u10 7) (Value.int .i64 1)) w fun x31 =>
         next10 [x75, x31] w)
         (RD Tryz.prog (bin .add 3 (.tmp 0) (.const undef) (u10 7) (Value.int .i64 1)) w fun x31 =>
         next10 [(u10 3), x31] w))
        (RD Tryz.prog (bin .add 3 (.tmp 0) (.const undef) (u10 7) (Value.int .i64 1)) w fun x31 =>
         next10 [(u10 3), x31] w))
        (RD Tryz.prog (bin .add 3 (.tmp 0) (.const undef) (u10 7) (Value.int .i64 1)) w fun x31 =>
         next10 [(u10 3), x31] w))
        (RD Tryz.prog (bin .add 3 (.tmp 0) (.const undef) (u10 7) (Value.int .i64 1)) w fun x31 =>
         next10 [(u10 3), x31] w))
        (RD Tryz.prog (bin .add 3 (.tmp 0) (.const undef) (u7 6) (Value.int .i64 1)) w fun x24 =>
        next7 [(u10 3), x24] w))
      (RD Tryz.prog (bin .add 3 (.tmp 0) (.const undef) (u4 5) (Value.int .i64 1)) w fun x17 =>
      next4 [(u7 3), x17] w))
    (R (u4 3) w)
def cfg74 : Cfg := { ext := extL, joins := [], loops := [(4, 75557863725914323417320, [3, 5]), (7, 75557863725914323157192, [3, 6]), (10, 75557863725914289864840, [3, 7])], draws := [], pars := [] }
theorem F74_eq (a0 : Value) (w : World) (R : Value → World → Prop) : vcF Tryz.prog cfg74 Tryz.f74 [a0] w R = F74 a0 w R := by kernel_rfl
theorem F74_call {a0 : Value} {w : World} {R : Value → World → Prop} (h : F74 a0 w R) : CALL Tryz.prog 74 [a0] w R :=
  call_of (g := cfg74) ent mixed Tryz.func74 (Nat.le_of_ble_eq_true (by kernel_rfl)) (by kernel_rfl) (F74_eq a0 w R ▸ h)
/-- impl.OrdersOf -/
def F28 (a0 : Value) (w : World) (R : Value → World → Prop) : Prop :=
  OP Tryz.prog (Instr.box 35 a0) w fun x1 w =>
  RD Tryz.prog (Instr.loadAt 35 x1) w fun x6 =>
  CALL Tryz.prog 64 [x6] w fun x7 w =>
  RD Tryz.prog (Instr.extract x7 0) w fun x8 =>
  RD Tryz.prog (Instr.extract x7 1) w fun x9 =>
  RD Tryz.prog (Op.unary .not x9) w fun x11 =>
  BR x11
   (R (Value.slice none 0 0) w)
   (CALL Tryz.prog 82 [x8] w fun x13 w =>
   R x13 w)
def cfg28 : Cfg := { ext := extL, joins := [], loops := [], draws := [], pars := [] }
theorem F28_eq (a0 : Value) (w : World) (R : Value → World → Prop) : vcF Tryz.prog cfg28 Tryz.f28 [a0] w R = F28 a0 w R := by kernel_rfl
theorem F28_call {a0 : Value} {w : World} {R : Value → World → Prop} (h : F28 a0 w R) : CALL Tryz.prog 28 [a0] w R :=
  call_of (g := cfg28) ent mixed Tryz.func28 (Nat.le_of_ble_eq_true (by kernel_rfl)) (by kernel_rfl) (F28_eq a0 w R ▸ h)
/-- spec.OrdersOf -/
def F27 (a0 : Value) (w : World) (R : Value → World → Prop) : Prop :=
  OP Tryz.prog (Instr.box 35 a0) w fun x1 w =>
  RD Tryz.prog (Instr.loadAt 35 x1) w fun x3 =>
  CALL Tryz.prog 73 [x3] w fun x4 w =>
  RD Tryz.prog (Op.unary .not x4) w fun x5 =>
  BR x5
   (OP Tryz.prog (Instr.buildSlice 48 0 #[]) w fun x6 w =>
   R x6 w)
   (RD Tryz.prog (Instr.loadAt 35 x1) w fun x7 =>
   CALL Tryz.prog 74 [x7] w fun x8 w =>
   R x8 w)
def cfg27 : Cfg := { ext := extL, joins := [], loops := [], draws := [], pars := [] }
theorem F27_eq (a0 : Value) (w : World) (R : Value → World → Prop) : vcF Tryz.prog cfg27 Tryz.f27 [a0] w R = F27 a0 w R := by kernel_rfl
theorem F27_call {a0 : Value} {w : World} {R : Value → World → Prop} (h : F27 a0 w R) : CALL Tryz.prog 27 [a0] w R :=
  call_of (g := cfg27) ent mixed Tryz.func27 (Nat.le_of_ble_eq_true (by kernel_rfl)) (by kernel_rfl) (F27_eq a0 w R ▸ h)
set_option linter.unusedVariables false
set_option linter.unusedSimpArgs false
open Rep (rep)
theorem l19All_ok {w W0 : World} {v0 : Value} {c : DCode} (h0 : Is W0 v0 c) (e0 : Ext W0 w) (hc : CodeR c) :
    CALL Tryz.prog 74 [v0] w fun r w' => Ext w w' ∧ Own w.heap.size w' r (ordL c) := by
  refine F74_call ?_
  unfold F74
  have hil := hc.f.ins
  have h6l := hc.1.locks6
  refine op_box h0 e0 fun w1 hx1 hA => ?_
  refine op_build0I (α := DOrder) u48 ty93 fun a8 w2 hx2 hr2 => ?_
  have hx12 := hx1.trans hx2
  refine rd_load ty35 hA hx2 fun v9 h9 => ?_
  refine (l16All_ok h9 hx2 hc).mono ?_
  rintro _ w3 ⟨hx3, gw, rfl, hmet, hmay⟩
  have hx13 := hx12.trans hx3
  have hx23 := hx2.trans hx3
  have hs2 := hx12.size
  have hml : (metN c).length = c.ins.length := by unfold metN; rw [setB_len]
  generalize hwb : w3 = wb at *
  have hI0 : OI wb wb (.slice (some a8) 0 0) ((List.range 0).flatMap (ordI3 c)) := ⟨Ext.refl _, wb.heap.size, wb.heap.size, Nat.le_refl _, Nat.le_refl _, rowI_zcap _ _ _ _ _⟩
  refine loopC c.locks.length (fun k us w' => ∃ out, us = [out, .int .i64 (k : Int)] ∧ k ≤ c.locks.length ∧ OI wb w' out ((List.range k).flatMap (ordI3 c))) 0 (Nat.zero_le _) ⟨_, rfl, Nat.zero_le _, hI0⟩ ?_
  rintro fr mk u w4 hkm ⟨out, hu, hkl, hO4⟩
  simp only [List.map_cons, List.map_nil, List.cons.injEq, and_true] at hu
  obtain ⟨hu1, hu2⟩ := hu
  rw [hu1, hu2]
  refine rd_fld fd35_1 ?_
  refine rd_load ty22 (at_DCode_1 hA) (hx23.trans hO4.ext) fun v13 h13 => ?_
  refine rd_len u22 h13 ?_
  refine rd_lss ?_
  refine br (fun hlt => ?_) (fun hge => ?_)
  case refine_2 =>
    have hke : fr = c.locks.length := by omega
    rw [hke] at hO4
    exact ⟨hx13.trans hO4.ext, hO4.own.mono (by have := hx13.size; omega)⟩
  have hfr : fr < c.locks.length := by omega
  refine loopC c.locks.length (fun k us w' => ∃ out, us = [out, .int .i64 (k : Int)] ∧ k ≤ c.locks.length ∧ OI wb w' out ((List.range fr).flatMap (ordI3 c) ++ (List.range k).flatMap (ordI2 c fr))) 0 (Nat.zero_le _) ⟨_, rfl, Nat.zero_le _, by simpa using hO4⟩ ?_
  rintro to mk7 u7 w7 hkm7 ⟨out7, hu7, hkl7, hO7⟩
  simp only [List.map_cons, List.map_nil, List.cons.injEq, and_true] at hu7
  obtain ⟨hu71, hu72⟩ := hu7
  rw [hu71, hu72]
  refine rd_fld fd35_1 ?_
  refine rd_load ty22 (at_DCode_1 hA) (hx23.trans hO7.ext) fun v20 h20 => ?_
  refine rd_len u22 h20 ?_
  refine rd_lss ?_
  refine br (fun hlt7 => ?_) (fun hge7 => ?_)
  case refine_2 =>
    have hke : to = c.locks.length := by omega
    rw [hke] at hO7
    refine rd_inc (by omega) ?_
    exact ⟨mk - 1, by omega, fr + 1, by omega, out7, rfl, by omega, by rw [range_flat]; exact hO7⟩
  have hto : to < c.locks.length := by omega
  refine loopC c.ins.length (fun k us w' => ∃ out, us = [out, .int .i64 (k : Int)] ∧ k ≤ c.ins.length ∧ OI wb w' out ((List.range fr).flatMap (ordI3 c) ++ (List.range to).flatMap (ordI2 c fr) ++ (List.range k).flatMap (ordI1 c fr to))) 0 (Nat.zero_le _) ⟨_, rfl, Nat.zero_le _, by simpa using hO7⟩ ?_
  rintro i mk10 u10 w10 hkm10 ⟨out10, hu10, hkl10, hO10⟩
  simp only [List.map_cons, List.map_nil, List.cons.injEq, and_true] at hu10
  obtain ⟨hu101, hu102⟩ := hu10
  rw [hu101, hu102]
  have hx210 := hx23.trans hO10.ext
  refine rd_fld fd35_4 ?_
  refine rd_load ty33 (at_DCode_4 hA) hx210 fun v27 h27 => ?_
  refine rd_len u33 h27 ?_
  refine rd_lss ?_
  refine br (fun hlt10 => ?_) (fun hge10 => ?_)
  case refine_2 =>
    have hke : i = c.ins.length := by omega
    rw [hke] at hO10
    refine rd_inc (by omega) ?_
    exact ⟨mk7 - 1, by omega, to + 1, by omega, out10, rfl, by omega, by rw [range_flat, ← List.append_assoc]; exact hO10⟩
  have hi : i < c.ins.length := by omega
  have hsuc : (List.range fr).flatMap (ordI3 c) ++ (List.range to).flatMap (ordI2 c fr) ++ (List.range (i + 1)).flatMap (ordI1 c fr to) = (List.range fr).flatMap (ordI3 c) ++ (List.range to).flatMap (ordI2 c fr) ++ (List.range i).flatMap (ordI1 c fr to) ++ ordI1 c fr to i := by
    rw [range_flat, ← List.append_assoc]
  have hlen : ((List.range fr).flatMap (ordI3 c) ++ (List.range to).flatMap (ordI2 c fr) ++ (List.range i).flatMap (ordI1 c fr to)).length ≤ 100000 := by
    have h1 := ordP3_len hil h6l fr
    have h2 := ordP2_len hil fr to
    have h3 := ordP1_len c fr to i
    simp only [List.length_append]; omega
  generalize (List.range fr).flatMap (ordI3 c) ++ (List.range to).flatMap (ordI2 c fr) = Lp at *
  have hno : ¬ OrdP c fr to i → Lp ++ (List.range (i + 1)).flatMap (ordI1 c fr to) = Lp ++ (List.range i).flatMap (ordI1 c fr to) := fun h => by
    rw [hsuc]; unfold ordI1; rw [if_neg h, List.append_nil]
  have hyes : OrdP c fr to i → Lp ++ (List.range (i + 1)).flatMap (ordI1 c fr to) = Lp ++ (List.range i).flatMap (ordI1 c fr to) ++ [mkO fr to i] := fun h => by
    rw [hsuc]; congr 1; unfold ordI1; rw [if_pos h]
  refine NIL.mk rfl ?_
  refine rd_fld fd74_1 ?_
  refine rd_load ty72 hmet hO10.ext fun v35 hMe => ?_
  have hmk := mkd_get (ms := metN c) (i := i) (by rw [hml]; exact hi)
  have hiff : (metN c)[i] = true ↔ MetP c i := by
    rw [← hmk]; unfold metN; rw [mkd_setB]; exact ⟨fun h => h.2, fun h => ⟨by omega, h⟩⟩
  refine rd_indexN u72 ty4 (i := i) hMe (by rw [hml]; exact hi) fun b4 o4 hA4 => ?_
  refine rd_loadB ty4 hA4 hO10.ext ?_
  refine br_b (fun ht => ?_) (fun hf => ?_)
  case refine_2 =>
    have hnm : ¬ MetP c i := fun h => by rw [hiff.2 h] at hf; cases hf
    refine rd_inc (by omega) ?_
    exact ⟨mk10 - 1, by omega, i + 1, by omega, out10, rfl, by omega, by rw [hno fun h => hnm h.1]; exact hO10⟩
  have hM := hiff.1 ht
  refine rd_fld fd35_4 ?_
  refine rd_load ty33 (at_DCode_4 hA) hx210 fun v41 h41 => ?_
  refine rd_indexN u33 ty136 h41 hi fun b3 o3 hA3 => ?_
  rw [insAt_get] at hA3
  refine rd_fld fd136_0 ?_
  refine rd_loadI ty3 (at_DIns_0 hA3) hx210 fun _ => ?_
  refine rd_eql ?_
  refine br (fun h6 => ?_) (fun h6 => ?_)
  case refine_2 =>
    refine rd_inc (by omega) ?_
    exact ⟨mk10 - 1, by omega, i + 1, by omega, out10, rfl, by omega, by rw [hno fun h => h6 h.2.1]; exact hO10⟩
  obtain ⟨hag, _, hag6⟩ := ag_lock hc hi (.inl h6)
  refine rd_fld fd35_4 ?_
  refine rd_load ty33 (at_DCode_4 hA) hx210 fun v50 h50 => ?_
  refine rd_indexN u33 ty136 h50 hi fun b5 o5 hA5 => ?_
  rw [insAt_get] at hA5
  refine rd_fld fd136_1 ?_
  refine rd_loadI ty3 (at_DIns_1 hA5) hx210 fun _ => ?_
  refine rd_eql ?_
  refine br (fun hto' => ?_) (fun hto' => ?_)
  case refine_2 =>
    refine rd_inc (by omega) ?_
    exact ⟨mk10 - 1, by omega, i + 1, by omega, out10, rfl, by omega, by rw [hno fun h => hto' (by rw [hag, h.2.2.1])]; exact hO10⟩
  refine NIL.mk rfl ?_
  refine rd_fld fd74_2 ?_
  refine rd_load ty23 hmay hO10.ext fun v62 hMa => ?_
  refine rd_indexN u23 ty3 (i := i) hMa (by rw [ints_len, mayN_len]; exact hi) fun b6 o6 hA6 => ?_
  rw [ints_nat0] at hA6
  refine rd_loadI ty3 hA6 hO10.ext fun _ => ?_
  have hm64 := nat0_lt (mayN_lt c) i
  refine (l12In_ok (m := nat0 (mayN c) i) (i := fr) (by omega) (by omega)).mono ?_
  rintro _ w11 ⟨hx11, rfl⟩
  have hbit : (nat0 (mayN c) i).testBit fr = true ↔ MayP c i fr := by
    rw [mayN_at hi, m6_bit]; exact ⟨fun h => h.2, fun h => ⟨by omega, h⟩⟩
  have hO11 := hO10.step hx11
  refine br_b (fun hb => ?_) (fun hb => ?_)
  case refine_2 =>
    refine rd_inc (by omega) ?_
    exact ⟨mk10 - 1, by omega, i + 1, by omega, out10, rfl, by omega, by rw [hno fun h => by rw [hbit.2 h.2.2.2] at hb; cases hb]; exact hO11⟩
  have hP : OrdP c fr to i := ⟨hM, h6, by omega, hbit.1 hb⟩
  refine rd_build (cells := #[.int .i64 fr, .int .i64 to, .int .i64 i]) (by kernel_rfl) ?_
  obtain ⟨lo, hi', h1, h2, hr⟩ := hO11.row
  refine op_pushD1 (x := (mkO fr to i : DOrder)) u48 ty93 z93 zc93 (by decide) hr (lo2 := 0) (hi2 := 0) (flat_own (is_mkO (by unfold I64; omega) (by unfold I64; omega) (by unfold I64; omega))) (by rw [maxLen_eq]; omega) (by omega) fun v' w' lo' hi2' hc7 hr' hd7 => ?_
  have hs7 := hc7.size
  have hs11 := hO11.ext.size
  refine rd_inc (by omega) ?_
  refine ⟨mk10 - 1, by omega, i + 1, by omega, v', rfl, by omega, hO11.ext.chgI hc7 h1, lo', hi2', by omega, by omega, ?_⟩
  rw [hyes hP]; exact hr'
open Classical in
/-- the orders of any code -/
noncomputable def ordersL (c : DCode) : List DOrder := if CodeR c then ordL c else []
theorem ordersL_len (c : DCode) : (ordersL c).length ≤ 54000 := by
  unfold ordersL; split
  · rename_i h; exact ordL_len h
  · simp
theorem implOrdersOf_ok {w W0 : World} {v0 : Value} {c : DCode} (h0 : Is W0 v0 c) (e0 : Ext W0 w) :
    CALL Tryz.prog 28 [v0] w fun r w' => Ext w w' ∧ Own w.heap.size w' r (ordersL c) := by
  refine F28_call ?_
  unfold F28
  refine op_box h0 e0 fun w1 hx1 hA => ?_
  refine rd_load ty35 hA (Ext.refl _) fun v6 h6 => ?_
  refine (worldOf_ok h6 (Ext.refl _)).mono ?_
  rintro r7 w2 ⟨hx2, hr⟩
  have hs1 := hx1.size
  have hs2 := hx2.size
  rcases hr with ⟨hn, rfl⟩ | ⟨hc, b, rfl, hW⟩
  · refine rd_extract rfl ?_
    refine rd_extract rfl ?_
    refine rd_not ?_
    refine br_b (fun _ => ?_) (fun h => by cases h)
    refine ⟨hx1.trans hx2, ?_⟩
    unfold ordersL; rw [if_neg hn]
    exact own_nil rfl
  refine rd_extract rfl ?_
  refine rd_extract rfl ?_
  refine rd_not ?_
  refine br_b (fun h => by cases h) (fun _ => ?_)
  refine (orders_ok hW (Ext.refl _) hc).mono ?_
  rintro v13 w3 ⟨hx3, ho3⟩
  refine ⟨hx1.trans (hx2.trans hx3), ?_⟩
  unfold ordersL; rw [if_pos hc]
  exact ho3.mono (by omega)
theorem specOrdersOf_ok {w W0 : World} {v0 : Value} {c : DCode} (h0 : Is W0 v0 c) (e0 : Ext W0 w) :
    CALL Tryz.prog 27 [v0] w fun r w' => Ext w w' ∧ Own w.heap.size w' r (ordersL c) := by
  refine F27_call ?_
  unfold F27
  refine op_box h0 e0 fun w1 hx1 hA => ?_
  refine rd_load ty35 hA (Ext.refl _) fun v3 h3 => ?_
  refine (specCodeOk_ok h3 (Ext.refl _)).mono ?_
  rintro _ w2 ⟨hx2, rfl⟩
  have hs1 := hx1.size
  have hs2 := hx2.size
  refine rd_nodec ?_
  refine br (fun hn => ?_) (fun hy => ?_)
  · refine op_build0I (α := DOrder) u48 ty93 fun a8 w3 hx3 hr3 => ?_
    refine ⟨hx1.trans (hx2.trans hx3), ?_⟩
    unfold ordersL; rw [if_neg hn]
    exact hr3.own.own.mono (by have := hx3.size; omega)
  have hc := Decidable.not_not.1 hy
  refine rd_load ty35 hA hx2 fun v7 h7 => ?_
  refine (l19All_ok h7 hx2 hc).mono ?_
  rintro v8 w3 ⟨hx3, ho3⟩
  refine ⟨hx1.trans (hx2.trans hx3), ?_⟩
  unfold ordersL; rw [if_pos hc]
  exact ho3.mono (by omega)
end Go.Proofs.YtjgfldfbljmhhaaGreat
namespace Go.Sh
set_option linter.unusedVariables false
set_option linter.unusedSimpArgs false
open Rep (rep)
instance : Rep UInt8 where
  size := 1
  agg := false
  rep F _ cs x := F = [] ∧ cs = [.int .u8 (x.toNat : Int)]
  pos := by decide
  sz _ := rfl
  len := by rintro _ _ _ _ ⟨_, rfl⟩; rfl
  one := by rintro _ _ _ _ ⟨_, rfl⟩ v hv; simp at hv; subst hv; rfl
  keep := by rintro _ _ _ _ _ h _; exact h
  lt := by rintro _ _ _ _ ⟨rfl, _⟩ b hb; cases hb
instance : Flat UInt8 := ⟨fun h => h.1⟩
instance : RepZ UInt8 := ⟨0, [.int .u8 0], fun _ => ⟨rfl, rfl⟩⟩
section
variable {P : Program} {w w0 : World} {K : Value → Prop} {t : TypeId} {x y : Operand}
theorem mine_u8 {b : UInt8} : Mine [] w (.int .u8 (b.toNat : Int)) b := ⟨⟨_, ⟨rfl, rfl⟩, rfl⟩, List.nodup_nil, Wr.nil w⟩
theorem ownI_u8 {lo hi : Nat} {b : UInt8} : OwnI lo hi w (.int .u8 (b.toNat : Int)) b := ⟨[], mine_u8, by simp⟩
/-- byte(..) -/
theorem rd_byte {src dst : TypeId} {n : Nat} (hs : (P.underlying src).isSome = true) (hd : P.underlying dst = some (.int .u8)) (hn : n < 256) (k : K (.int .u8 ((UInt8.ofNat n).toNat : Int))) : RD P (convert src dst (.int .i64 (n : Int))) w K := by
  refine rd_of (fun w' _ => ?_) k
  obtain ⟨d, hd'⟩ := Option.isSome_iff_exists.mp hs
  have h1 : IntKind.u8.wrap (n : Int) = n := by simp [IntKind.wrap, IntKind.signed, IntKind.bits]; omega
  have h2 : (UInt8.ofNat n).toNat = n := by simp; omega
  simp [convert, run_underlying hd', run_underlying hd, Conv.intToInt, h1]
  omega
/-- string(..) of bytes -/
theorem rd_bytesStr {src dst e : TypeId} {v : Value} {l : List UInt8} (hs : P.underlying src = some (.slice e)) (he : P.underlying e = some (.int .u8)) (hd : P.underlying dst = some .string) (h : Is w0 v l) (hx : Ext w0 w)
    (k : K (.string ⟨l.toArray⟩)) : RD P (convert src dst v) w K := by
  obtain ⟨a, cap, Fi, xs, rfl, h1, h2, hc, h4⟩ := is_list h
  have hcells : ∀ {l : List UInt8} {F : List Nat} {xs : List Value}, Cells F w0 xs l → xs = l.map fun b => Value.int .u8 (b.toNat : Int) := by
    intro l
    induction l with
    | nil => rintro _ _ ⟨_, rfl⟩; rfl
    | cons b l ih =>
      rintro _ _ ⟨F1, F2, c1, c2, _, rfl, ⟨_, rfl⟩, h⟩
      rw [ih h]; rfl
  have hxs := hcells hc
  refine rd_of (fun w' hx' => ?_) k
  rcases h4 with rfl | ⟨b, o, rfl, hr, hb⟩
  · cases a with
    | none => exact run_convert_bytes_nil w' src e hs he _ _ dst hd
    | some a =>
      rw [run_convert_bytes_string w' src dst e _ _ cap hs he hd]
      have := run_bytesToString (P := P) w' a 0 cap [] (by simp [loadCells, loadCellsFrom])
      exact this
  · have := run_convert_bytes_arg w' src e hs he b o l.length cap (l.map fun b => (b.toNat : Int)) (by simp) (fun i hi => by
      have hr' := rangeAt_ext (rangeAt_ext hr hx) hx'
      have := hr' i (.int .u8 (l[i].toNat : Int)) (by rw [hxs]; simp [hi])
      rw [this]
      simp [List.getD, hi]) dst hd
    rw [this]
    have e : strOfNums (l.map fun b => (b.toNat : Int)) = ⟨l.toArray⟩ := by
      unfold strOfNums
      congr 2
      rw [List.map_map]
      conv => rhs; rw [← List.map_id l]
      congr 1
      funext b
      simp
    rw [e]
/-- a text behind a text -/
theorem rd_addS {a b : ByteArray} (h : a.size + b.size ≤ 9223372036854775807) (k : K (.string (a ++ b))) : RD P (bin .add t x y (.string a) (.string b)) w K :=
  rd_of (fun w' _ => by
    have hh : ¬ (((a.size + b.size : Nat) : Int) > IntKind.i64.max) := by
      have : IntKind.i64.max = 9223372036854775807 := by decide
      omega
    show (do eqGuard .add t x y (.string a) (.string b); binOp .add t (.string a) (.string b) : Sem Value).run P w' = _
    simp only [eqGuard, binOp, Op.stringOp, hh, if_false]
    rfl) k
theorem rd_quo {a b : Int} (hb : b ≠ 0) (h : I64 (a.tdiv b)) (k : K (.int .i64 (a.tdiv b))) : RD P (bin .quo t x y (.int .i64 a) (.int .i64 b)) w K :=
  rd_of (fun w' _ => by simp [bin, eqGuard, binOp, Op.intDiv, hb, IntWalk.i64_in _ h]) k
end
end Go.Sh
namespace Go.Proofs.YtjgfldfbljmhhaaGreat
open Go Go.Sh Go.Proofs
set_option linter.unusedVariables false
/-- laws.markText -/
def F141 (a0 : Value) (w : World) (R : Value → World → Prop) : Prop :=
  RD Tryz.prog (bin .leq 3 (.tmp 0) (.const undef) a0 (Value.int .i64 0)) w fun x5 =>
  BR x5
   (R (Value.string (ByteArray.mk #[109, 48])) w)
   (LOOPI [0, 3] [a0, (Value.string (ByteArray.mk #[]))] w fun u4 w next4 =>
    RD Tryz.prog (bin .gtr 3 (.tmp 0) (.const undef) (u4 0) (Value.int .i64 0)) w fun x7 =>
    BR x7
     (RD Tryz.prog (bin .rem 3 (.tmp 0) (.const undef) (u4 0) (Value.int .i64 10)) w fun x9 =>
     RD Tryz.prog (bin .add 3 (.const undef) (.tmp 0) (Value.int .i64 48) x9) w fun x10 =>
     RD Tryz.prog (convert 3 5 x10) w fun x11 =>
     OP Tryz.prog (Instr.buildSlice 210 1 #[(0, x11)]) w fun x12 w =>
     RD Tryz.prog (convert 210 9 x12) w fun x13 =>
     RD Tryz.prog (bin .add 9 (.tmp 0) (.tmp 0) x13 (u4 3)) w fun x15 =>
     RD Tryz.prog (bin .quo 3 (.tmp 0) (.const undef) (u4 0) (Value.int .i64 10)) w fun x17 =>
     next4 [x17, x15] w)
     (RD Tryz.prog (bin .add 9 (.const undef) (.tmp 0) (Value.string (ByteArray.mk #[109])) (u4 3)) w fun x19 =>
     R x19 w))
def cfg141 : Cfg := { ext := extL, joins := [], loops := [(4, 262089, [0, 3])], draws := [], pars := [] }
theorem F141_eq (a0 : Value) (w : World) (R : Value → World → Prop) : vcF Tryz.prog cfg141 Tryz.f141 [a0] w R = F141 a0 w R := by kernel_rfl
theorem F141_call {a0 : Value} {w : World} {R : Value → World → Prop} (h : F141 a0 w R) : CALL Tryz.prog 141 [a0] w R :=
  call_of (g := cfg141) ent mixed Tryz.func141 (Nat.le_of_ble_eq_true (by kernel_rfl)) (by kernel_rfl) (F141_eq a0 w R ▸ h)
/-- laws.markStringS -/
def F80 (a0 a1 : Value) (w : World) (R : Value → World → Prop) : Prop :=
  LOOPI [1, 5] [a1, (Value.int .i64 0)] w fun u2 w next2 =>
   RD Tryz.prog (Builtin.len_ #[22] 3 [a0].toArray) w fun x8 =>
   RD Tryz.prog (bin .lss 3 (.tmp 0) (.tmp 0) (u2 5) x8) w fun x9 =>
   BR x9
    (CALL Tryz.prog 141 [(u2 1)] w fun x15 w =>
    RD Tryz.prog (Instr.indexAt 22 a0 (u2 5)) w fun x16 =>
    OPU Tryz.prog (Instr.storeAt 9 x16 x15) w fun w =>
    RD Tryz.prog (bin .add 3 (.tmp 0) (.const undef) (u2 1) (Value.int .i64 1)) w fun x18 =>
    RD Tryz.prog (bin .add 3 (.tmp 0) (.const undef) (u2 5) (Value.int .i64 1)) w fun x11 =>
    next2 [x18, x11] w)
    (R (u2 1) w)
def cfg80 : Cfg := { ext := extL, joins := [], loops := [(2, 524258, [1, 5])], draws := [], pars := [] }
theorem F80_eq (a0 a1 : Value) (w : World) (R : Value → World → Prop) : vcF Tryz.prog cfg80 Tryz.f80 [a0, a1] w R = F80 a0 a1 w R := by kernel_rfl
theorem F80_call {a0 a1 : Value} {w : World} {R : Value → World → Prop} (h : F80 a0 a1 w R) : CALL Tryz.prog 80 [a0, a1] w R :=
  call_of (g := cfg80) ent mixed Tryz.func80 (Nat.le_of_ble_eq_true (by kernel_rfl)) (by kernel_rfl) (F80_eq a0 a1 w R ▸ h)
/-- laws.markTermS -/
def F142 (a0 a1 : Value) (w : World) (R : Value → World → Prop) : Prop :=
  LOOPI [1, 5] [a1, (Value.int .i64 0)] w fun u2 w next2 =>
   RD Tryz.prog (Builtin.len_ #[132] 3 [a0].toArray) w fun x8 =>
   RD Tryz.prog (bin .lss 3 (.tmp 0) (.tmp 0) (u2 5) x8) w fun x9 =>
   BR x9
    (RD Tryz.prog (Instr.indexAt 132 a0 (u2 5)) w fun x15 =>
    RD Tryz.prog (Instr.fieldAt 134 x15 0) w fun x16 =>
    OPU Tryz.prog (Instr.storeAt 3 x16 (u2 1)) w fun w =>
    RD Tryz.prog (bin .add 3 (.tmp 0) (.const undef) (u2 1) (Value.int .i64 1)) w fun x18 =>
    RD Tryz.prog (Instr.indexAt 132 a0 (u2 5)) w fun x22 =>
    RD Tryz.prog (Instr.fieldAt 134 x22 1) w fun x23 =>
    OPU Tryz.prog (Instr.storeAt 3 x23 x18) w fun w =>
    RD Tryz.prog (bin .add 3 (.tmp 0) (.const undef) x18 (Value.int .i64 1)) w fun x25 =>
    CALL Tryz.prog 141 [x25] w fun x29 w =>
    RD Tryz.prog (Instr.indexAt 132 a0 (u2 5)) w fun x30 =>
    RD Tryz.prog (Instr.fieldAt 134 x30 2) w fun x31 =>
    OPU Tryz.prog (Instr.storeAt 9 x31 x29) w fun w =>
    RD Tryz.prog (bin .add 3 (.tmp 0) (.const undef) x25 (Value.int .i64 1)) w fun x33 =>
    RD Tryz.prog (Instr.indexAt 132 a0 (u2 5)) w fun x36 =>
    RD Tryz.prog (Instr.fieldAt 134 x36 3) w fun x37 =>
    RD Tryz.prog (Instr.loadAt 132 x37) w fun x38 =>
    CALL Tryz.prog 142 [x38, x33] w fun x40 w =>
    RD Tryz.prog (bin .add 3 (.tmp 0) (.const undef) (u2 5) (Value.int .i64 1)) w fun x11 =>
    next2 [x40, x11] w)
    (R (u2 1) w)
def cfg142 : Cfg := { ext := extL, joins := [], loops := [(2, 2199023255522, [1, 5])], draws := [], pars := [] }
theorem F142_eq (a0 a1 : Value) (w : World) (R : Value → World → Prop) : vcF Tryz.prog cfg142 Tryz.f142 [a0, a1] w R = F142 a0 a1 w R := by kernel_rfl
theorem F142_call {a0 a1 : Value} {w : World} {R : Value → World → Prop} (h : F142 a0 a1 w R) : CALL Tryz.prog 142 [a0, a1] w R :=
  call_of (g := cfg142) ent mixed Tryz.func142 (Nat.le_of_ble_eq_true (by kernel_rfl)) (by kernel_rfl) (F142_eq a0 a1 w R ▸ h)
/-- laws.markInsS -/
def F81 (a0 a1 : Value) (w : World) (R : Value → World → Prop) : Prop :=
  LOOPI [1, 5] [a1, (Value.int .i64 0)] w fun u2 w next2 =>
   RD Tryz.prog (Builtin.len_ #[33] 3 [a0].toArray) w fun x8 =>
   RD Tryz.prog (bin .lss 3 (.tmp 0) (.tmp 0) (u2 5) x8) w fun x9 =>
   BR x9
    (RD Tryz.prog (Instr.indexAt 33 a0 (u2 5)) w fun x15 =>
    RD Tryz.prog (Instr.fieldAt 136 x15 0) w fun x16 =>
    OPU Tryz.prog (Instr.storeAt 3 x16 (u2 1)) w fun w =>
    RD Tryz.prog (bin .add 3 (.tmp 0) (.const undef) (u2 1) (Value.int .i64 1)) w fun x18 =>
    RD Tryz.prog (Instr.indexAt 33 a0 (u2 5)) w fun x22 =>
    RD Tryz.prog (Instr.fieldAt 136 x22 1) w fun x23 =>
    OPU Tryz.prog (Instr.storeAt 3 x23 x18) w fun w =>
    RD Tryz.prog (bin .add 3 (.tmp 0) (.const undef) x18 (Value.int .i64 1)) w fun x25 =>
    RD Tryz.prog (Instr.indexAt 33 a0 (u2 5)) w fun x29 =>
    RD Tryz.prog (Instr.fieldAt 136 x29 2) w fun x30 =>
    RD Tryz.prog (Instr.fieldAt 134 x30 0) w fun x31 =>
    OPU Tryz.prog (Instr.storeAt 3 x31 x25) w fun w =>
    RD Tryz.prog (bin .add 3 (.tmp 0) (.const undef) x25 (Value.int .i64 1)) w fun x33 =>
    RD Tryz.prog (Instr.indexAt 33 a0 (u2 5)) w fun x37 =>
    RD Tryz.prog (Instr.fieldAt 136 x37 2) w fun x38 =>
    RD Tryz.prog (Instr.fieldAt 134 x38 1) w fun x39 =>
    OPU Tryz.prog (Instr.storeAt 3 x39 x33) w fun w =>
    RD Tryz.prog (bin .add 3 (.tmp 0) (.const undef) x33 (Value.int .i64 1)) w fun x41 =>
    CALL Tryz.prog 141 [x41] w fun x45 w =>
    RD Tryz.prog (Instr.indexAt 33 a0 (u2 5)) w fun x46 =>
    RD Tryz.prog (Instr.fieldAt 136 x46 2) w fun x47 =>
    RD Tryz.prog (Instr.fieldAt 134 x47 2) w fun x48 =>
    OPU Tryz.prog (Instr.storeAt 9 x48 x45) w fun w =>
    RD Tryz.prog (bin .add 3 (.tmp 0) (.const undef) x41 (Value.int .i64 1)) w fun x50 =>
    RD Tryz.prog (Instr.indexAt 33 a0 (u2 5)) w fun x53 =>
    RD Tryz.prog (Instr.fieldAt 136 x53 2) w fun x54 =>
    RD Tryz.prog (Instr.fieldAt 134 x54 3) w fun x55 =>
    RD Tryz.prog (Instr.loadAt 132 x55) w fun x56 =>
    CALL Tryz.prog 142 [x56, x50] w fun x58 w =>
    RD Tryz.prog (Instr.indexAt 33 a0 (u2 5)) w fun x62 =>
    RD Tryz.prog (Instr.fieldAt 136 x62 3) w fun x63 =>
    OPU Tryz.prog (Instr.storeAt 3 x63 x58) w fun w =>
    RD Tryz.prog (bin .add 3 (.tmp 0) (.const undef) x58 (Value.int .i64 1)) w fun x65 =>
    RD Tryz.prog (bin .add 3 (.tmp 0) (.const undef) (u2 5) (Value.int .i64 1)) w fun x11 =>
    next2 [x65, x11] w)
    (R (u2 1) w)
def cfg81 : Cfg := { ext := extL, joins := [], loops := [(2, 73786976294838206434, [1, 5])], draws := [], pars := [] }
theorem F81_eq (a0 a1 : Value) (w : World) (R : Value → World → Prop) : vcF Tryz.prog cfg81 Tryz.f81 [a0, a1] w R = F81 a0 a1 w R := by kernel_rfl
theorem F81_call {a0 a1 : Value} {w : World} {R : Value → World → Prop} (h : F81 a0 a1 w R) : CALL Tryz.prog 81 [a0, a1] w R :=
  call_of (g := cfg81) ent mixed Tryz.func81 (Nat.le_of_ble_eq_true (by kernel_rfl)) (by kernel_rfl) (F81_eq a0 a1 w R ▸ h)
/-- laws.markCode -/
def F24 (a0 a1 : Value) (w : World) (R : Value → World → Prop) : Prop :=
  OP Tryz.prog (Instr.box 35 a0) w fun x2 w =>
  RD Tryz.prog (Instr.fieldAt 35 x2 0) w fun x5 =>
  RD Tryz.prog (Instr.loadAt 22 x5) w fun x6 =>
  CALL Tryz.prog 80 [x6, a1] w fun x8 w =>
  RD Tryz.prog (Instr.fieldAt 35 x2 1) w fun x9 =>
  RD Tryz.prog (Instr.loadAt 22 x9) w fun x10 =>
  CALL Tryz.prog 80 [x10, x8] w fun x12 w =>
  RD Tryz.prog (Instr.fieldAt 35 x2 2) w fun x13 =>
  RD Tryz.prog (Instr.loadAt 22 x13) w fun x14 =>
  CALL Tryz.prog 80 [x14, x12] w fun x16 w =>
  RD Tryz.prog (Instr.fieldAt 35 x2 3) w fun x17 =>
  RD Tryz.prog (Instr.loadAt 23 x17) w fun x18 =>
  CALL Tryz.prog 25 [x18, x16] w fun x20 w =>
  RD Tryz.prog (Instr.fieldAt 35 x2 4) w fun x21 =>
  RD Tryz.prog (Instr.loadAt 33 x21) w fun x22 =>
  CALL Tryz.prog 81 [x22, x20] w fun x24 w =>
  R x24 w
def cfg24 : Cfg := { ext := extL, joins := [], loops := [], draws := [], pars := [] }
theorem F24_eq (a0 a1 : Value) (w : World) (R : Value → World → Prop) : vcF Tryz.prog cfg24 Tryz.f24 [a0, a1] w R = F24 a0 a1 w R := by kernel_rfl
theorem F24_call {a0 a1 : Value} {w : World} {R : Value → World → Prop} (h : F24 a0 a1 w R) : CALL Tryz.prog 24 [a0, a1] w R :=
  call_of (g := cfg24) ent mixed Tryz.func24 (Nat.le_of_ble_eq_true (by kernel_rfl)) (by kernel_rfl) (F24_eq a0 a1 w R ▸ h)
set_option linter.unusedVariables false
set_option linter.unusedSimpArgs false
theorem markText_ok {w : World} {k : Int} (hk : k ≤ 4611686018427387904) :
    CALL Tryz.prog 141 [.int .i64 k] w fun r w' => Ext w w' ∧ ∃ s, r = .string s ∧ s.size ≤ maxLen := by
  refine F141_call ?_
  unfold F141
  refine rd_leq ?_
  refine br (fun h => ?_) (fun h => ?_)
  · exact ⟨Ext.refl w, _, rfl, by rw [maxLen_eq]; decide⟩
  · have hk19 : k < 10 ^ (19 - 0) := by
      have : (10 : Int) ^ (19 - 0) = 10000000000000000000 := by decide
      omega
    refine loopC 19 (fun j us w' => ∃ (q : Int) (s : ByteArray), us = [.int .i64 q, .string s] ∧ Ext w w' ∧ 0 ≤ q ∧ q < 10 ^ (19 - j) ∧ s.size = j) 0 (by omega) ⟨k, _, rfl, Ext.refl w, by omega, hk19, rfl⟩ ?_
    rintro j m u w2 hkm ⟨q, s, hu, hx2, hq0, hq1, hs⟩
    simp only [List.map_cons, List.map_nil, List.cons.injEq, and_true] at hu
    obtain ⟨hu1, hu2⟩ := hu
    rw [hu1, hu2]
    have hj : 0 < q → j < 19 := fun h => by
      rcases Nat.lt_or_ge j 19 with h' | h'
      · exact h'
      · rw [show 19 - j = 0 by omega] at hq1; simp at hq1; omega
    have hb : q < 10000000000000000000 := by
      have h2 : (10 : Int) ^ (19 - j) ≤ 10 ^ 19 := by
        have h3 : (10 : Nat) ^ (19 - j) ≤ 10 ^ 19 := Nat.pow_le_pow_right (by omega) (by omega)
        have h4 := Int.ofNat_le.2 h3
        simpa using h4
      have h3 : (10 : Int) ^ 19 = 10000000000000000000 := by decide
      omega
    refine rd_gtr ?_
    refine br (fun h1 => ?_) (fun h1 => ?_)
    · have hj := hj h1
      refine rd_rem (by omega) ?_
      have hm : q.tmod 10 = q % 10 := Int.tmod_eq_emod_of_nonneg hq0
      rw [hm]
      refine rd_add (by unfold I64; omega) ?_
      obtain ⟨n, hn⟩ : ∃ n : Nat, 48 + q % 10 = (n : Int) := ⟨(48 + q % 10).toNat, by omega⟩
      rw [hn]
      refine rd_byte (by kernel_rfl) u5 (by omega) ?_
      refine op_build1I (α := UInt8) u210 ty5 z5 (by decide) (ownI_u8 (lo := w2.heap.size) (hi := w2.heap.size)) (by omega) fun v3 w3 hx3 o3 => ?_
      refine rd_bytesStr u210 u5 u9 o3.is (Ext.refl w3) ?_
      have hone : ByteArray.size ⟨[UInt8.ofNat n].toArray⟩ = 1 := rfl
      refine rd_addS (by omega) ?_
      have hd : q.tdiv 10 = q / 10 := Int.tdiv_eq_ediv_of_nonneg hq0
      refine rd_quo (by omega) (by rw [hd]; unfold I64; omega) ?_
      rw [hd]
      refine ⟨m - 1, by omega, j + 1, by omega, q / 10, _, rfl, hx2.trans hx3, by omega, ?_, by rw [ByteArray.size_append]; omega⟩
      rw [show 19 - j = (19 - (j + 1)) + 1 by omega, Int.pow_succ] at hq1
      omega
    · refine rd_addS (by have : (ByteArray.mk #[109]).size = 1 := rfl
                         omega) ?_
      have hj19 : j ≤ 19 := by omega
      exact ⟨hx2, _, rfl, by rw [maxLen_eq, ByteArray.size_append]; have : (ByteArray.mk #[109]).size = 1 := rfl
                             omega⟩
theorem markStringS_ok {w : World} {F : List Nat} {v : Value} {l : List ByteArray} {k : Int} (h : Mine F w v l) (hn : l.length ≤ 1048576) (hk0 : 0 ≤ k) (hk1 : k ≤ 1152921504606846976) :
    CALL Tryz.prog 80 [v, .int .i64 k] w fun r w' => r = .int .i64 (k + l.length) ∧ Chg F w w' ∧ ∃ F', ∃ l' : List ByteArray, Mine F' w' v l' ∧ (∀ b ∈ F', b ∈ F) ∧ l'.length = l.length := by
  refine F80_call ?_
  unfold F80
  refine loopC l.length (fun i us w' => us = [.int .i64 (k + i), .int .i64 (i : Int)] ∧ Chg F w w' ∧ ∃ F', ∃ cur : List ByteArray, Mine F' w' v cur ∧ (∀ b ∈ F', b ∈ F) ∧ cur.length = l.length) 0 (Nat.zero_le _) ⟨by simp, Chg.refl _ _, F, l, h, fun _ h => h, rfl⟩ ?_
  rintro i m u w2 hkm ⟨hu, hc2, F', cur, hm2, hF', hlen⟩
  simp only [List.map_cons, List.map_nil, List.cons.injEq, and_true] at hu
  obtain ⟨hu1, hu2⟩ := hu
  rw [hu1, hu2]
  refine rd_len u22 hm2.is ?_
  rw [hlen]
  refine rd_lss ?_
  refine br (fun hlt => ?_) (fun hge => ?_)
  · have hi : i < l.length := by omega
    refine (markText_ok (by omega)).mono ?_
    rintro _ w3 ⟨hx3, s, rfl, hs⟩
    refine rd_focus u22 ty9 (hm2.ext hx3) (by omega) fun b o G hL => ?_
    refine opu_lensF ty9 hL (mine_str hs) fun w4 F4 hc4 hm4 hF4 => ?_
    refine rd_add (by unfold I64; omega) ?_
    refine rd_inc (by omega) ?_
    exact ⟨m - 1, by omega, i + 1, by omega, by simp [Int.add_assoc], (hc2.trans (hx3.chg F)).sub hc4 hF', F4, _, hm4, fun b hb => hF' b (hF4 b hb), by simp [hlen]⟩
  · have : i = l.length := by omega
    subst this
    exact ⟨rfl, hc2, F', cur, hm2, hF', hlen⟩
def MarkTS (l : List DTerm) : Prop := ∀ {w : World} {F : List Nat} {v : Value} {k : Int}, Mine F w v l → wTs l ≤ 1048576 → 0 ≤ k → k + 3 * wTs l ≤ 1152921504606846976 →
  CALL Tryz.prog 142 [v, .int .i64 k] w fun r w' => ∃ n : Int, r = .int .i64 n ∧ k ≤ n ∧ n ≤ k + 3 * wTs l ∧ Chg F w w' ∧ ∃ F', ∃ l' : List DTerm, Mine F' w' v l' ∧ (∀ b ∈ F', b ∈ F) ∧ l'.length = l.length
theorem markTS_step {l : List DTerm} (ih : ∀ t ∈ l, MarkTS t.kids) : MarkTS l := by
  intro w F v k h hn hk0 hk1
  rw [wTs_eq] at hn hk1 ⊢
  refine F142_call ?_
  unfold F142
  refine loopC l.length (fun i us w' => ∃ q : Int, us = [.int .i64 q, .int .i64 (i : Int)] ∧ Chg F w w' ∧ k ≤ q ∧ q ≤ k + 3 * (i + sm wT (l.take i) : Nat) ∧ ∃ F', ∃ cur : List DTerm, Mine F' w' v cur ∧ (∀ b ∈ F', b ∈ F) ∧ RestL i cur l) 0 (Nat.zero_le _) ⟨k, rfl, Chg.refl _ _, by omega, by simp [sm], F, l, h, fun _ h => h, rfl, fun _ _ => rfl⟩ ?_
  rintro i m u w2 hkm ⟨q, hu, hc2, hq0, hq1, F', cur, hm2, hF', hr⟩
  simp only [List.map_cons, List.map_nil, List.cons.injEq, and_true] at hu
  obtain ⟨hu1, hu2⟩ := hu
  rw [hu1, hu2]
  have hlen := hr.1
  refine rd_len u132 hm2.is ?_
  rw [hlen]
  refine rd_lss ?_
  refine br (fun hlt => ?_) (fun hge => ?_)
  · have hi : i < l.length := by omega
    have hsum := sm_take wT hi
    have hle : sm wT (l.take (i + 1)) ≤ sm wT l := by
      conv => rhs; rw [← List.take_append_drop (i + 1) l]
      unfold sm
      rw [List.map_append, List.sum_append]
      omega
    have hwi := wT_eq l[i]
    have hK := hr.keepF (f := DTerm.kids) hi
    refine st_fld (α := DTerm) (β := Int) (sel := DTerm.kind) (g := fun a y => .mk y a.num a.name a.kids) u132 ty134 fd134_0 ty3 (fun h => lens_DTerm_0 h) hm2 (by omega) (mine_int (by unfold I64; omega)) fun w3 F3 hc3 hm3 hF3 => ?_
    replace hK := hK.set (x := .mk q cur[i].num cur[i].name cur[i].kids) fun _ => rfl
    generalize hcur3 : cur.set i (.mk q cur[i].num cur[i].name cur[i].kids) = cur3 at hm3 hK
    clear hcur3
    refine rd_add (by unfold I64; omega) ?_
    refine st_fld (α := DTerm) (β := Int) (sel := DTerm.num) (g := fun a y => .mk a.kind y a.name a.kids) u132 ty134 fd134_1 ty3 (fun h => lens_DTerm_1 h) hm3 hK.2.1 (mine_int (by unfold I64; omega)) fun w4 F4 hc4 hm4 hF4 => ?_
    replace hK := hK.set (x := .mk (cur3[i]'hK.2.1).kind (q + 1) (cur3[i]'hK.2.1).name (cur3[i]'hK.2.1).kids) fun _ => rfl
    generalize hcur4 : cur3.set i _ = cur4 at hm4 hK
    clear hcur4
    refine rd_add (by unfold I64; omega) ?_
    refine (markText_ok (by omega)).mono ?_
    rintro _ w5 ⟨hx5, s, rfl, hs⟩
    refine st_fld (α := DTerm) (β := ByteArray) (sel := DTerm.name) (g := fun a y => .mk a.kind a.num y a.kids) u132 ty134 fd134_2 ty9 (fun h => lens_DTerm_2 h) (hm4.ext hx5) hK.2.1 (mine_str hs) fun w6 F6 hc6 hm6 hF6 => ?_
    replace hK := hK.set (x := .mk (cur4[i]'hK.2.1).kind (cur4[i]'hK.2.1).num s (cur4[i]'hK.2.1).kids) fun _ => rfl
    generalize hcur6 : cur4.set i _ = cur6 at hm6 hK
    clear hcur6
    refine rd_add (by unfold I64; omega) ?_
    refine rd_focus u132 ty134 hm6 hK.2.1 fun b o G hL => ?_
    refine rd_fld fd134_3 ?_
    obtain ⟨G1, hL1⟩ := lens_DTerm_3 hL
    refine rd_lens_row ty132 hL1 fun u7 hM7 hG7 hb7 => ?_
    obtain ⟨hR, hi6, _, hkids⟩ := hK
    rw [hkids] at hM7
    have hF26 : ∀ c ∈ F6, c ∈ F' := fun c hc => hF3 c (hF4 c (hF6 c hc))
    refine (ih l[i] (List.getElem_mem hi) hM7 (by omega) (by omega) (by omega)).mono ?_
    rintro _ w8 ⟨n, rfl, hn0, hn1, hc8, F8, l8, hm8, hF8, hl8⟩
    obtain ⟨F9, hm9, hF9⟩ := hb7 w8 F8 l8 hc8 hm8 fun c hc => .inl (hF8 c hc)
    refine rd_inc (by omega) ?_
    have hc26 : Chg F' w2 w6 := ((hc3.sub hc4 hF3).trans (hx5.chg F')).sub hc6 fun c hc => hF3 c (hF4 c hc)
    have hc28 : Chg F' w2 w8 := hc26.sub hc8 fun c hc => hF26 c (hG7 c hc)
    refine ⟨m - 1, by omega, i + 1, by omega, n, rfl, hc2.sub hc28 hF', by omega, by omega, F9, _, hm9, fun c hc => ?_, hR.set1 _⟩
    rcases hF9 c hc with h | h
    · exact hF' c (hF26 c h)
    · exact hF' c (hF26 c (hG7 c (hF8 c h)))
  · have : i = l.length := by omega
    subst this
    rw [List.take_length] at hq1
    exact ⟨q, rfl, hq0, by omega, hc2, F', cur, hm2, hF', hlen⟩
theorem markTS_ok (t : DTerm) : MarkTS t.kids := DTerm.ind (p := fun t => MarkTS t.kids) (fun t ih => markTS_step ih) t
theorem markTermS_ok (l : List DTerm) : MarkTS l := markTS_ok (.mk 0 0 ByteArray.empty l)
theorem markInsS_ok {w : World} {F : List Nat} {v : Value} {l : List DIns} {k : Int} (h : Mine F w v l) (hn : wIns l ≤ 1048576) (hk0 : 0 ≤ k) (hk1 : k ≤ 1000000000000000000) :
    CALL Tryz.prog 81 [v, .int .i64 k] w fun r w' => ∃ n : Int, r = .int .i64 n ∧ k ≤ n ∧ n ≤ k + 6 * wIns l ∧ Chg F w w' ∧ ∃ F', ∃ l' : List DIns, Mine F' w' v l' ∧ (∀ b ∈ F', b ∈ F) ∧ l'.length = l.length := by
  unfold wIns at hn ⊢
  refine F81_call ?_
  unfold F81
  refine loopC l.length (fun i us w' => ∃ q : Int, us = [.int .i64 q, .int .i64 (i : Int)] ∧ Chg F w w' ∧ k ≤ q ∧ q ≤ k + 6 * (i + sm (fun i => wT i.term) (l.take i) : Nat) ∧ ∃ F', ∃ cur : List DIns, Mine F' w' v cur ∧ (∀ b ∈ F', b ∈ F) ∧ RestL i cur l) 0 (Nat.zero_le _) ⟨k, rfl, Chg.refl _ _, by omega, by simp [sm], F, l, h, fun _ h => h, rfl, fun _ _ => rfl⟩ ?_
  rintro i m u w2 hkm ⟨q, hu, hc2, hq0, hq1, F', cur, hm2, hF', hr⟩
  simp only [List.map_cons, List.map_nil, List.cons.injEq, and_true] at hu
  obtain ⟨hu1, hu2⟩ := hu
  rw [hu1, hu2]
  have hlen := hr.1
  refine rd_len u33 hm2.is ?_
  rw [hlen]
  refine rd_lss ?_
  refine br (fun hlt => ?_) (fun hge => ?_)
  · have hi : i < l.length := by omega
    have hsum := sm_take (fun i : DIns => wT i.term) hi
    have hle : sm (fun i : DIns => wT i.term) (l.take (i + 1)) ≤ sm (fun i : DIns => wT i.term) l := by
      conv => rhs; rw [← List.take_append_drop (i + 1) l]
      unfold sm
      rw [List.map_append, List.sum_append]
      omega
    have hwi := wT_eq l[i].term
    have hK := hr.keepF (f := fun a : DIns => a.term.kids) hi
    refine st_fld (α := DIns) (β := Int) (sel := DIns.op) (g := fun a y => ⟨y, a.arg, a.term, a.to⟩) u33 ty136 fd136_0 ty3 (fun h => lens_DIns_0 h) hm2 hK.2.1 (mine_int (by unfold I64; omega)) fun w3 F3 hc3 hm3 hF3 => ?_
    replace hK := hK.set (x := ⟨q, (cur[i]'hK.2.1).arg, (cur[i]'hK.2.1).term, (cur[i]'hK.2.1).to⟩) fun _ => rfl
    generalize hcur3 : cur.set i _ = cur3 at hm3 hK
    clear hcur3
    refine rd_add (by unfold I64; omega) ?_
    refine st_fld (α := DIns) (β := Int) (sel := DIns.arg) (g := fun a y => ⟨a.op, y, a.term, a.to⟩) u33 ty136 fd136_1 ty3 (fun h => lens_DIns_1 h) hm3 hK.2.1 (mine_int (by unfold I64; omega)) fun w4 F4 hc4 hm4 hF4 => ?_
    replace hK := hK.set (x := ⟨(cur3[i]'hK.2.1).op, q + 1, (cur3[i]'hK.2.1).term, (cur3[i]'hK.2.1).to⟩) fun _ => rfl
    generalize hcur4 : cur3.set i _ = cur4 at hm4 hK
    clear hcur4
    refine rd_add (by unfold I64; omega) ?_
    refine st_fld2 (α := DIns) (β := Int) (sel := fun a => a.term.kind) (g := fun a y => ⟨a.op, a.arg, .mk y a.term.num a.term.name a.term.kids, a.to⟩) u33 ty136 fd136_2 fd134_0 ty3 (fun h => by obtain ⟨G1, h1⟩ := lens_DIns_2 h; exact lens_DTerm_0 h1) hm4 hK.2.1 (mine_int (by unfold I64; omega)) fun w5 F5 hc5 hm5 hF5 => ?_
    replace hK := hK.set (x := ⟨(cur4[i]'hK.2.1).op, (cur4[i]'hK.2.1).arg, .mk (q + 1 + 1) (cur4[i]'hK.2.1).term.num (cur4[i]'hK.2.1).term.name (cur4[i]'hK.2.1).term.kids, (cur4[i]'hK.2.1).to⟩) fun _ => rfl
    generalize hcur5 : cur4.set i _ = cur5 at hm5 hK
    clear hcur5
    refine rd_add (by unfold I64; omega) ?_
    refine st_fld2 (α := DIns) (β := Int) (sel := fun a => a.term.num) (g := fun a y => ⟨a.op, a.arg, .mk a.term.kind y a.term.name a.term.kids, a.to⟩) u33 ty136 fd136_2 fd134_1 ty3 (fun h => by obtain ⟨G1, h1⟩ := lens_DIns_2 h; exact lens_DTerm_1 h1) hm5 hK.2.1 (mine_int (by unfold I64; omega)) fun w6 F6 hc6 hm6 hF6 => ?_
    replace hK := hK.set (x := ⟨(cur5[i]'hK.2.1).op, (cur5[i]'hK.2.1).arg, .mk (cur5[i]'hK.2.1).term.kind (q + 1 + 1 + 1) (cur5[i]'hK.2.1).term.name (cur5[i]'hK.2.1).term.kids, (cur5[i]'hK.2.1).to⟩) fun _ => rfl
    generalize hcur6 : cur5.set i _ = cur6 at hm6 hK
    clear hcur6
    refine rd_add (by unfold I64; omega) ?_
    refine (markText_ok (by omega)).mono ?_
    rintro _ w7 ⟨hx7, s, rfl, hs⟩
    refine st_fld2 (α := DIns) (β := ByteArray) (sel := fun a => a.term.name) (g := fun a y => ⟨a.op, a.arg, .mk a.term.kind a.term.num y a.term.kids, a.to⟩) u33 ty136 fd136_2 fd134_2 ty9 (fun h => by obtain ⟨G1, h1⟩ := lens_DIns_2 h; exact lens_DTerm_2 h1) (hm6.ext hx7) hK.2.1 (mine_str hs) fun w8 F8 hc8 hm8 hF8 => ?_
    replace hK := hK.set (x := ⟨(cur6[i]'hK.2.1).op, (cur6[i]'hK.2.1).arg, .mk (cur6[i]'hK.2.1).term.kind (cur6[i]'hK.2.1).term.num s (cur6[i]'hK.2.1).term.kids, (cur6[i]'hK.2.1).to⟩) fun _ => rfl
    generalize hcur8 : cur6.set i _ = cur8 at hm8 hK
    clear hcur8
    refine rd_add (by unfold I64; omega) ?_
    refine rd_focus u33 ty136 hm8 hK.2.1 fun b o G hL => ?_
    refine rd_fld fd136_2 ?_
    refine rd_fld fd134_3 ?_
    obtain ⟨G0, hL0⟩ := lens_DIns_2 hL
    obtain ⟨G1, hL1⟩ := lens_DTerm_3 hL0
    refine rd_lens_row ty132 hL1 fun u9 hM9 hG9 hb9 => ?_
    obtain ⟨hR, hi8, _, hkids⟩ := hK
    have hkids' : (cur8[i]'hi8).term.kids = l[i].term.kids := hkids
    rw [hkids'] at hM9
    have hF28 : ∀ c ∈ F8, c ∈ F' := fun c hc => hF3 c (hF4 c (hF5 c (hF6 c (hF8 c hc))))
    refine (markTermS_ok _ hM9 (by omega) (by omega) (by omega)).mono ?_
    rintro _ w10 ⟨n, rfl, hn0, hn1, hc10, F10, l10, hm10, hF10, hl10⟩
    obtain ⟨F11, hm11, hF11⟩ := hb9 w10 F10 l10 hc10 hm10 fun c hc => .inl (hF10 c hc)
    have hF211 : ∀ c ∈ F11, c ∈ F' := fun c hc => by
      rcases hF11 c hc with h | h
      · exact hF28 c h
      · exact hF28 c (hG9 c (hF10 c h))
    replace hR := hR.set1 (⟨(cur8[i]'hi8).op, (cur8[i]'hi8).arg, .mk (cur8[i]'hi8).term.kind (cur8[i]'hi8).term.num (cur8[i]'hi8).term.name l10, (cur8[i]'hi8).to⟩ : DIns)
    have hi11 : i < (cur8.set i (⟨(cur8[i]'hi8).op, (cur8[i]'hi8).arg, .mk (cur8[i]'hi8).term.kind (cur8[i]'hi8).term.num (cur8[i]'hi8).term.name l10, (cur8[i]'hi8).to⟩ : DIns)).length := by simpa using hi8
    generalize hcur11 : cur8.set i _ = cur11 at hm11 hR hi11
    clear hcur11
    have hc28 : Chg F' w2 w8 := (((((hc3.sub hc4 hF3).sub hc5 fun c hc => hF3 c (hF4 c hc)).sub hc6 fun c hc => hF3 c (hF4 c (hF5 c hc)))).trans (hx7.chg F')).sub hc8 fun c hc => hF3 c (hF4 c (hF5 c (hF6 c hc)))
    have hc210 : Chg F' w2 w10 := hc28.sub hc10 fun c hc => hF28 c (hG9 c hc)
    refine st_fld (α := DIns) (β := Int) (sel := DIns.to) (g := fun a y => ⟨a.op, a.arg, a.term, y⟩) u33 ty136 fd136_3 ty3 (fun h => lens_DIns_3 h) hm11 hi11 (mine_int (by unfold I64; omega)) fun w12 F12 hc12 hm12 hF12 => ?_
    refine rd_add (by unfold I64; omega) ?_
    refine rd_inc (by omega) ?_
    exact ⟨m - 1, by omega, i + 1, by omega, n + 1, rfl, hc2.sub (hc210.sub hc12 hF211) hF', by omega, by omega, F12, _, hm12, fun c hc => hF' c (hF211 c (hF12 c hc)), hR.set1 _⟩
  · have : i = l.length := by omega
    subst this
    rw [List.take_length] at hq1
    exact ⟨q, rfl, hq0, by omega, hc2, F', cur, hm2, hF', hlen⟩
/-- the slices of code of one's own -/
theorem mine_code {w : World} {F : List Nat} {v : Value} {c : DCode} (h : Mine F w v c) : ∃ (a0 a1 a2 a3 a4 : Value) (F0 F1 F2 F3 F4 : List Nat), v = .agg #[a0, a1, a2, a3, a4] ∧ F = F0 ++ (F1 ++ (F2 ++ (F3 ++ F4))) ∧ F.Nodup ∧
    Mine F0 w a0 c.globals ∧ Mine F1 w a1 c.locks ∧ Mine F2 w a2 c.procs ∧ Mine F3 w a3 c.entry ∧ Mine F4 w a4 c.ins := by
  obtain ⟨⟨cs, hr, rfl⟩, hn, hw⟩ := h
  obtain ⟨F0, c0, F1, c1, F2, c2, F3, c3, F4, c4, rfl, rfl, h0, h1, h2, h3, h4⟩ := inv_DCode hr
  have n0 := nodup_app hn
  have n1 := nodup_app n0.2.1
  have n2 := nodup_app n1.2.1
  have n3 := nodup_app n2.2.1
  obtain ⟨a0, rfl, m0⟩ := mine_of_rep h0 n0.1 (hw.sub (by simp +contextual))
  obtain ⟨a1, rfl, m1⟩ := mine_of_rep h1 n1.1 (hw.sub (by simp +contextual))
  obtain ⟨a2, rfl, m2⟩ := mine_of_rep h2 n2.1 (hw.sub (by simp +contextual))
  obtain ⟨a3, rfl, m3⟩ := mine_of_rep h3 n3.1 (hw.sub (by simp +contextual))
  obtain ⟨a4, rfl, m4⟩ := mine_of_rep h4 n3.2.1 (hw.sub (by simp +contextual))
  exact ⟨a0, a1, a2, a3, a4, F0, F1, F2, F3, F4, rfl, rfl, hn, m0, m1, m2, m3, m4⟩
theorem markCode_ok {w : World} {lo hi : Nat} {v : Value} {c : DCode} {k : Int} (h : OwnI lo hi w v c) (hn : wCode c ≤ 1048576) (hk0 : 0 ≤ k) (hk1 : k ≤ 100000000000000000) :
    CALL Tryz.prog 24 [v, .int .i64 k] w fun r w' => ∃ n : Int, r = .int .i64 n ∧ (k ≤ n ∧ n ≤ k + 8388608) ∧ ChgI lo hi w w' := by
  obtain ⟨F, hM, hF⟩ := h
  obtain ⟨a0, a1, a2, a3, a4, F0, F1, F2, F3, F4, rfl, rfl, hnd, m0, m1, m2, m3, m4⟩ := mine_code hM
  unfold wCode wStr at hn
  have d0 := nodup_app hnd
  have d1 := nodup_app d0.2.1
  have d2 := nodup_app d1.2.1
  have d3 := nodup_app d2.2.1
  refine F24_call ?_
  unfold F24
  refine op_boxB fun w1 hx1 hB1 => ?_
  have hg : ∀ b ∈ F0 ++ (F1 ++ (F2 ++ (F3 ++ F4))), b ≠ w.heap.size := fun b hb e => by have := hM.lt b hb; omega
  refine rd_fld fd35_0 ?_
  refine rd_blkV ty22 hB1 rfl ?_
  refine (markStringS_ok (m0.ext hx1) (by omega) (by omega) (by omega)).mono ?_
  rintro _ w2 ⟨rfl, hc2, _⟩
  have hB2 := hB1.chg hc2 fun hm => hg _ (by simp [hm]) rfl
  have m12 := (m1.ext hx1).chgD hc2 fun b hb h0 => d0.2.2 b h0 (by simp [hb])
  have m22 := (m2.ext hx1).chgD hc2 fun b hb h0 => d0.2.2 b h0 (by simp [hb])
  have m32 := (m3.ext hx1).chgD hc2 fun b hb h0 => d0.2.2 b h0 (by simp [hb])
  have m42 := (m4.ext hx1).chgD hc2 fun b hb h0 => d0.2.2 b h0 (by simp [hb])
  refine rd_fld fd35_1 ?_
  refine rd_blkV ty22 hB2 rfl ?_
  refine (markStringS_ok m12 (by omega) (by omega) (by omega)).mono ?_
  rintro _ w3 ⟨rfl, hc3, _⟩
  have hB3 := hB2.chg hc3 fun hm => hg _ (by simp [hm]) rfl
  have m23 := m22.chgD hc3 fun b hb h0 => d1.2.2 b h0 (by simp [hb])
  have m33 := m32.chgD hc3 fun b hb h0 => d1.2.2 b h0 (by simp [hb])
  have m43 := m42.chgD hc3 fun b hb h0 => d1.2.2 b h0 (by simp [hb])
  refine rd_fld fd35_2 ?_
  refine rd_blkV ty22 hB3 rfl ?_
  refine (markStringS_ok m23 (by omega) (by omega) (by omega)).mono ?_
  rintro _ w4 ⟨rfl, hc4, _⟩
  have hB4 := hB3.chg hc4 fun hm => hg _ (by simp [hm]) rfl
  have m34 := m33.chgD hc4 fun b hb h0 => d2.2.2 b h0 (by simp [hb])
  have m44 := m43.chgD hc4 fun b hb h0 => d2.2.2 b h0 (by simp [hb])
  refine rd_fld fd35_3 ?_
  refine rd_blkV ty23 hB4 rfl ?_
  refine (markIntS_ok m34 (by omega) (by omega) (by omega)).mono ?_
  rintro _ w5 ⟨rfl, hc5, _⟩
  have hB5 := hB4.chg hc5 fun hm => hg _ (by simp [hm]) rfl
  have m45 := m44.chgD hc5 fun b hb h0 => d3.2.2 b h0 hb
  refine rd_fld fd35_4 ?_
  refine rd_blkV ty33 hB5 rfl ?_
  refine (markInsS_ok m45 (by omega) (by omega) (by omega)).mono ?_
  rintro _ w6 ⟨n, rfl, hn0, hn1, hc6, _⟩
  refine ⟨n, rfl, by omega, ?_⟩
  have hc : Chg (F0 ++ (F1 ++ (F2 ++ (F3 ++ F4)))) w w6 := (((((hx1.chg _).sub hc2 (by simp +contextual)).sub hc3 (by simp +contextual)).sub hc4 (by simp +contextual)).sub hc5 (by simp +contextual)).sub hc6 (by simp +contextual)
  exact hc.toI hF
end Go.Proofs.YtjgfldfbljmhhaaGreat
namespace Go.Proofs.YtjgfldfbljmhhaaGreat
open Go Go.Sh Go.Proofs
set_option linter.unusedVariables false
/-- laws.markOrderS -/
def F30 (a0 a1 : Value) (w : World) (R : Value → World → Prop) : Prop :=
  LOOPI [1, 5] [a1, (Value.int .i64 0)] w fun u2 w next2 =>
   RD Tryz.prog (Builtin.len_ #[48] 3 [a0].toArray) w fun x8 =>
   RD Tryz.prog (bin .lss 3 (.tmp 0) (.tmp 0) (u2 5) x8) w fun x9 =>
   BR x9
    (RD Tryz.prog (Instr.indexAt 48 a0 (u2 5)) w fun x15 =>
    RD Tryz.prog (Instr.fieldAt 93 x15 0) w fun x16 =>
    OPU Tryz.prog (Instr.storeAt 3 x16 (u2 1)) w fun w =>
    RD Tryz.prog (bin .add 3 (.tmp 0) (.const undef) (u2 1) (Value.int .i64 1)) w fun x18 =>
    RD Tryz.prog (Instr.indexAt 48 a0 (u2 5)) w fun x22 =>
    RD Tryz.prog (Instr.fieldAt 93 x22 1) w fun x23 =>
    OPU Tryz.prog (Instr.storeAt 3 x23 x18) w fun w =>
    RD Tryz.prog (bin .add 3 (.tmp 0) (.const undef) x18 (Value.int .i64 1)) w fun x25 =>
    RD Tryz.prog (Instr.indexAt 48 a0 (u2 5)) w fun x29 =>
    RD Tryz.prog (Instr.fieldAt 93 x29 2) w fun x30 =>
    OPU Tryz.prog (Instr.storeAt 3 x30 x25) w fun w =>
    RD Tryz.prog (bin .add 3 (.tmp 0) (.const undef) x25 (Value.int .i64 1)) w fun x32 =>
    RD Tryz.prog (bin .add 3 (.tmp 0) (.const undef) (u2 5) (Value.int .i64 1)) w fun x11 =>
    next2 [x32, x11] w)
    (R (u2 1) w)
def cfg30 : Cfg := { ext := extL, joins := [], loops := [(2, 8589934562, [1, 5])], draws := [], pars := [] }
theorem F30_eq (a0 a1 : Value) (w : World) (R : Value → World → Prop) : vcF Tryz.prog cfg30 Tryz.f30 [a0, a1] w R = F30 a0 a1 w R := by kernel_rfl
theorem F30_call {a0 a1 : Value} {w : World} {R : Value → World → Prop} (h : F30 a0 a1 w R) : CALL Tryz.prog 30 [a0, a1] w R :=
  call_of (g := cfg30) ent mixed Tryz.func30 (Nat.le_of_ble_eq_true (by kernel_rfl)) (by kernel_rfl) (F30_eq a0 a1 w R ▸ h)
/-- laws.heldOrderS -/
def F31 (a0 a1 : Value) (w : World) (R : Value → World → Prop) : Prop :=
  LOOPI [1, 5] [a1, (Value.int .i64 0)] w fun u2 w next2 =>
   RD Tryz.prog (Builtin.len_ #[48] 3 [a0].toArray) w fun x8 =>
   RD Tryz.prog (bin .lss 3 (.tmp 0) (.tmp 0) (u2 5) x8) w fun x9 =>
   BR x9
    (RD Tryz.prog (Instr.indexAt 48 a0 (u2 5)) w fun x14 =>
    RD Tryz.prog (Instr.fieldAt 93 x14 0) w fun x15 =>
    RD Tryz.prog (Instr.loadAt 3 x15) w fun x16 =>
    RD Tryz.prog (bin .neq 3 (.tmp 0) (.tmp 0) x16 (u2 1)) w fun x18 =>
    BR x18
     (R (Value.int .i64 (-1)) w)
     (RD Tryz.prog (bin .add 3 (.tmp 0) (.const undef) (u2 1) (Value.int .i64 1)) w fun x20 =>
     RD Tryz.prog (Instr.indexAt 48 a0 (u2 5)) w fun x23 =>
     RD Tryz.prog (Instr.fieldAt 93 x23 1) w fun x24 =>
     RD Tryz.prog (Instr.loadAt 3 x24) w fun x25 =>
     RD Tryz.prog (bin .neq 3 (.tmp 0) (.tmp 0) x25 x20) w fun x27 =>
     BR x27
      (R (Value.int .i64 (-1)) w)
      (RD Tryz.prog (bin .add 3 (.tmp 0) (.const undef) x20 (Value.int .i64 1)) w fun x29 =>
      RD Tryz.prog (Instr.indexAt 48 a0 (u2 5)) w fun x32 =>
      RD Tryz.prog (Instr.fieldAt 93 x32 2) w fun x33 =>
      RD Tryz.prog (Instr.loadAt 3 x33) w fun x34 =>
      RD Tryz.prog (bin .neq 3 (.tmp 0) (.tmp 0) x34 x29) w fun x36 =>
      BR x36
       (R (Value.int .i64 (-1)) w)
       (RD Tryz.prog (bin .add 3 (.tmp 0) (.const undef) x29 (Value.int .i64 1)) w fun x38 =>
       RD Tryz.prog (bin .add 3 (.tmp 0) (.const undef) (u2 5) (Value.int .i64 1)) w fun x11 =>
       next2 [x38, x11] w))))
    (R (u2 1) w)
def cfg31 : Cfg := { ext := extL, joins := [], loops := [(2, 549755813874, [1, 5])], draws := [], pars := [] }
theorem F31_eq (a0 a1 : Value) (w : World) (R : Value → World → Prop) : vcF Tryz.prog cfg31 Tryz.f31 [a0, a1] w R = F31 a0 a1 w R := by kernel_rfl
theorem F31_call {a0 a1 : Value} {w : World} {R : Value → World → Prop} (h : F31 a0 a1 w R) : CALL Tryz.prog 31 [a0, a1] w R :=
  call_of (g := cfg31) ent mixed Tryz.func31 (Nat.le_of_ble_eq_true (by kernel_rfl)) (by kernel_rfl) (F31_eq a0 a1 w R ▸ h)
set_option linter.unusedVariables false
set_option linter.unusedSimpArgs false
/-- laws.eqOrder -/
def F83 (a0 a1 : Value) (w : World) (R : Value → World → Prop) : Prop :=
  OP Tryz.prog (Instr.box 93 a0) w fun x2 w =>
  OP Tryz.prog (Instr.box 93 a1) w fun x3 w =>
  RD Tryz.prog (Instr.fieldAt 93 x2 0) w fun x5 =>
  RD Tryz.prog (Instr.loadAt 3 x5) w fun x6 =>
  RD Tryz.prog (Instr.fieldAt 93 x3 0) w fun x7 =>
  RD Tryz.prog (Instr.loadAt 3 x7) w fun x8 =>
  RD Tryz.prog (bin .neq 3 (.tmp 0) (.tmp 0) x6 x8) w fun x9 =>
  BR x9
   (R (Value.bool false) w)
   (RD Tryz.prog (Instr.fieldAt 93 x2 1) w fun x10 =>
   RD Tryz.prog (Instr.loadAt 3 x10) w fun x11 =>
   RD Tryz.prog (Instr.fieldAt 93 x3 1) w fun x12 =>
   RD Tryz.prog (Instr.loadAt 3 x12) w fun x13 =>
   RD Tryz.prog (bin .neq 3 (.tmp 0) (.tmp 0) x11 x13) w fun x14 =>
   BR x14
    (R (Value.bool false) w)
    (RD Tryz.prog (Instr.fieldAt 93 x2 2) w fun x15 =>
    RD Tryz.prog (Instr.loadAt 3 x15) w fun x16 =>
    RD Tryz.prog (Instr.fieldAt 93 x3 2) w fun x17 =>
    RD Tryz.prog (Instr.loadAt 3 x17) w fun x18 =>
    RD Tryz.prog (bin .neq 3 (.tmp 0) (.tmp 0) x16 x18) w fun x19 =>
    BR x19
     (R (Value.bool false) w)
     (R (Value.bool true) w)))
def cfg83 : Cfg := { ext := extL, joins := [], loops := [], draws := [], pars := [] }
theorem F83_eq (a0 a1 : Value) (w : World) (R : Value → World → Prop) : vcF Tryz.prog cfg83 Tryz.f83 [a0, a1] w R = F83 a0 a1 w R := by kernel_rfl
theorem F83_call {a0 a1 : Value} {w : World} {R : Value → World → Prop} (h : F83 a0 a1 w R) : CALL Tryz.prog 83 [a0, a1] w R :=
  call_of (g := cfg83) ent mixed Tryz.func83 (Nat.le_of_ble_eq_true (by kernel_rfl)) (by kernel_rfl) (F83_eq a0 a1 w R ▸ h)
theorem eqOrder_ok {w : World} {v0 : Value} {W0 : World} {s1 : DOrder} {v1 : Value} {W1 : World} {s2 : DOrder}  (h0 : Is W0 v0 s1) (e0 : Ext W0 w) (h1 : Is W1 v1 s2) (e1 : Ext W1 w)  :
    CALL Tryz.prog 83 [v0, v1] w fun r w' => Ext w w' ∧ (r = .bool (decide (s1 = s2))) := by
  refine F83_call ?_
  unfold F83
  refine op_boxS ty93 rfl h0 e0 fun w1_ hx1_ hA2 hV2 => ?_
  refine op_boxS ty93 rfl h1 (e1.trans hx1_) fun w2_ hx2_ hA3 hV3 => ?_
  refine rd_fld fd93_0 ?_
  refine rd_loadI ty3 (at_DOrder_0 hA2) hx2_ fun hI6 => ?_
  refine rd_fld fd93_0 ?_
  refine rd_loadI ty3 (at_DOrder_0 hA3) (Ext.refl w2_) fun hI8 => ?_
  refine rd_neq ?_
  refine br (fun c1 => ?_) (fun c1 => ?_)
  · refine ⟨(hx1_.trans hx2_), ?_⟩
    have : s1 ≠ s2 := fun e => c1 (by rw [e])
    simp [this]
  · refine rd_fld fd93_1 ?_
    refine rd_loadI ty3 (at_DOrder_1 hA2) hx2_ fun hI11 => ?_
    refine rd_fld fd93_1 ?_
    refine rd_loadI ty3 (at_DOrder_1 hA3) (Ext.refl w2_) fun hI13 => ?_
    refine rd_neq ?_
    refine br (fun c2 => ?_) (fun c2 => ?_)
    · refine ⟨(hx1_.trans hx2_), ?_⟩
      have : s1 ≠ s2 := fun e => c2 (by rw [e])
      simp [this]
    · refine rd_fld fd93_2 ?_
      refine rd_loadI ty3 (at_DOrder_2 hA2) hx2_ fun hI16 => ?_
      refine rd_fld fd93_2 ?_
      refine rd_loadI ty3 (at_DOrder_2 hA3) (Ext.refl w2_) fun hI18 => ?_
      refine rd_neq ?_
      refine br (fun c3 => ?_) (fun c3 => ?_)
      · refine ⟨(hx1_.trans hx2_), ?_⟩
        have : s1 ≠ s2 := fun e => c3 (by rw [e])
        simp [this]
      · refine ⟨(hx1_.trans hx2_), ?_⟩
        have : s1 = s2 := by
          cases s1; cases s2
          simp only [ne_eq, Decidable.not_not] at c1 c2 c3
          rw [c1, c2, c3]
        simp [this]
/-- laws.eqOrderS -/
def F29 (a0 a1 : Value) (w : World) (R : Value → World → Prop) : Prop :=
  RD Tryz.prog (Builtin.len_ #[48] 3 [a0].toArray) w fun x7 =>
  RD Tryz.prog (Builtin.len_ #[48] 3 [a1].toArray) w fun x9 =>
  RD Tryz.prog (bin .neq 3 (.tmp 0) (.tmp 0) x7 x9) w fun x10 =>
  BR x10
   (R (Value.bool false) w)
   (LOOPI [5] [(Value.int .i64 0)] w fun u4 w next4 =>
    RD Tryz.prog (Builtin.len_ #[48] 3 [a0].toArray) w fun x13 =>
    RD Tryz.prog (bin .lss 3 (.tmp 0) (.tmp 0) (u4 5) x13) w fun x14 =>
    BR x14
     ((fun w => RD Tryz.prog (Instr.indexAt 48 a0 (u4 5)) w fun x19 =>
     RD Tryz.prog (Instr.loadAt 93 x19) w fun x20 =>
     RD Tryz.prog (Instr.indexAt 48 a1 (u4 5)) w fun x23 =>
     RD Tryz.prog (Instr.loadAt 93 x23) w fun x24 =>
     CALL Tryz.prog 83 [x20, x24] w fun x25 w =>
     RD Tryz.prog (Op.unary .not x25) w fun x26 =>
     BR x26
      (R (Value.bool false) w)
      (RD Tryz.prog (bin .add 3 (.tmp 0) (.const undef) (u4 5) (Value.int .i64 1)) w fun x16 =>
      next4 [x16] w)) (World.drew1 w))
     (R (Value.bool true) w))
def cfg29 : Cfg := { ext := extL, joins := [], loops := [(4, 134215728, [5])], draws := [(6, [0, 1, 2, 3, 4, 5, 6, 7, 8, 9], 0)], pars := [] }
theorem F29_eq (a0 a1 : Value) (w : World) (R : Value → World → Prop) : vcF Tryz.prog cfg29 Tryz.f29 [a0, a1] w R = F29 a0 a1 w R := by kernel_rfl
theorem F29_call {a0 a1 : Value} {w : World} {R : Value → World → Prop} (h : F29 a0 a1 w R) : CALL Tryz.prog 29 [a0, a1] w R :=
  call_of (g := cfg29) ent mixed Tryz.func29 (Nat.le_of_ble_eq_true (by kernel_rfl)) (by kernel_rfl) (F29_eq a0 a1 w R ▸ h)
theorem eqOrderS_ok {w : World} {v0 : Value} {W0 : World} {l1 : (List DOrder)} {v1 : Value} {W1 : World} {l2 : (List DOrder)}  (h0 : Is W0 v0 l1) (e0 : Ext W0 w) (h1 : Is W1 v1 l2) (e1 : Ext W1 w)  :
    CALL Tryz.prog 29 [v0, v1] w fun r w' => Ext w w' ∧ (r = .bool (decide (l1 = l2))) := by
  refine F29_call ?_
  unfold F29
  have hl1 := is_len h0
  have hln7 := is_len h0
  refine rd_len u48 h0 ?_
  have hln9 := is_len h1
  refine rd_len u48 h1 ?_
  refine rd_neq ?_
  refine br (fun c1 => ?_) (fun c1 => ?_)
  · refine ⟨Ext.refl w, ?_⟩
    have : l1 ≠ l2 := fun e => c1 (by rw [e])
    simp [this]
  · refine loopC (l1.length) (fun k us w' => us = [.int .i64 (k : Int)] ∧ Ext w w' ∧ (l1.take k = l2.take k)) (0) (by omega) ⟨by simp, Ext.refl w, by simp⟩ ?_
    rintro k m4 uu4 w1_ hk4 ⟨hu, hx1_, hinv⟩
    simp only [List.map_cons, List.map_nil, List.cons.injEq, and_true] at hu
    try rw [hu]
    try clear hu
    have hln13 := is_len h0
    refine rd_len u48 h0 ?_
    refine rd_lss ?_
    refine br (fun c2 => ?_) (fun c2 => ?_)
    · have hx2_ := ext_drew w1_
      refine rd_indexN u48 ty93 h0 (by omega) fun b19 o19 h19 => ?_
      refine rd_load ty93 h19 (e0.trans (hx1_.trans hx2_)) fun v20 h20 => ?_
      refine rd_indexN u48 ty93 h1 (by omega) fun b23 o23 h23 => ?_
      refine rd_load ty93 h23 (e1.trans (hx1_.trans hx2_)) fun v24 h24 => ?_
      refine (eqOrder_ok h20 (e0.trans (hx1_.trans hx2_)) h24 (e1.trans (hx1_.trans hx2_))).mono ?_
      rintro _ w3_ ⟨hx3_, rfl⟩
      refine rd_nodec ?_
      refine br (fun c3 => ?_) (fun c3 => ?_)
      · refine ⟨(hx1_.trans (hx2_.trans hx3_)), ?_⟩
        have : l1 ≠ l2 := fun e => c3 (by subst e; rfl)
        simp [this]
      · refine rd_inc (by omega) ?_
        refine ⟨m4 - 1, by omega, k + 1, by omega, by simp, (hx1_.trans (hx2_.trans hx3_)), ?_⟩
        rw [List.take_succ_eq_append_getElem (by omega), List.take_succ_eq_append_getElem (by omega), hinv, Decidable.not_not.1 c3]
    · refine ⟨hx1_, ?_⟩
      rw [List.take_of_length_le (by omega), List.take_of_length_le (by omega)] at hinv
      simp [hinv]
def mk1Order (k : Int) : DOrder := ⟨k, k + 1, k + 1 + 1⟩
def mkLOrder (k : Int) (n : Nat) : List DOrder := (List.range n).map fun i : Nat => mk1Order (k + 3 * (i : Int))
theorem mkLOrder_len (k : Int) (n : Nat) : (mkLOrder k n).length = n := by simp [mkLOrder]
theorem mkLOrder_succ (k : Int) (n : Nat) : mkLOrder k (n + 1) = mkLOrder k n ++ [mk1Order (k + 3 * (n : Int))] := by simp [mkLOrder, List.range_succ]
theorem mkLOrder_get (k : Int) (n : Nat) {i : Nat} (hi : i < n) : (mkLOrder k n)[i]'(by rw [mkLOrder_len]; exact hi) = mk1Order (k + 3 * (i : Int)) := by simp [mkLOrder]
theorem markOrderS_ok {w : World} {F : List Nat} {v : Value} {l : List DOrder} {k : Int} (h : Mine F w v l) (hn : l.length ≤ 1073741824) (hk0 : 0 ≤ k) (hk1 : k ≤ 1000000000000000000) :
    CALL Tryz.prog 30 [v, .int .i64 k] w fun r w' => r = .int .i64 (k + 3 * (l.length : Int)) ∧ Chg F w w' ∧ OwnS F w' v (mkLOrder k l.length) := by
  refine F30_call ?_
  unfold F30
  refine loopC l.length (fun i us w' => us = [.int .i64 (k + 3 * (i : Int)), .int .i64 (i : Int)] ∧ Chg F w w' ∧ OwnS F w' v (mkLOrder k i ++ l.drop i)) 0 (Nat.zero_le _) ⟨by simp, Chg.refl _ _, by simpa [mkLOrder] using h.toS⟩ ?_
  rintro i m u w0 hkm ⟨hu, hc, F', hm0, hF'⟩
  simp only [List.map_cons, List.map_nil, List.cons.injEq, and_true] at hu
  obtain ⟨hu1, hu2⟩ := hu
  rw [hu1, hu2]
  have hlen : (mkLOrder k i ++ l.drop i).length = l.length := by rw [List.length_append, mkLOrder_len, List.length_drop]; omega
  refine rd_len u48 hm0.is ?_
  rw [hlen]
  refine rd_lss ?_
  refine br (fun hlt => ?_) (fun hge => ?_)
  · have hi : i < l.length := by omega
    have hset : (mkLOrder k i ++ l.drop i).set i (mk1Order (k + 3 * (i : Int))) = mkLOrder k (i + 1) ++ l.drop (i + 1) := by
      rw [List.drop_eq_getElem_cons hi, List.set_append_right _ _ (by rw [mkLOrder_len]; omega), mkLOrder_len, Nat.sub_self, List.set_cons_zero, mkLOrder_succ]
      simp only [List.append_assoc, List.cons_append, List.nil_append]
    generalize hL : mkLOrder k i ++ l.drop i = L at hm0 hlen hset
    clear hL
    obtain ⟨q, hq⟩ : ∃ q, q = k + 3 * (i : Int) := ⟨_, rfl⟩
    rw [← hq] at hset ⊢
    refine st_fld (α := DOrder) (β := Int) (sel := DOrder.fr) (g := fun a y => ⟨y, a.to, a.at_⟩) u48 ty93 fd93_0 ty3 (fun h => lens_DOrder_0 h) hm0 (by first | omega | (simp only [List.length_set]; omega)) (mine_int (by unfold I64; omega)) fun w1 F1 hc1 hm1 hF1 => ?_
    refine rd_add (by unfold I64; omega) ?_
    refine st_fld (α := DOrder) (β := Int) (sel := DOrder.to) (g := fun a y => ⟨a.fr, y, a.at_⟩) u48 ty93 fd93_1 ty3 (fun h => lens_DOrder_1 h) hm1 (by first | omega | (simp only [List.length_set]; omega)) (mine_int (by unfold I64; omega)) fun w2 F2 hc2 hm2 hF2 => ?_
    refine rd_add (by unfold I64; omega) ?_
    refine st_fld (α := DOrder) (β := Int) (sel := DOrder.at_) (g := fun a y => ⟨a.fr, a.to, y⟩) u48 ty93 fd93_2 ty3 (fun h => lens_DOrder_2 h) hm2 (by first | omega | (simp only [List.length_set]; omega)) (mine_int (by unfold I64; omega)) fun w3 F3 hc3 hm3 hF3 => ?_
    refine rd_add (by unfold I64; omega) ?_
    refine rd_inc (by omega) ?_
    simp only [List.set_set, List.getElem_set_self] at hm3
    have hcc : Chg F' w0 w3 := ((hc1).sub hc2 fun c hc => hF1 c hc).sub hc3 fun c hc => hF1 c (hF2 c hc)
    refine ⟨m - 1, by omega, i + 1, by omega, by rw [hq]; simp only [List.cons.injEq, Value.int.injEq, true_and, and_true, Int.natCast_add, Int.natCast_one]; omega, hc.sub hcc hF', F3, ?_, fun c hc => hF' c (hF1 c (hF2 c (hF3 c hc)))⟩
    rw [← hset]; exact hm3
  · have : i = l.length := by omega
    subst this
    rw [List.drop_length, List.append_nil] at hm0
    exact ⟨rfl, hc, F', hm0, hF'⟩
theorem markOrderS_I {w : World} {lo hi : Nat} {v : Value} {l : List DOrder} {k : Int} (h : OwnI lo hi w v l) (hn : l.length ≤ 1073741824) (hk0 : 0 ≤ k) (hk1 : k ≤ 1000000000000000000) :
    CALL Tryz.prog 30 [v, .int .i64 k] w fun r w' => r = .int .i64 (k + 3 * (l.length : Int)) ∧ ChgI lo hi w w' ∧ OwnI lo hi w' v (mkLOrder k l.length) := by
  obtain ⟨F, hM, hF⟩ := h
  exact (markOrderS_ok hM hn hk0 hk1).mono fun r w' ⟨h1, h2, h3⟩ => ⟨h1, h2.toI hF, h3.toI hF⟩
theorem heldOrderS_ok {w w0 : World} {v : Value} {n : Nat} {k : Int} (h : Is w0 v (mkLOrder k n)) (hx : Ext w0 w) (hn : n ≤ 1073741824) (hk0 : 0 ≤ k) (hk1 : k ≤ 1000000000000000000) :
    CALL Tryz.prog 31 [v, .int .i64 k] w fun r w' => Ext w w' ∧ r = .int .i64 (k + 3 * (n : Int)) := by
  refine F31_call ?_
  unfold F31
  refine loopC n (fun i us w' => us = [.int .i64 (k + 3 * (i : Int)), .int .i64 (i : Int)] ∧ Ext w w') 0 (Nat.zero_le _) ⟨by simp, Ext.refl w⟩ ?_
  rintro i m u w2 hkm ⟨hu, hx2⟩
  simp only [List.map_cons, List.map_nil, List.cons.injEq, and_true] at hu
  obtain ⟨hu1, hu2⟩ := hu
  rw [hu1, hu2]
  refine rd_len u48 h ?_
  rw [mkLOrder_len]
  refine rd_lss ?_
  refine br (fun hlt => ?_) (fun hge => ?_)
  · have hi : i < n := by omega
    have hg := mkLOrder_get k n hi
    obtain ⟨q, hq⟩ : ∃ q, q = k + 3 * (i : Int) := ⟨_, rfl⟩
    rw [← hq] at hg ⊢
    refine rd_indexN u48 ty93 h (by rw [mkLOrder_len]; exact hi) fun b0 o0 hA0 => ?_
    rw [hg] at hA0
    refine rd_fld fd93_0 ?_
    refine rd_loadI ty3 (at_DOrder_0 hA0) (hx.trans hx2) fun _ => ?_
    refine rd_neq ?_
    refine br (fun h => absurd rfl h) (fun _ => ?_)
    refine rd_add (by unfold I64; omega) ?_
    refine rd_indexN u48 ty93 h (by rw [mkLOrder_len]; exact hi) fun b1 o1 hA1 => ?_
    rw [hg] at hA1
    refine rd_fld fd93_1 ?_
    refine rd_loadI ty3 (at_DOrder_1 hA1) (hx.trans hx2) fun _ => ?_
    refine rd_neq ?_
    refine br (fun h => absurd rfl h) (fun _ => ?_)
    refine rd_add (by unfold I64; omega) ?_
    refine rd_indexN u48 ty93 h (by rw [mkLOrder_len]; exact hi) fun b2 o2 hA2 => ?_
    rw [hg] at hA2
    refine rd_fld fd93_2 ?_
    refine rd_loadI ty3 (at_DOrder_2 hA2) (hx.trans hx2) fun _ => ?_
    refine rd_neq ?_
    refine br (fun h => absurd rfl h) (fun _ => ?_)
    refine rd_add (by unfold I64; omega) ?_
    refine rd_inc (by omega) ?_
    exact ⟨m - 1, by omega, i + 1, by omega, by rw [hq]; simp only [List.cons.injEq, Value.int.injEq, true_and, and_true, Int.natCast_add, Int.natCast_one]; omega, hx2⟩
  · have : i = n := by omega
    subst this
    exact ⟨hx2, rfl⟩
end Go.Proofs.YtjgfldfbljmhhaaGreat
namespace Go.Proofs.YtjgfldfbljmhhaaGreat
open Go Go.Sh Go.Proofs
set_option linter.unusedVariables false
theorem cdOk_of13 {c : DCode} {n m : Int} (hm : m ≤ 1048576) (h : -1 ≤ n ∧ n ≤ m ∧ (0 ≤ n → n + wCode c ≤ m)) (hc : ¬ n < 0) : wCode c ≤ 1048576 := by
  have := h.2.2 (by omega); omega
/-- laws.FnExactOrdersOf -/
def F5 (a0 : Value) (w : World) (R : Value → World → Prop) : Prop :=
  OP Tryz.prog (Instr.box 26 a0) w fun x1 w =>
  RD Tryz.prog (Instr.loadAt 26 x1) w fun x11 =>
  CALL Tryz.prog 12 [x11, (Value.int .i64 1048576)] w fun x13 w =>
  RD Tryz.prog (bin .lss 3 (.tmp 0) (.const undef) x13 (Value.int .i64 0)) w fun x15 =>
  BR x15
   (R (Value.bool true) w)
   (RD Tryz.prog (Instr.loadAt 26 x1) w fun x16 =>
   CALL Tryz.prog 15 [x16] w fun x17 w =>
   CALL Tryz.prog 27 [x17] w fun x18 w =>
   RD Tryz.prog (Instr.loadAt 26 x1) w fun x19 =>
   CALL Tryz.prog 15 [x19] w fun x20 w =>
   OP Tryz.prog (Instr.alloc 35 true (.tuple #[])) w fun x5 w =>
   OPU Tryz.prog (Instr.storeAt 35 x5 x20) w fun w =>
   RD Tryz.prog (Instr.loadAt 35 x5) w fun x21 =>
   CALL Tryz.prog 28 [x21] w fun x22 w =>
   CALL Tryz.prog 29 [x22, x18] w fun x25 w =>
   RD Tryz.prog (Op.unary .not x25) w fun x26 =>
   BR x26
    (R (Value.bool false) w)
    ((fun w => RD Tryz.prog (Instr.loadAt 35 x5) w fun x27 =>
    RD Tryz.prog (Instr.loadAt 26 x1) w fun x28 =>
    (fun w_ => CALL Tryz.prog 15 [x28] w_ fun x29 w =>
    Ext w_ w ∧
    CALL Tryz.prog 18 [x27, x29] w fun x30 w =>
    RD Tryz.prog (Op.unary .not x30) w fun x31 =>
    BR x31
     (R (Value.bool false) w)
     (RD Tryz.prog (Instr.loadAt 35 x5) w fun x32 =>
     CALL Tryz.prog 24 [x32, (Value.int .i64 1)] w fun x34 w =>
     RD Tryz.prog (bin .lss 3 (.tmp 0) (.const undef) x34 (Value.int .i64 0)) w fun x36 =>
     BR x36
     (R (Value.bool false) w)
     (CALL Tryz.prog 29 [x22, x18] w fun x40 w =>
     RD Tryz.prog (Op.unary .not x40) w fun x41 =>
     BR x41
      (R (Value.bool false) w)
      (CALL Tryz.prog 30 [x22, (Value.int .i64 1)] w fun x45 w =>
      CALL Tryz.prog 31 [x22, (Value.int .i64 1)] w fun x48 w =>
      RD Tryz.prog (bin .lss 3 (.tmp 0) (.const undef) x48 (Value.int .i64 0)) w fun x50 =>
      BR x50
       (R (Value.bool false) w)
       (RD Tryz.prog (bin .neq 3 (.tmp 0) (.tmp 0) x48 x45) w fun x53 =>
       BR x53
        (R (Value.bool false) w)
        (RD Tryz.prog (Instr.loadAt 26 x1) w fun x54 =>
        CALL Tryz.prog 15 [x54] w fun x55 w =>
        CALL Tryz.prog 28 [x55] w fun x56 w =>
        CALL Tryz.prog 29 [x56, x18] w fun x59 w =>
        RD Tryz.prog (Op.unary .not x59) w fun x60 =>
        BR x60
         (R (Value.bool false) w)
         (CALL Tryz.prog 31 [x22, (Value.int .i64 1)] w fun x63 w =>
         RD Tryz.prog (bin .lss 3 (.tmp 0) (.const undef) x63 (Value.int .i64 0)) w fun x65 =>
         BR x65
          (R (Value.bool false) w)
          (RD Tryz.prog (bin .neq 3 (.tmp 0) (.tmp 0) x63 x45) w fun x68 =>
          BR x68
           (R (Value.bool false) w)
           (R (Value.bool true) w))))))))) w) (World.drew1 w)))
def cfg5 : Cfg := { ext := extL, joins := [], loops := [], draws := [(10, [0, 1, 2, 3, 4], 4)], pars := [] }
theorem F5_eq (a0 : Value) (w : World) (R : Value → World → Prop) : vcF Tryz.prog cfg5 Tryz.f5 [a0] w R = F5 a0 w R := by kernel_rfl
theorem F5_call {a0 : Value} {w : World} {R : Value → World → Prop} (h : F5 a0 w R) : CALL Tryz.prog 5 [a0] w R :=
  call_of (g := cfg5) ent mixed Tryz.func5 (Nat.le_of_ble_eq_true (by kernel_rfl)) (by kernel_rfl) (F5_eq a0 w R ▸ h)
theorem lawOrdersOf {w : World} {v0 : Value} {W0 : World} {c : DCode}  (h0 : Is W0 v0 c) (e0 : Ext W0 w)  :
    CALL Tryz.prog 5 [v0] w fun r w' => Ext w w' ∧ (r = .bool true) := by
  refine F5_call ?_
  unfold F5
  have hs_e0 := e0.size
  refine op_boxS ty26 rfl h0 e0 fun w1_ hx1_ hA1 hV1 => ?_
  have hs_hx1_ := hx1_.size
  refine rd_var hV1 (Ext.refl w1_) ?_
  refine (szCode_ok h0 (e0.trans hx1_) (by omega) (by omega)).mono ?_
  rintro _ w2_ ⟨hx2_, n13, rfl, hn13⟩
  have hs_hx2_ := hx2_.size
  refine rd_lss ?_
  refine br (fun c1 => ?_) (fun c1 => ?_)
  · refine ⟨(hx1_.trans hx2_), ?_⟩
    first | rfl | contradiction | (exfalso; omega)
  · have hcd := cdOk_of13 (by omega) hn13 c1
    have hlr := ordersL_len c
    refine rd_var hV1 hx2_ ?_
    refine (toCode_ok (h0.ext (e0.trans (hx1_.trans hx2_))) (by omega)).mono ?_
    rintro r17 w3_ ⟨hx3_, o17⟩
    have o17 := o17.toI
    have hs_hx3_ := hx3_.size
    refine (specOrdersOf_ok o17.is (Ext.refl w3_)).mono ?_
    rintro r18 w4_ ⟨hx4_, o18⟩
    have o18 := o18.toI
    have hs_hx4_ := hx4_.size
    refine rd_var hV1 (hx2_.trans (hx3_.trans hx4_)) ?_
    refine (toCode_ok (h0.ext (e0.trans (hx1_.trans (hx2_.trans (hx3_.trans hx4_))))) (by omega)).mono ?_
    rintro r20 w5_ ⟨hx5_, o20⟩
    have o20 := o20.toI
    have hs_hx5_ := hx5_.size
    refine op_var zl35 rfl ty35 rfl o20.is (Ext.refl w5_) fun w6_ hx6_ hA5 hV5 => ?_
    have hs_hx6_ := hx6_.size
    have hg5 := hV5.lt
    refine rd_var hV5 (Ext.refl w6_) ?_
    refine (implOrdersOf_ok o20.is hx6_).mono ?_
    rintro r22 w7_ ⟨hx7_, o22⟩
    have o22 := o22.toI
    have hs_hx7_ := hx7_.size
    refine (eqOrderS_ok o22.is (Ext.refl w7_) o18.is (hx5_.trans (hx6_.trans hx7_))).mono ?_
    rintro _ w8_ ⟨hx8_, rfl⟩
    have hs_hx8_ := hx8_.size
    refine rd_nodec ?_
    refine br (fun c2 => ?_) (fun c2 => ?_)
    · refine ⟨(hx1_.trans (hx2_.trans (hx3_.trans (hx4_.trans (hx5_.trans (hx6_.trans (hx7_.trans hx8_))))))), ?_⟩
      first | rfl | contradiction | (exfalso; omega)
    · have hx9_ := ext_drew w8_
      have hs_hx9_ := hx9_.size
      refine rd_var hV5 (hx7_.trans (hx8_.trans hx9_)) ?_
      refine rd_var hV1 (hx2_.trans (hx3_.trans (hx4_.trans (hx5_.trans (hx6_.trans (hx7_.trans (hx8_.trans hx9_))))))) ?_
      refine (toCode_ok (h0.ext (e0.trans (hx1_.trans (hx2_.trans (hx3_.trans (hx4_.trans (hx5_.trans (hx6_.trans (hx7_.trans (hx8_.trans hx9_)))))))))) (by omega)).mono ?_
      rintro r29 w10_ ⟨hx10_, o29⟩
      have o29 := o29.toI
      have hs_hx10_ := hx10_.size
      refine ⟨hx10_, ?_⟩
      refine (eqCode_ok o20.is (hx6_.trans (hx7_.trans (hx8_.trans (hx9_.trans hx10_)))) o29.is (Ext.refl w10_)).mono ?_
      rintro _ w11_ ⟨hx11_, rfl⟩
      have hs_hx11_ := hx11_.size
      refine rd_nodec ?_
      refine br (fun c3 => ?_) (fun c3 => ?_)
      · refine ⟨(hx1_.trans (hx2_.trans (hx3_.trans (hx4_.trans (hx5_.trans (hx6_.trans (hx7_.trans (hx8_.trans (hx9_.trans (hx10_.trans hx11_)))))))))), ?_⟩
        first | rfl | contradiction | (exfalso; omega)
      · refine rd_var hV5 (hx7_.trans (hx8_.trans (hx9_.trans (hx10_.trans hx11_)))) ?_
        refine (markCode_ok (o20.ext (hx6_.trans (hx7_.trans (hx8_.trans (hx9_.trans (hx10_.trans hx11_)))))) (by omega) (by omega) (by omega)).mono ?_
        rintro _ w12_ ⟨n34, rfl, hn34, hc12_⟩
        have hs_hc12_ := hc12_.size
        have o17_c12 := (o17.ext (hx4_.trans (hx5_.trans (hx6_.trans (hx7_.trans (hx8_.trans (hx9_.trans (hx10_.trans hx11_)))))))).chg hc12_ (by omega)
        have o18_c12 := (o18.ext (hx5_.trans (hx6_.trans (hx7_.trans (hx8_.trans (hx9_.trans (hx10_.trans hx11_))))))).chg hc12_ (by omega)
        have hV5_c12 := (hV5.ext (hx7_.trans (hx8_.trans (hx9_.trans (hx10_.trans hx11_))))).chgI hc12_ (by omega)
        have o22_c12 := (o22.ext (hx8_.trans (hx9_.trans (hx10_.trans hx11_)))).chg hc12_ (by omega)
        have o29_c12 := (o29.ext hx11_).chg hc12_ (by omega)
        refine rd_lss ?_
        refine br (fun c4 => ?_) (fun c4 => ?_)
        · refine ⟨(Ext.chgI ((((((((((hx1_.trans hx2_).trans hx3_).trans hx4_).trans hx5_).trans hx6_).trans hx7_).trans hx8_).trans hx9_).trans hx10_).trans hx11_) hc12_ (by omega)), ?_⟩
          first | rfl | contradiction | (exfalso; omega)
        · refine (eqOrderS_ok o22_c12.is (Ext.refl w12_) o18_c12.is (Ext.refl w12_)).mono ?_
          rintro _ w13_ ⟨hx13_, rfl⟩
          have hs_hx13_ := hx13_.size
          refine rd_nodec ?_
          refine br (fun c5 => ?_) (fun c5 => ?_)
          · refine ⟨((Ext.chgI ((((((((((hx1_.trans hx2_).trans hx3_).trans hx4_).trans hx5_).trans hx6_).trans hx7_).trans hx8_).trans hx9_).trans hx10_).trans hx11_) hc12_ (by omega)).trans hx13_), ?_⟩
            first | rfl | contradiction | (exfalso; omega)
          · refine (markOrderS_I (o22_c12.ext hx13_) (by omega) (by omega) (by omega)).mono ?_
            rintro _ w14_ ⟨rfl, hc14_, o22_c14⟩
            have hs_hc14_ := hc14_.size
            have o17_c14 := (o17_c12.ext hx13_).chg hc14_ (by omega)
            have o18_c14 := (o18_c12.ext hx13_).chg hc14_ (by omega)
            have o29_c14 := (o29_c12.ext hx13_).chg hc14_ (by omega)
            refine (heldOrderS_ok o22_c14.is (Ext.refl w14_) (by omega) (by omega) (by omega)).mono ?_
            rintro _ w15_ ⟨hx15_, rfl⟩
            have hs_hx15_ := hx15_.size
            refine rd_lss ?_
            refine br (fun c6 => ?_) (fun c6 => ?_)
            · refine ⟨((Ext.chgI ((Ext.chgI ((((((((((hx1_.trans hx2_).trans hx3_).trans hx4_).trans hx5_).trans hx6_).trans hx7_).trans hx8_).trans hx9_).trans hx10_).trans hx11_) hc12_ (by omega)).trans hx13_) hc14_ (by omega)).trans hx15_), ?_⟩
              first | rfl | contradiction | (exfalso; omega)
            · refine rd_neq ?_
              refine br (fun c7 => ?_) (fun c7 => ?_)
              · refine ⟨((Ext.chgI ((Ext.chgI ((((((((((hx1_.trans hx2_).trans hx3_).trans hx4_).trans hx5_).trans hx6_).trans hx7_).trans hx8_).trans hx9_).trans hx10_).trans hx11_) hc12_ (by omega)).trans hx13_) hc14_ (by omega)).trans hx15_), ?_⟩
                first | rfl | contradiction | (exfalso; omega)
              · refine rd_var hV1 ((Ext.chgI ((Ext.chgI (((((((((hx2_.trans hx3_).trans hx4_).trans hx5_).trans hx6_).trans hx7_).trans hx8_).trans hx9_).trans hx10_).trans hx11_) hc12_ (by omega)).trans hx13_) hc14_ (by omega)).trans hx15_) ?_
                refine (toCode_ok (h0.ext ((Ext.chgI ((Ext.chgI (((((((((((e0.trans hx1_).trans hx2_).trans hx3_).trans hx4_).trans hx5_).trans hx6_).trans hx7_).trans hx8_).trans hx9_).trans hx10_).trans hx11_) hc12_ (by omega)).trans hx13_) hc14_ (by omega)).trans hx15_)) (by omega)).mono ?_
                rintro r55 w16_ ⟨hx16_, o55⟩
                have o55 := o55.toI
                have hs_hx16_ := hx16_.size
                refine (implOrdersOf_ok o55.is (Ext.refl w16_)).mono ?_
                rintro r56 w17_ ⟨hx17_, o56⟩
                have o56 := o56.toI
                have hs_hx17_ := hx17_.size
                refine (eqOrderS_ok o56.is (Ext.refl w17_) o18_c14.is (hx15_.trans (hx16_.trans hx17_))).mono ?_
                rintro _ w18_ ⟨hx18_, rfl⟩
                have hs_hx18_ := hx18_.size
                refine rd_nodec ?_
                refine br (fun c8 => ?_) (fun c8 => ?_)
                · refine ⟨(((((Ext.chgI ((Ext.chgI ((((((((((hx1_.trans hx2_).trans hx3_).trans hx4_).trans hx5_).trans hx6_).trans hx7_).trans hx8_).trans hx9_).trans hx10_).trans hx11_) hc12_ (by omega)).trans hx13_) hc14_ (by omega)).trans hx15_).trans hx16_).trans hx17_).trans hx18_), ?_⟩
                  first | rfl | contradiction | (exfalso; omega)
                · refine (heldOrderS_ok o22_c14.is (hx15_.trans (hx16_.trans (hx17_.trans hx18_))) (by omega) (by omega) (by omega)).mono ?_
                  rintro _ w19_ ⟨hx19_, rfl⟩
                  have hs_hx19_ := hx19_.size
                  refine rd_lss ?_
                  refine br (fun c9 => ?_) (fun c9 => ?_)
                  · refine ⟨((((((Ext.chgI ((Ext.chgI ((((((((((hx1_.trans hx2_).trans hx3_).trans hx4_).trans hx5_).trans hx6_).trans hx7_).trans hx8_).trans hx9_).trans hx10_).trans hx11_) hc12_ (by omega)).trans hx13_) hc14_ (by omega)).trans hx15_).trans hx16_).trans hx17_).trans hx18_).trans hx19_), ?_⟩
                    first | rfl | contradiction | (exfalso; omega)
                  · refine rd_neq ?_
                    refine br (fun c10 => ?_) (fun c10 => ?_)
                    · refine ⟨((((((Ext.chgI ((Ext.chgI ((((((((((hx1_.trans hx2_).trans hx3_).trans hx4_).trans hx5_).trans hx6_).trans hx7_).trans hx8_).trans hx9_).trans hx10_).trans hx11_) hc12_ (by omega)).trans hx13_) hc14_ (by omega)).trans hx15_).trans hx16_).trans hx17_).trans hx18_).trans hx19_), ?_⟩
                      first | rfl | contradiction | (exfalso; omega)
                    · refine ⟨((((((Ext.chgI ((Ext.chgI ((((((((((hx1_.trans hx2_).trans hx3_).trans hx4_).trans hx5_).trans hx6_).trans hx7_).trans hx8_).trans hx9_).trans hx10_).trans hx11_) hc12_ (by omega)).trans hx13_) hc14_ (by omega)).trans hx15_).trans hx16_).trans hx17_).trans hx18_).trans hx19_), ?_⟩
                      first | rfl | contradiction | (exfalso; omega)
end Go.Proofs.YtjgfldfbljmhhaaGreat
namespace Go.Proofs.YtjgfldfbljmhhaaGreat
open Go Go.Sh Go.Proofs
theorem rdTerm : ∀ n, Reads Tryz.prog 123 DTerm n ∧ Reads Tryz.prog 121 (List DTerm) n
  | 0 => ⟨reads_zero, reads_zero⟩
  | n + 1 => ⟨reads_tup (reads_struct (α := Int × Int × ByteArray × List DTerm) us123 (by kernel_rfl)
      (.cons rfl (by kernel_rfl) (reads_int u3 n) (.cons rfl (by kernel_rfl) (reads_int u3 n) (.cons rfl (by kernel_rfl) (reads_str u9 n) (.one rfl (by kernel_rfl) (rdTerm n).2))))),
    reads_slice u121 (by kernel_rfl) (rdTerm n).1⟩
theorem rdStrs : ∀ n, Reads Tryz.prog 22 (List ByteArray) n := reads_all_slice u22 (by kernel_rfl) (reads_str u9)
theorem rdIns : ∀ n, Reads Tryz.prog 125 DIns n := fun n =>
  reads_via (g := fun p => ⟨p.1, p.2.1, p.2.2.1, p.2.2.2⟩) (fun _ => rfl) (reads_all_struct (α := Int × Int × DTerm × Int) us125 (by kernel_rfl)
    (fun n => .cons rfl (by kernel_rfl) (reads_int u3 n) (.cons rfl (by kernel_rfl) (reads_int u3 n) (.cons rfl (by kernel_rfl) (rdTerm n).1 (.one rfl (by kernel_rfl) (reads_int u3 n))))) n)
theorem rdInss : ∀ n, Reads Tryz.prog 24 (List DIns) n := reads_all_slice u24 (by kernel_rfl) rdIns
theorem rdIntsC : ∀ n, Reads Tryz.prog 23 (List Int) n := reads_all_slice u23 (by kernel_rfl) (reads_int u3)
theorem rdCode : ∀ n, Reads Tryz.prog 26 DCode n := fun n =>
  reads_via (g := fun p => ⟨p.1, p.2.1, p.2.2.1, p.2.2.2.1, p.2.2.2.2⟩) (fun _ => rfl) (reads_all_struct (α := List ByteArray × List ByteArray × List ByteArray × List Int × List DIns) us26 (by kernel_rfl)
    (fun n => .cons rfl (by kernel_rfl) (rdStrs n) (.cons rfl (by kernel_rfl) (rdStrs n) (.cons rfl (by kernel_rfl) (rdStrs n) (.cons rfl (by kernel_rfl) (rdIntsC n) (.one rfl (by kernel_rfl) (rdInss n)))))) n)
end Go.Proofs.YtjgfldfbljmhhaaGreat
namespace Go.Proofs.YtjgfldfbljmhhaaGreat
open Go
theorem and_tt {a b : Bool} (h : a = true) (k : b = true) : (a && b) = true := by rw [h, k]; rfl
theorem fa_laid : laidOutB Tryz.prog = true := by kernel_rfl
theorem fa_maps : mapsRowed Tryz.prog = true := by kernel_rfl
theorem fa_plain : (Rows.fnExactHeldRightRow.plainKeys == Tryz.prog.plainKeys) = true := by kernel_rfl
theorem fa_heard : Tryz.prog.stopsHeard = true := by kernel_rfl
theorem fa_may : Tryz.prog.mayEnter = true := by kernel_rfl
theorem fa_lift : (Rows.fnExactHeldRightRow.lifted == Tryz.prog.liftsFinal) = true := by kernel_rfl
theorem fa_make : (Tryz.prog.make == some Rows.fnExactHeldRightRow.make) = true := by kernel_rfl
end Go.Proofs.YtjgfldfbljmhhaaGreat
namespace Go.Proofs.YtjgfldfbljmhhaaGreat.fnExactOrdersOf
open Go.ChangeShapes Go.WideShapes Go.ChangeAt Go.RowKit Go.Sh
set_option linter.unusedVariables false
theorem own : ownKnob Tryz.prog.godebug = none := by kernel_rfl
theorem laidOut : laidOutB Tryz.prog = true := by kernel_rfl
set_option maxRecDepth 100000 in
theorem lifted (os : Os) (started : os.Started) (H : Type) (enc : TypeId × Value → H) :
    ReturnsInHanded {} Tryz.checked os 5 .any (Rows.fnExactOrdersOfSpec.pre6 enc Tryz.prog Tryz.f5 Rows.fnExactOrdersOfRow.domain false) (Rows.fnExactOrdersOfSpec.post enc Tryz.prog Tryz.f5 false true false false) := by
  refine returnsInHanded_of_change (C := Tryz.checked) own started (by kernel_rfl) Tryz.func5
    (ChangeSpec.witness6 (enc := enc) (C := Tryz.checked) false ⟨#[], #[.agg #[.slice none 0 0, .slice none 0 0, .slice none 0 0, .slice none 0 0, .slice none 0 0]], []⟩ 8 (by kernel_rfl) (by kernel_rfl) (by kernel_rfl) (by kernel_rfl)) ?_
  intro W base args ds gs before hval0 hW hcnd _
  have hval : ∀ (j : Nat) t v, Tryz.f5.params[j]? = some t → args[j]? = some v → Value.okWide Tryz.prog W .any base t v := hval0
  have hW' := hW
  obtain ⟨p, q, hA0, hV, rfl, hfz, hnd⟩ := hW
  have hA : DataW.TrodAll enc Tryz.prog W 0 (fun _ => true) true Tryz.f5.params.toList args.toList ds p := hA0
  rw [Tryz.params5] at hA hval
  obtain ⟨v0, vs0, d0, ds0, p0, q0, hargs, rfl, rfl, h0, r0⟩ := trodAll_cons hA
  obtain ⟨rfl, rfl, rfl⟩ := trodAll_nil r0
  obtain rfl : args = #[v0] := by cases args; simp_all
  obtain ⟨rfl, rfl⟩ := trodVars_none hV
  have lt0 : ∀ x ∈ p0, x.block < W.heap.size := by obtain ⟨m, hm⟩ := h0; exact DataW.trod_lt m _ _ _ hm
  obtain ⟨x0, i0⟩ := is_of_struct (α := DCode) us26 rfl rdCode (hval 0 26 v0 rfl rfl) h0
  clear hA0 hval0
  obtain ⟨hcall⟩ := lawOrdersOf i0 (Ext.refl W)
  refine hcall.mono fun e W' ⟨v, he, bel, hv⟩ => ?_
  subst he hv
  exact ⟨_, rfl, _, _, _, [], _, [], hW', trodAll_mk1 (shut_bool Tryz.underlying4 _), (trodAll_cons_mk (Below.trod laidOut (by kernel_rfl) (of_decide_eq_true (by kernel_rfl)) h0 bel lt0) trodAll_mk0), rfl, bel.frame _, fun h => by cases h⟩
theorem j_inPlace : (Rows.fnExactOrdersOfRow.inPlace == Tryz.prog.inPlace 5) = true := by kernel_rfl
theorem j_unfollowed : (Rows.fnExactOrdersOfRow.unfollowed == Tryz.prog.unfollowed 5) = true := by kernel_rfl
theorem j_recurses : (Rows.fnExactOrdersOfRow.recurses == Tryz.prog.recurses 5) = true := by kernel_rfl
theorem j_named : (Rows.fnExactOrdersOfRow.named == Tryz.prog.varsNamed 5) = true := by kernel_rfl
theorem closed : joinedFacts Tryz.prog 5 Tryz.f5 Rows.fnExactOrdersOfSpec Rows.fnExactOrdersOfRow = true := by
  unfold joinedFacts
  exact (and_tt (and_tt (and_tt (and_tt (and_tt (and_tt (and_tt (and_tt (and_tt (and_tt (and_tt (and_tt (and_tt (and_tt (and_tt (and_tt (and_tt (and_tt (and_tt (and_tt (and_tt (and_tt (and_tt (and_tt (and_tt (and_tt (and_tt (and_tt (and_tt (and_tt (and_tt (by kernel_rfl) fa_laid) fa_maps) (by kernel_rfl)) (by kernel_rfl)) (by kernel_rfl)) (by kernel_rfl)) (by kernel_rfl)) (by kernel_rfl)) j_inPlace) j_unfollowed) j_recurses) j_named) (by kernel_rfl)) (by kernel_rfl)) (by kernel_rfl)) (by kernel_rfl)) (by kernel_rfl)) (by kernel_rfl)) (by kernel_rfl)) (by kernel_rfl)) (by kernel_rfl)) fa_plain) (by kernel_rfl)) fa_heard) fa_may) fa_lift) fa_make) (by kernel_rfl)) (by kernel_rfl)) (by kernel_rfl)) (by kernel_rfl))
theorem over : Rows.fnExactOrdersOfRow.holds Tryz.pinned (OpenSpec.ofChange Rows.fnExactOrdersOfSpec) :=
  OpenClaim.holds_of_wide 5 Tryz.f5 rfl rfl rfl rfl rfl rfl rfl ⟨rfl, rfl, rfl, rfl, rfl⟩ rfl rfl rfl rfl rfl (by kernel_rfl) Tryz.func5 closed
    (of_decide_eq_true (by kernel_rfl)) (by unfold Func.isWrapper; first | (rw [if_pos (by decide +kernel)]; kernel_rfl) | (rw [if_neg (by decide +kernel)]; exact ⟨rfl, rfl⟩))
    (fun os started H enc _ => lifted os started H enc)
theorem proved : Rows.FnExactOrdersOfSaid := over
end Go.Proofs.YtjgfldfbljmhhaaGreat.fnExactOrdersOf
