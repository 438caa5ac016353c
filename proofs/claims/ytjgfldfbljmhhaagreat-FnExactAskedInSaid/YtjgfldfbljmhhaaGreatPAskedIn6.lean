/-
  The law FnExactAskedIn of the given program returns true for every input, and its arguments read afterwards as before: the given statement Rows.FnExactAskedInSaid.
-/
import Derived.Test.YtjgfldfbljmhhaaGreatPAskedIn5
namespace Go.Proofs.YtjgfldfbljmhhaaGreat
open Go Go.Sh Go.Proofs
set_option linter.unusedVariables false
/-- (*impl.world).orders -/
def F82 (a0 : Value) (w : World) (R : Value → World → Prop) : Prop :=
  CALL Tryz.prog 68 [a0] w fun x11 w =>
  CALL Tryz.prog 67 [a0, x11] w fun x14 w =>
  NIL a0 <|
  RD Tryz.prog (Instr.fieldAt 144 a0 0) w fun x17 =>
  RD Tryz.prog (Instr.fieldAt 35 x17 4) w fun x18 =>
  RD Tryz.prog (Instr.loadAt 33 x18) w fun x19 =>
  RD Tryz.prog (Builtin.len_ #[33] 3 [x19].toArray) w fun x20 =>
  LOOPI [5, 21] [(Value.slice none 0 0), (Value.int .i64 0)] w fun u5 w next5 =>
   RD Tryz.prog (bin .lss 3 (.tmp 0) (.tmp 0) (u5 21) x20) w fun x22 =>
   BR x22
    (RD Tryz.prog (Instr.indexAt 33 x19 (u5 21)) w fun x24 =>
    RD Tryz.prog (Instr.loadAt 136 x24) w fun x25 =>
    OP Tryz.prog (Instr.alloc 136 true (.tuple #[])) w fun x7 w =>
    OPU Tryz.prog (Instr.storeAt 136 x7 x25) w fun w =>
    RD Tryz.prog (Instr.fieldAt 136 x7 0) w fun x26 =>
    RD Tryz.prog (Instr.loadAt 3 x26) w fun x27 =>
    RD Tryz.prog (bin .neq 3 (.tmp 0) (.const undef) x27 (Value.int .i64 6)) w fun x28 =>
    BR x28
    (RD Tryz.prog (bin .add 3 (.tmp 0) (.const undef) (u5 21) (Value.int .i64 1)) w fun x55 =>
     next5 [(u5 5), x55] w)
    (RD Tryz.prog (Instr.indexAt 72 x11 (u5 21)) w fun x32 =>
    RD Tryz.prog (Instr.loadAt 4 x32) w fun x33 =>
    RD Tryz.prog (Op.unary .not x33) w fun x34 =>
    BR x34
     (RD Tryz.prog (bin .add 3 (.tmp 0) (.const undef) (u5 21) (Value.int .i64 1)) w fun x55 =>
     next5 [(u5 5), x55] w)
     (RD Tryz.prog (Instr.indexAt 23 x14 (u5 21)) w fun x38 =>
     RD Tryz.prog (Instr.loadAt 3 x38) w fun x39 =>
     CALL Tryz.prog 97 [x39] w fun x40 w =>
     RD Tryz.prog (Builtin.len_ #[23] 3 [x40].toArray) w fun x41 =>
     LOOPI [5, 42] [(u5 5), (Value.int .i64 0)] w fun u9 w next9 =>
      RD Tryz.prog (bin .lss 3 (.tmp 0) (.tmp 0) (u9 42) x41) w fun x43 =>
      BR x43
       (RD Tryz.prog (Instr.indexAt 23 x40 (u9 42)) w fun x44 =>
       RD Tryz.prog (Instr.loadAt 3 x44) w fun x45 =>
       RD Tryz.prog (Instr.fieldAt 136 x7 1) w fun x48 =>
       RD Tryz.prog (Instr.loadAt 3 x48) w fun x49 =>
       RD Tryz.prog (Instr.build 93 #[(0, x45), (1, x49), (2, (u5 21))]) w fun x51 =>
       OP Tryz.prog (Instr.buildSlice 48 1 #[(0, x51)]) w fun x52 w =>
       OP Tryz.prog (Builtin.append_ #[48, 48] 48 [(u9 5), x52].toArray) w fun x53 w =>
       RD Tryz.prog (bin .add 3 (.tmp 0) (.const undef) (u9 42) (Value.int .i64 1)) w fun x54 =>
       next9 [x53, x54] w)
       (RD Tryz.prog (bin .add 3 (.tmp 0) (.const undef) (u5 21) (Value.int .i64 1)) w fun x55 =>
       next5 [(u9 5), x55] w))))
    (CALL Tryz.prog 143 [(u5 5), (Value.func (.func 144) #[] #[])] w fun x57 w =>
    R (u5 5) w)
def cfg82 : Cfg := { ext := extL, joins := [], loops := [(5, 72057594035831520, [5, 21]), (9, 36024398972453408, [5, 42])], draws := [], pars := [] }
theorem F82_eq (a0 : Value) (w : World) (R : Value → World → Prop) : vcF Tryz.prog cfg82 Tryz.f82 [a0] w R = F82 a0 w R := by kernel_rfl
theorem F82_call {a0 : Value} {w : World} {R : Value → World → Prop} (h : F82 a0 w R) : CALL Tryz.prog 82 [a0] w R :=
  call_of (g := cfg82) ent mixed Tryz.func82 (Nat.le_of_ble_eq_true (by kernel_rfl)) (by kernel_rfl) (F82_eq a0 w R ▸ h)
set_option linter.unusedVariables false
set_option linter.unusedSimpArgs false
open Rep (rep)
theorem is_mkO {w : World} {a b d : Int} (ha : I64 a) (hb : I64 b) (hd : I64 d) : Is w (.agg #[.int .i64 a, .int .i64 b, .int .i64 d]) (⟨a, b, d⟩ : DOrder) :=
  ⟨[], _, ⟨[], [], [.int .i64 a], _, rfl, rfl, ⟨rfl, rfl, ha⟩, ⟨[], [], [.int .i64 b], _, rfl, rfl, ⟨rfl, rfl, hb⟩, ⟨rfl, rfl, hd⟩⟩⟩, rfl⟩
/-- a list that is appended to, behind the world wb -/
structure OI (wb w : World) (out : Value) (L : List DOrder) : Prop where
  ext : Ext wb w
  row : ∃ lo hi, wb.heap.size ≤ lo ∧ hi ≤ w.heap.size ∧ RowI lo hi 93 w out L
theorem OI.step {wb w w' : World} {out : Value} {L : List DOrder} (h : OI wb w out L) (hx : Ext w w') : OI wb w' out L := by
  obtain ⟨lo, hi, h1, h2, hr⟩ := h.row
  exact ⟨h.ext.trans hx, lo, hi, h1, Nat.le_trans h2 hx.size, hr.ext hx⟩
theorem OI.own {wb w : World} {out : Value} {L : List DOrder} (h : OI wb w out L) : Own wb.heap.size w out L := by
  obtain ⟨lo, hi, h1, h2, hr⟩ := h.row
  exact hr.own.own.mono (by omega)
theorem orders_ok {w W0 : World} {b : Nat} {c : DCode} (hW : WAt W0 b c) (e0 : Ext W0 w) (hc : CodeR c) :
    CALL Tryz.prog 82 [.pointer (some ⟨b, 0, none⟩)] w fun r w' => Ext w w' ∧ Own w.heap.size w' r (ordL c) := by
  refine F82_call ?_
  unfold F82
  have hil := hc.f.ins
  have hcode := hW.wl.code
  refine (met_ok hW e0 hc).mono ?_
  rintro v11 w1 ⟨hx1, ho1⟩
  refine (may_ok hW (e0.trans hx1) ho1.is (Ext.refl _) hc).mono ?_
  rintro v14 w2 ⟨hx2, ho2⟩
  have hx12 := hx1.trans hx2
  have hMe := ho1.is.ext hx2
  have hMa := ho2.is
  have hs12 := hx12.size
  refine NIL.mk rfl ?_
  refine rd_fld fd144_0 ?_
  refine rd_fld fd35_4 ?_
  refine rd_load ty33 (at_DCode_4 hcode) (e0.trans hx12) fun v19 h19 => ?_
  refine rd_len u33 h19 ?_
  have hml : (metN c).length = c.ins.length := by unfold metN; rw [setB_len]
  have hbl := ordB_len c
  have hO0 : OI w2 w2 (.slice none 0 0) (ordB c 0) := ⟨Ext.refl _, w2.heap.size, w2.heap.size, Nat.le_refl _, Nat.le_refl _, rowI_nil _ _ _ _⟩
  refine loopC c.ins.length (fun k us w' => ∃ out, us = [out, .int .i64 (k : Int)] ∧ k ≤ c.ins.length ∧ OI w2 w' out (ordB c k)) 0 (Nat.zero_le _) ⟨_, rfl, Nat.zero_le _, hO0⟩ ?_
  rintro k mk u w3 hkm ⟨out, hu, hkl, hO3⟩
  simp only [List.map_cons, List.map_nil, List.cons.injEq, and_true] at hu
  obtain ⟨hu1, hu2⟩ := hu
  rw [hu1, hu2]
  have hsuc : ordB c (k + 1) = ordB c k ++ ordA c k := range_flat k
  have hblk := hbl k
  refine rd_lss ?_
  refine br (fun hlt => ?_) (fun hge => ?_)
  case refine_2 =>
    have hke : k = c.ins.length := by omega
    rw [hke] at hO3 hblk
    obtain ⟨lo, hi, h1, h2, hr⟩ := hO3.row
    refine (sortO_ok hr.own (by omega)).mono ?_
    rintro _ w4 ⟨hc4, ho4⟩
    rw [srtO_ordB hc] at ho4
    exact ⟨(hx12.trans hO3.ext).chgI hc4 (by omega), ho4.own.mono (by omega)⟩
  have hk : k < c.ins.length := by omega
  refine rd_indexN u33 ty136 h19 hk fun b3 o3 hA3 => ?_
  rw [insAt_get] at hA3
  refine rd_load ty136 hA3 ((e0.trans hx12).trans hO3.ext) fun v25 h25 => ?_
  refine op_var zl136 rfl ty136 rfl h25 ((e0.trans hx12).trans hO3.ext) fun w4 hx4 hAI hV4 => ?_
  have hO4 := hO3.step hx4
  have hgl : w3.heap.size < w4.heap.size := hV4.lt
  have hAB4 := atB_box h25 hV4 rfl
  have hmk := mkd_get (ms := metN c) (i := k) (by rw [hml]; exact hk)
  have hiff : (metN c)[k] = true ↔ MetP c k := by
    rw [← hmk]; unfold metN; rw [mkd_setB]; exact ⟨fun h => h.2, fun h => ⟨by omega, h⟩⟩
  refine rd_fld fd136_0 ?_
  refine rd_loadI ty3 (at_DIns_0 hAI) (Ext.refl _) fun _ => ?_
  refine rd_neq ?_
  have hno : ¬ (MetP c k ∧ (insAt c k).op = 6) → ordB c (k + 1) = ordB c k := fun h => by
    rw [hsuc]; unfold ordA; rw [if_neg h, List.append_nil]
  refine br (fun hne => ?_) (fun heq => ?_)
  · refine rd_inc (by omega) ?_
    exact ⟨mk - 1, by omega, k + 1, by omega, out, rfl, by omega, by rw [hno fun h => hne h.2]; exact hO4⟩
  have h6 : (insAt c k).op = 6 := Decidable.not_not.1 heq
  refine rd_indexN u72 ty4 (i := k) hMe (by rw [hml]; exact hk) fun b4 o4 hA4 => ?_
  refine rd_loadB ty4 hA4 hO4.ext ?_
  refine rd_not ?_
  refine br_b (fun hf => ?_) (fun hf => ?_)
  · have hnm : ¬ MetP c k := fun h => by rw [hiff.2 h] at hf; cases hf
    refine rd_inc (by omega) ?_
    exact ⟨mk - 1, by omega, k + 1, by omega, out, rfl, by omega, by rw [hno fun h => hnm h.1]; exact hO4⟩
  have hMk : MetP c k := hiff.1 (by simpa using hf)
  have hag := (ag_lock hc hk (.inl h6)).1
  have hA : ordA c k = (bitsL (nat0 (mayN c) k)).map (ordW c k) := by unfold ordA; rw [if_pos ⟨hMk, h6⟩]
  rw [hA] at hsuc
  refine rd_indexN u23 ty3 (i := k) hMa (by rw [ints_len, mayN_len]; exact hk) fun b5 o5 hA5 => ?_
  rw [ints_nat0] at hA5
  refine rd_loadI ty3 hA5 hO4.ext fun _ => ?_
  have hm64 := nat0_lt (mayN_lt c) k
  generalize hmm : nat0 (mayN c) k = m at *
  refine (bitsOf_ok (m := m) (by omega)).mono ?_
  rintro v40 w5 ⟨hx5, ho5⟩
  have hO5 := hO4.step hx5
  have hBl := bitsTo_len m 64
  have hbL : (bitsL m).length ≤ 64 := hBl
  refine rd_len u23 ho5.is ?_
  obtain ⟨Fb, hmb, hFb⟩ := ho5
  have hs5 := hx5.size
  have hlb := hmb.lt
  refine loopC (bitsL m).length (fun j us w' => ∃ out', us = [out', .int .i64 (j : Int)] ∧ j ≤ (bitsL m).length ∧ Ext w2 w' ∧ w5.heap.size ≤ w'.heap.size ∧ Mine Fb w' v40 (bitsL m) ∧ AtB W0 w' w3.heap.size 0 (insAt c k) ∧ ∃ lo hi, w2.heap.size ≤ lo ∧ hi ≤ w'.heap.size ∧ RowI lo hi 93 w' out' (ordB c k ++ ((bitsL m).take j).map (ordW c k)) ∧ (w3.heap.size < lo ∨ hi ≤ w3.heap.size) ∧ ∀ b ∈ Fb, b < lo ∨ hi ≤ b) 0 (Nat.zero_le _) ⟨out, rfl, Nat.zero_le _, hO5.ext, Nat.le_refl _, hmb, hAB4.ext hx5, ?_⟩ ?_
  · obtain ⟨lo, hi, h1, h2, hr⟩ := hO3.row
    refine ⟨lo, hi, h1, by omega, by simpa using (hr.ext (hx4.trans hx5)), .inr h2, fun b hb => .inr ?_⟩
    have := hFb b hb
    omega
  rintro j mj u6 w6 hjm ⟨out6, hu6, hjl, hx26, hs56, hM6, hAB6, lo, hi, h1, h2, hr6, hd3, hdb⟩
  simp only [List.map_cons, List.map_nil, List.cons.injEq, and_true] at hu6
  obtain ⟨hu61, hu62⟩ := hu6
  rw [hu61, hu62]
  refine rd_lss ?_
  refine br (fun hlt6 => ?_) (fun hge6 => ?_)
  case refine_2 =>
    refine rd_inc (by omega) ?_
    refine ⟨mk - 1, by omega, k + 1, by omega, out6, rfl, by omega, ?_⟩
    rw [hsuc]
    rw [List.take_of_length_le (by omega)] at hr6
    exact ⟨hx26, lo, hi, h1, h2, hr6⟩
  have hj : j < (bitsL m).length := by omega
  refine rd_indexN u23 ty3 (i := j) hM6.is hj fun b6 o6 hA6 => ?_
  refine rd_loadI ty3 hA6 (Ext.refl _) fun _ => ?_
  have hAI6 := hAB6.at ((e0.trans hx12).trans hx26)
  refine rd_fld fd136_1 ?_
  refine rd_loadI ty3 (at_DIns_1 hAI6) (Ext.refl _) fun _ => ?_
  refine rd_build (cells := #[.int .i64 (bitsL m)[j], .int .i64 (insAt c k).arg, .int .i64 (k : Int)]) (by kernel_rfl) ?_
  obtain ⟨l, hl, hbit⟩ := (mem_bitsM hm64).1 (List.getElem_mem hj)
  have hl6 := bit_lt6 hm64 hbit
  have hW : ordW c k (bitsL m)[j] = ⟨(bitsL m)[j], (insAt c k).arg, k⟩ := by unfold ordW; rw [hag]
  have hag6 := (ag_lock hc hk (.inl h6)).2.2
  have hlen : (ordB c k ++ ((bitsL m).take j).map (ordW c k)).length ≤ 200000 := by
    simp only [List.length_append, List.length_map, List.length_take]; omega
  refine op_pushD1 (x := (⟨(bitsL m)[j], (insAt c k).arg, k⟩ : DOrder)) u48 ty93 z93 zc93 (by decide) hr6 (lo2 := 0) (hi2 := 0) (flat_own (is_mkO (by unfold I64; omega) (by unfold I64; omega) (by unfold I64; omega))) (by rw [maxLen_eq]; omega) (by omega) fun v' w' lo' hi' hc7 hr' hd7 => ?_
  have hs7 := hc7.size
  have hs26 := hx26.size
  refine rd_inc (by omega) ?_
  refine ⟨mj - 1, by omega, j + 1, by omega, v', rfl, by omega, hx26.chgI hc7 h1, by omega, hM6.keep fun b hb => ?_, hAB6.keep ?_, lo', hi', by omega, by omega, ?_, by omega, fun b hb => ?_⟩
  · exact hc7.block b (hM6.lt b hb) (hdb b hb)
  · exact hc7.block _ (by omega) hd3
  · rw [List.take_succ_eq_append_getElem hj, List.map_append, ← List.append_assoc]
    simp only [List.map_cons, List.map_nil]
    rw [hW]; exact hr'
  · have := hdb b hb
    have := hM6.lt b hb
    omega
end Go.Proofs.YtjgfldfbljmhhaaGreat
namespace Go.Proofs.YtjgfldfbljmhhaaGreat
open Go Go.Sh Go.Proofs
set_option linter.unusedVariables false
/-- spec.l19All -/
def F74 (a0 : Value) (w : World) (R : Value → World → Prop) : Prop :=
  OP Tryz.prog (Instr.box 35 a0) w fun x1 w =>
  OP Tryz.prog (Instr.buildSlice 48 0 #[]) w fun x8 w =>
  RD Tryz.prog (Instr.loadAt 35 x1) w fun x9 =>
  CALL Tryz.prog 57 [x9] w fun x10 w =>
  LOOPI [3, 5] [x8, (Value.int .i64 0)] w fun u4 w next4 =>
   RD Tryz.prog (Instr.fieldAt 35 x1 1) w fun x12 =>
   RD Tryz.prog (Instr.loadAt 22 x12) w fun x13 =>
   RD Tryz.prog (Builtin.len_ #[22] 3 [x13].toArray) w fun x14 =>
   RD Tryz.prog (bin .lss 3 (.tmp 0) (.tmp 0) (u4 5) x14) w fun x15 =>
   BR x15
    (LOOPI [3, 6] [(u4 3), (Value.int .i64 0)] w fun u7 w next7 =>
     RD Tryz.prog (Instr.fieldAt 35 x1 1) w fun x19 =>
     RD Tryz.prog (Instr.loadAt 22 x19) w fun x20 =>
     RD Tryz.prog (Builtin.len_ #[22] 3 [x20].toArray) w fun x21 =>
     RD Tryz.prog (bin .lss 3 (.tmp 0) (.tmp 0) (u7 6) x21) w fun x22 =>
     BR x22
      (LOOPI [3, 7] [(u7 3), (Value.int .i64 0)] w fun u10 w next10 =>
       RD Tryz.prog (Instr.fieldAt 35 x1 4) w fun x26 =>
       RD Tryz.prog (Instr.loadAt 33 x26) w fun x27 =>
       RD Tryz.prog (Builtin.len_ #[33] 3 [x27].toArray) w fun x28 =>
       RD Tryz.prog (bin .lss 3 (.tmp 0) (.tmp 0) (u10 7) x28) w fun x29 =>
       BR x29
        (NIL x10 <|
        RD Tryz.prog (Instr.fieldAt 74 x10 1) w fun x34 =>
        RD Tryz.prog (Instr.loadAt 72 x34) w fun x35 =>
        RD Tryz.prog (Instr.indexAt 72 x35 (u10 7)) w fun x37 =>
        RD Tryz.prog (Instr.loadAt 4 x37) w fun x38 =>
        BR x38
        (RD Tryz.prog (Instr.fieldAt 35 x1 4) w fun x40 =>
        RD Tryz.prog (Instr.loadAt 33 x40) w fun x41 =>
        RD Tryz.prog (Instr.indexAt 33 x41 (u10 7)) w fun x43 =>
        RD Tryz.prog (Instr.fieldAt 136 x43 0) w fun x44 =>
        RD Tryz.prog (Instr.loadAt 3 x44) w fun x45 =>
        RD Tryz.prog (bin .eql 3 (.tmp 0) (.const undef) x45 (Value.int .i64 6)) w fun x46 =>
        BR x46
        (RD Tryz.prog (Instr.fieldAt 35 x1 4) w fun x49 =>
        RD Tryz.prog (Instr.loadAt 33 x49) w fun x50 =>
        RD Tryz.prog (Instr.indexAt 33 x50 (u10 7)) w fun x52 =>
        RD Tryz.prog (Instr.fieldAt 136 x52 1) w fun x53 =>
        RD Tryz.prog (Instr.loadAt 3 x53) w fun x54 =>
        RD Tryz.prog (bin .eql 3 (.tmp 0) (.tmp 0) x54 (u7 6)) w fun x56 =>
        BR x56
        (NIL x10 <|
        RD Tryz.prog (Instr.fieldAt 74 x10 2) w fun x61 =>
        RD Tryz.prog (Instr.loadAt 23 x61) w fun x62 =>
        RD Tryz.prog (Instr.indexAt 23 x62 (u10 7)) w fun x64 =>
        RD Tryz.prog (Instr.loadAt 3 x64) w fun x65 =>
        CALL Tryz.prog 76 [x65, (u4 5)] w fun x67 w =>
        BR x67
         (RD Tryz.prog (Instr.build 93 #[(0, (u4 5)), (1, (u7 6)), (2, (u10 7))]) w fun x73 =>
         OP Tryz.prog (Instr.buildSlice 48 1 #[(0, x73)]) w fun x74 w =>
         OP Tryz.prog (Builtin.append_ #[48, 48] 48 [(u10 3), x74].toArray) w fun x75 w =>
         RD Tryz.prog (bin .add 3 (.tmp 0) (.const undef) (u10 7) (Value.int .i64 1)) w fun x31 =>
         next10 [x75, x31] w)
         (RD Tryz.prog (bin .add 3 (.tmp 0) (.const undef) (u10 7) (Value.int .i64 1)) w fun x31 =>
         next10 [(u10 3), x31] w))
        (RD Tryz.prog (bin .add 3 (.tmp 0) (.const undef) (u10 7) (Value.int .i64 1)) w fun x31 =>
         next10 [(u10 3), x31] w))
        (RD Tryz.prog (bin .add 3 (.tmp 0) (.const undef) (u10 7) (Value.int .i64 1)) w fun x31 =>
         next10 [(u10 3), x31] w))
        (RD Tryz.prog (bin .add 3 (.tmp 0) (.const undef) (u10 7) (Value.int .i64 1)) w fun x31 =>
         next10 [(u10 3), x31] w))
        (RD Tryz.prog (bin .add 3 (.tmp 0) (.const undef) (u7 6) (Value.int .i64 1)) w fun x24 =>
        next7 [(u10 3), x24] w))
      (RD Tryz.prog (bin .add 3 (.tmp 0) (.const undef) (u4 5) (Value.int .i64 1)) w fun x17 =>
      next4 [(u7 3), x17] w))
    (R (u4 3) w)
def cfg74 : Cfg := { ext := extL, joins := [], loops := [(4, 75557863725914323417320, [3, 5]), (7, 75557863725914323157192, [3, 6]), (10, 75557863725914289864840, [3, 7])], draws := [], pars := [] }
theorem F74_eq (a0 : Value) (w : World) (R : Value → World → Prop) : vcF Tryz.prog cfg74 Tryz.f74 [a0] w R = F74 a0 w R := by kernel_rfl
theorem F74_call {a0 : Value} {w : World} {R : Value → World → Prop} (h : F74 a0 w R) : CALL Tryz.prog 74 [a0] w R :=
  call_of (g := cfg74) ent mixed Tryz.func74 (Nat.le_of_ble_eq_true (by kernel_rfl)) (by kernel_rfl) (F74_eq a0 w R ▸ h)
/-- impl.OrdersOf -/
def F28 (a0 : Value) (w : World) (R : Value → World → Prop) : Prop :=
  OP Tryz.prog (Instr.box 35 a0) w fun x1 w =>
  RD Tryz.prog (Instr.loadAt 35 x1) w fun x6 =>
  CALL Tryz.prog 64 [x6] w fun x7 w =>
  RD Tryz.prog (Instr.extract x7 0) w fun x8 =>
  RD Tryz.prog (Instr.extract x7 1) w fun x9 =>
  RD Tryz.prog (Op.unary .not x9) w fun x11 =>
  BR x11
   (R (Value.slice none 0 0) w)
   (CALL Tryz.prog 82 [x8] w fun x13 w =>
   R x13 w)
def cfg28 : Cfg := { ext := extL, joins := [], loops := [], draws := [], pars := [] }
theorem F28_eq (a0 : Value) (w : World) (R : Value → World → Prop) : vcF Tryz.prog cfg28 Tryz.f28 [a0] w R = F28 a0 w R := by kernel_rfl
theorem F28_call {a0 : Value} {w : World} {R : Value → World → Prop} (h : F28 a0 w R) : CALL Tryz.prog 28 [a0] w R :=
  call_of (g := cfg28) ent mixed Tryz.func28 (Nat.le_of_ble_eq_true (by kernel_rfl)) (by kernel_rfl) (F28_eq a0 w R ▸ h)
set_option linter.unusedVariables false
set_option linter.unusedSimpArgs false
open Rep (rep)
theorem l19All_ok {w W0 : World} {v0 : Value} {c : DCode} (h0 : Is W0 v0 c) (e0 : Ext W0 w) (hc : CodeR c) :
    CALL Tryz.prog 74 [v0] w fun r w' => Ext w w' ∧ Own w.heap.size w' r (ordL c) := by
  refine F74_call ?_
  unfold F74
  have hil := hc.f.ins
  have h6l := hc.1.locks6
  refine op_box h0 e0 fun w1 hx1 hA => ?_
  refine op_build0I (α := DOrder) u48 ty93 fun a8 w2 hx2 hr2 => ?_
  have hx12 := hx1.trans hx2
  refine rd_load ty35 hA hx2 fun v9 h9 => ?_
  refine (l16All_ok h9 hx2 hc).mono ?_
  rintro _ w3 ⟨hx3, gw, rfl, hmet, hmay⟩
  have hx13 := hx12.trans hx3
  have hx23 := hx2.trans hx3
  have hs2 := hx12.size
  have hml : (metN c).length = c.ins.length := by unfold metN; rw [setB_len]
  generalize hwb : w3 = wb at *
  have hI0 : OI wb wb (.slice (some a8) 0 0) ((List.range 0).flatMap (ordI3 c)) := ⟨Ext.refl _, wb.heap.size, wb.heap.size, Nat.le_refl _, Nat.le_refl _, rowI_zcap _ _ _ _ _⟩
  refine loopC c.locks.length (fun k us w' => ∃ out, us = [out, .int .i64 (k : Int)] ∧ k ≤ c.locks.length ∧ OI wb w' out ((List.range k).flatMap (ordI3 c))) 0 (Nat.zero_le _) ⟨_, rfl, Nat.zero_le _, hI0⟩ ?_
  rintro fr mk u w4 hkm ⟨out, hu, hkl, hO4⟩
  simp only [List.map_cons, List.map_nil, List.cons.injEq, and_true] at hu
  obtain ⟨hu1, hu2⟩ := hu
  rw [hu1, hu2]
  refine rd_fld fd35_1 ?_
  refine rd_load ty22 (at_DCode_1 hA) (hx23.trans hO4.ext) fun v13 h13 => ?_
  refine rd_len u22 h13 ?_
  refine rd_lss ?_
  refine br (fun hlt => ?_) (fun hge => ?_)
  case refine_2 =>
    have hke : fr = c.locks.length := by omega
    rw [hke] at hO4
    exact ⟨hx13.trans hO4.ext, hO4.own.mono (by have := hx13.size; omega)⟩
  have hfr : fr < c.locks.length := by omega
  refine loopC c.locks.length (fun k us w' => ∃ out, us = [out, .int .i64 (k : Int)] ∧ k ≤ c.locks.length ∧ OI wb w' out ((List.range fr).flatMap (ordI3 c) ++ (List.range k).flatMap (ordI2 c fr))) 0 (Nat.zero_le _) ⟨_, rfl, Nat.zero_le _, by simpa using hO4⟩ ?_
  rintro to mk7 u7 w7 hkm7 ⟨out7, hu7, hkl7, hO7⟩
  simp only [List.map_cons, List.map_nil, List.cons.injEq, and_true] at hu7
  obtain ⟨hu71, hu72⟩ := hu7
  rw [hu71, hu72]
  refine rd_fld fd35_1 ?_
  refine rd_load ty22 (at_DCode_1 hA) (hx23.trans hO7.ext) fun v20 h20 => ?_
  refine rd_len u22 h20 ?_
  refine rd_lss ?_
  refine br (fun hlt7 => ?_) (fun hge7 => ?_)
  case refine_2 =>
    have hke : to = c.locks.length := by omega
    rw [hke] at hO7
    refine rd_inc (by omega) ?_
    exact ⟨mk - 1, by omega, fr + 1, by omega, out7, rfl, by omega, by rw [range_flat]; exact hO7⟩
  have hto : to < c.locks.length := by omega
  refine loopC c.ins.length (fun k us w' => ∃ out, us = [out, .int .i64 (k : Int)] ∧ k ≤ c.ins.length ∧ OI wb w' out ((List.range fr).flatMap (ordI3 c) ++ (List.range to).flatMap (ordI2 c fr) ++ (List.range k).flatMap (ordI1 c fr to))) 0 (Nat.zero_le _) ⟨_, rfl, Nat.zero_le _, by simpa using hO7⟩ ?_
  rintro i mk10 u10 w10 hkm10 ⟨out10, hu10, hkl10, hO10⟩
  simp only [List.map_cons, List.map_nil, List.cons.injEq, and_true] at hu10
  obtain ⟨hu101, hu102⟩ := hu10
  rw [hu101, hu102]
  have hx210 := hx23.trans hO10.ext
  refine rd_fld fd35_4 ?_
  refine rd_load ty33 (at_DCode_4 hA) hx210 fun v27 h27 => ?_
  refine rd_len u33 h27 ?_
  refine rd_lss ?_
  refine br (fun hlt10 => ?_) (fun hge10 => ?_)
  case refine_2 =>
    have hke : i = c.ins.length := by omega
    rw [hke] at hO10
    refine rd_inc (by omega) ?_
    exact ⟨mk7 - 1, by omega, to + 1, by omega, out10, rfl, by omega, by rw [range_flat, ← List.append_assoc]; exact hO10⟩
  have hi : i < c.ins.length := by omega
  have hsuc : (List.range fr).flatMap (ordI3 c) ++ (List.range to).flatMap (ordI2 c fr) ++ (List.range (i + 1)).flatMap (ordI1 c fr to) = (List.range fr).flatMap (ordI3 c) ++ (List.range to).flatMap (ordI2 c fr) ++ (List.range i).flatMap (ordI1 c fr to) ++ ordI1 c fr to i := by
    rw [range_flat, ← List.append_assoc]
  have hlen : ((List.range fr).flatMap (ordI3 c) ++ (List.range to).flatMap (ordI2 c fr) ++ (List.range i).flatMap (ordI1 c fr to)).length ≤ 100000 := by
    have h1 := ordP3_len hil h6l fr
    have h2 := ordP2_len hil fr to
    have h3 := ordP1_len c fr to i
    simp only [List.length_append]; omega
  generalize (List.range fr).flatMap (ordI3 c) ++ (List.range to).flatMap (ordI2 c fr) = Lp at *
  have hno : ¬ OrdP c fr to i → Lp ++ (List.range (i + 1)).flatMap (ordI1 c fr to) = Lp ++ (List.range i).flatMap (ordI1 c fr to) := fun h => by
    rw [hsuc]; unfold ordI1; rw [if_neg h, List.append_nil]
  have hyes : OrdP c fr to i → Lp ++ (List.range (i + 1)).flatMap (ordI1 c fr to) = Lp ++ (List.range i).flatMap (ordI1 c fr to) ++ [mkO fr to i] := fun h => by
    rw [hsuc]; congr 1; unfold ordI1; rw [if_pos h]
  refine NIL.mk rfl ?_
  refine rd_fld fd74_1 ?_
  refine rd_load ty72 hmet hO10.ext fun v35 hMe => ?_
  have hmk := mkd_get (ms := metN c) (i := i) (by rw [hml]; exact hi)
  have hiff : (metN c)[i] = true ↔ MetP c i := by
    rw [← hmk]; unfold metN; rw [mkd_setB]; exact ⟨fun h => h.2, fun h => ⟨by omega, h⟩⟩
  refine rd_indexN u72 ty4 (i := i) hMe (by rw [hml]; exact hi) fun b4 o4 hA4 => ?_
  refine rd_loadB ty4 hA4 hO10.ext ?_
  refine br_b (fun ht => ?_) (fun hf => ?_)
  case refine_2 =>
    have hnm : ¬ MetP c i := fun h => by rw [hiff.2 h] at hf; cases hf
    refine rd_inc (by omega) ?_
    exact ⟨mk10 - 1, by omega, i + 1, by omega, out10, rfl, by omega, by rw [hno fun h => hnm h.1]; exact hO10⟩
  have hM := hiff.1 ht
  refine rd_fld fd35_4 ?_
  refine rd_load ty33 (at_DCode_4 hA) hx210 fun v41 h41 => ?_
  refine rd_indexN u33 ty136 h41 hi fun b3 o3 hA3 => ?_
  rw [insAt_get] at hA3
  refine rd_fld fd136_0 ?_
  refine rd_loadI ty3 (at_DIns_0 hA3) hx210 fun _ => ?_
  refine rd_eql ?_
  refine br (fun h6 => ?_) (fun h6 => ?_)
  case refine_2 =>
    refine rd_inc (by omega) ?_
    exact ⟨mk10 - 1, by omega, i + 1, by omega, out10, rfl, by omega, by rw [hno fun h => h6 h.2.1]; exact hO10⟩
  obtain ⟨hag, _, hag6⟩ := ag_lock hc hi (.inl h6)
  refine rd_fld fd35_4 ?_
  refine rd_load ty33 (at_DCode_4 hA) hx210 fun v50 h50 => ?_
  refine rd_indexN u33 ty136 h50 hi fun b5 o5 hA5 => ?_
  rw [insAt_get] at hA5
  refine rd_fld fd136_1 ?_
  refine rd_loadI ty3 (at_DIns_1 hA5) hx210 fun _ => ?_
  refine rd_eql ?_
  refine br (fun hto' => ?_) (fun hto' => ?_)
  case refine_2 =>
    refine rd_inc (by omega) ?_
    exact ⟨mk10 - 1, by omega, i + 1, by omega, out10, rfl, by omega, by rw [hno fun h => hto' (by rw [hag, h.2.2.1])]; exact hO10⟩
  refine NIL.mk rfl ?_
  refine rd_fld fd74_2 ?_
  refine rd_load ty23 hmay hO10.ext fun v62 hMa => ?_
  refine rd_indexN u23 ty3 (i := i) hMa (by rw [ints_len, mayN_len]; exact hi) fun b6 o6 hA6 => ?_
  rw [ints_nat0] at hA6
  refine rd_loadI ty3 hA6 hO10.ext fun _ => ?_
  have hm64 := nat0_lt (mayN_lt c) i
  refine (l12In_ok (m := nat0 (mayN c) i) (i := fr) (by omega) (by omega)).mono ?_
  rintro _ w11 ⟨hx11, rfl⟩
  have hbit : (nat0 (mayN c) i).testBit fr = true ↔ MayP c i fr := by
    rw [mayN_at hi, m6_bit]; exact ⟨fun h => h.2, fun h => ⟨by omega, h⟩⟩
  have hO11 := hO10.step hx11
  refine br_b (fun hb => ?_) (fun hb => ?_)
  case refine_2 =>
    refine rd_inc (by omega) ?_
    exact ⟨mk10 - 1, by omega, i + 1, by omega, out10, rfl, by omega, by rw [hno fun h => by rw [hbit.2 h.2.2.2] at hb; cases hb]; exact hO11⟩
  have hP : OrdP c fr to i := ⟨hM, h6, by omega, hbit.1 hb⟩
  refine rd_build (cells := #[.int .i64 fr, .int .i64 to, .int .i64 i]) (by kernel_rfl) ?_
  obtain ⟨lo, hi', h1, h2, hr⟩ := hO11.row
  refine op_pushD1 (x := (mkO fr to i : DOrder)) u48 ty93 z93 zc93 (by decide) hr (lo2 := 0) (hi2 := 0) (flat_own (is_mkO (by unfold I64; omega) (by unfold I64; omega) (by unfold I64; omega))) (by rw [maxLen_eq]; omega) (by omega) fun v' w' lo' hi2' hc7 hr' hd7 => ?_
  have hs7 := hc7.size
  have hs11 := hO11.ext.size
  refine rd_inc (by omega) ?_
  refine ⟨mk10 - 1, by omega, i + 1, by omega, v', rfl, by omega, hO11.ext.chgI hc7 h1, lo', hi2', by omega, by omega, ?_⟩
  rw [hyes hP]; exact hr'
open Classical in
/-- the orders of any code -/
noncomputable def ordersL (c : DCode) : List DOrder := if CodeR c then ordL c else []
theorem ordersL_len (c : DCode) : (ordersL c).length ≤ 54000 := by
  unfold ordersL; split
  · rename_i h; exact ordL_len h
  · simp
theorem implOrdersOf_ok {w W0 : World} {v0 : Value} {c : DCode} (h0 : Is W0 v0 c) (e0 : Ext W0 w) :
    CALL Tryz.prog 28 [v0] w fun r w' => Ext w w' ∧ Own w.heap.size w' r (ordersL c) := by
  refine F28_call ?_
  unfold F28
  refine op_box h0 e0 fun w1 hx1 hA => ?_
  refine rd_load ty35 hA (Ext.refl _) fun v6 h6 => ?_
  refine (worldOf_ok h6 (Ext.refl _)).mono ?_
  rintro r7 w2 ⟨hx2, hr⟩
  have hs1 := hx1.size
  have hs2 := hx2.size
  rcases hr with ⟨hn, rfl⟩ | ⟨hc, b, rfl, hW⟩
  · refine rd_extract rfl ?_
    refine rd_extract rfl ?_
    refine rd_not ?_
    refine br_b (fun _ => ?_) (fun h => by cases h)
    refine ⟨hx1.trans hx2, ?_⟩
    unfold ordersL; rw [if_neg hn]
    exact own_nil rfl
  refine rd_extract rfl ?_
  refine rd_extract rfl ?_
  refine rd_not ?_
  refine br_b (fun h => by cases h) (fun _ => ?_)
  refine (orders_ok hW (Ext.refl _) hc).mono ?_
  rintro v13 w3 ⟨hx3, ho3⟩
  refine ⟨hx1.trans (hx2.trans hx3), ?_⟩
  unfold ordersL; rw [if_pos hc]
  exact ho3.mono (by omega)
end Go.Proofs.YtjgfldfbljmhhaaGreat
namespace Go.Proofs.YtjgfldfbljmhhaaGreat
open Go Go.Sh Go.Proofs
set_option linter.unusedVariables false
theorem mem_take_succ {l : List Int} {k : Nat} {y : Int} (hk : k < l.length) (h : y ∉ l.take k) (c : ¬ l[k] = y) : y ∉ l.take (k + 1) := by
  rw [List.take_succ_eq_append_getElem hk]
  simp only [List.mem_append, List.mem_cons, List.not_mem_nil, or_false, not_or]
  exact ⟨h, fun e => c e.symm⟩
/-- slices.Index[[]int,int] -/
def F140 (a0 a1 : Value) (w : World) (R : Value → World → Prop) : Prop :=
  RD Tryz.prog (Builtin.len_ #[23] 3 [a0].toArray) w fun x7 =>
  LOOPI [8] [(Value.int .i64 0)] w fun u2 w next2 =>
   RD Tryz.prog (bin .lss 3 (.tmp 0) (.tmp 0) (u2 8) x7) w fun x9 =>
   BR x9
    (RD Tryz.prog (Instr.indexAt 23 a0 (u2 8)) w fun x14 =>
    RD Tryz.prog (Instr.loadAt 3 x14) w fun x15 =>
    RD Tryz.prog (bin .eql 3 (.tmp 0) (.tmp 0) a1 x15) w fun x16 =>
    BR x16
     (R (u2 8) w)
     (RD Tryz.prog (bin .add 3 (.tmp 0) (.const undef) (u2 8) (Value.int .i64 1)) w fun x18 =>
     next2 [x18] w))
    (R (Value.int .i64 (-1)) w)
def cfg140 : Cfg := { ext := extL, joins := [], loops := [(2, 524080, [8])], draws := [], pars := [] }
theorem F140_eq (a0 a1 : Value) (w : World) (R : Value → World → Prop) : vcF Tryz.prog cfg140 Tryz.f140 [a0, a1] w R = F140 a0 a1 w R := by kernel_rfl
theorem F140_call {a0 a1 : Value} {w : World} {R : Value → World → Prop} (h : F140 a0 a1 w R) : CALL Tryz.prog 140 [a0, a1] w R :=
  call_of (g := cfg140) ent mixed Tryz.func140 (Nat.le_of_ble_eq_true (by kernel_rfl)) (by kernel_rfl) (F140_eq a0 a1 w R ▸ h)
theorem indexInt_ok {w : World} {v0 : Value} {W0 : World} {l : (List Int)} {y : Int}  (h0 : Is W0 v0 l) (e0 : Ext W0 w)  :
    CALL Tryz.prog 140 [v0, .int .i64 y] w fun r w' => Ext w w' ∧ (∃ n : Int, r = .int .i64 n ∧ (0 ≤ n ↔ y ∈ l)) := by
  refine F140_call ?_
  unfold F140
  have hln7 := is_len h0
  refine rd_len u23 h0 ?_
  refine loopC (l.length) (fun k us w' => us = [.int .i64 (k : Int)] ∧ Ext w w' ∧ (y ∉ l.take k)) (0) (by omega) ⟨by simp, Ext.refl w, by simp⟩ ?_
  rintro k m2 uu2 w1_ hk2 ⟨hu, hx1_, hinv⟩
  simp only [List.map_cons, List.map_nil, List.cons.injEq, and_true] at hu
  try rw [hu]
  try clear hu
  refine rd_lss ?_
  refine br (fun c1 => ?_) (fun c1 => ?_)
  · refine rd_indexN u23 ty3 h0 (by omega) fun b14 o14 h14 => ?_
    refine rd_loadI ty3 h14 (e0.trans hx1_) fun hI15 => ?_
    refine rd_eql ?_
    refine br (fun c2 => ?_) (fun c2 => ?_)
    · refine ⟨hx1_, ?_⟩
      have : y ∈ l := c2 ▸ List.getElem_mem _
      exact ⟨_, rfl, by simp [this]⟩
    · refine rd_inc (by omega) ?_
      refine ⟨m2 - 1, by omega, k + 1, by omega, by simp, hx1_, ?_⟩
      exact mem_take_succ (by omega) hinv (fun e => c2 e.symm)
  · refine ⟨hx1_, ?_⟩
    rw [List.take_of_length_le (by omega)] at hinv
    exact ⟨-1, rfl, by simp [hinv]⟩
/-- slices.Contains[[]int,int] -/
def F78 (a0 a1 : Value) (w : World) (R : Value → World → Prop) : Prop :=
  CALL Tryz.prog 140 [a0, a1] w fun x7 w =>
  RD Tryz.prog (bin .geq 3 (.tmp 0) (.const undef) x7 (Value.int .i64 0)) w fun x8 =>
  R x8 w
def cfg78 : Cfg := { ext := extL, joins := [], loops := [], draws := [], pars := [] }
theorem F78_eq (a0 a1 : Value) (w : World) (R : Value → World → Prop) : vcF Tryz.prog cfg78 Tryz.f78 [a0, a1] w R = F78 a0 a1 w R := by kernel_rfl
theorem F78_call {a0 a1 : Value} {w : World} {R : Value → World → Prop} (h : F78 a0 a1 w R) : CALL Tryz.prog 78 [a0, a1] w R :=
  call_of (g := cfg78) ent mixed Tryz.func78 (Nat.le_of_ble_eq_true (by kernel_rfl)) (by kernel_rfl) (F78_eq a0 a1 w R ▸ h)
theorem containsInt_ok {w : World} {v0 : Value} {W0 : World} {l : (List Int)} {y : Int}  (h0 : Is W0 v0 l) (e0 : Ext W0 w)  :
    CALL Tryz.prog 78 [v0, .int .i64 y] w fun r w' => Ext w w' ∧ (r = .bool (decide (y ∈ l))) := by
  refine F78_call ?_
  unfold F78
  refine (indexInt_ok h0 e0).mono ?_
  rintro _ w1_ ⟨hx1_, n7, rfl, hn7⟩
  refine rd_geq ?_
  refine ⟨hx1_, ?_⟩
  simp [hn7]
end Go.Proofs.YtjgfldfbljmhhaaGreat
namespace Go.Proofs.YtjgfldfbljmhhaaGreat
open Go Go.Sh Go.Proofs
set_option linter.unusedVariables false
/-- spec.SetOf -/
def F75 (a0 : Value) (w : World) (R : Value → World → Prop) : Prop :=
  LOOPI [3, 4] [(Value.int .i64 0), (Value.int .i64 0)] w fun u3 w next3 =>
   RD Tryz.prog (Builtin.len_ #[23] 3 [a0].toArray) w fun x7 =>
   RD Tryz.prog (bin .lss 3 (.tmp 0) (.tmp 0) (u3 4) x7) w fun x8 =>
   BR x8
    (RD Tryz.prog (Instr.indexAt 23 a0 (u3 4)) w fun x13 =>
    RD Tryz.prog (Instr.loadAt 3 x13) w fun x14 =>
    CALL Tryz.prog 122 [x14, (Value.int .i64 0), (Value.int .i64 5)] w fun x15 w =>
    BR x15
     (RD Tryz.prog (Instr.indexAt 23 a0 (u3 4)) w fun x19 =>
     RD Tryz.prog (Instr.loadAt 3 x19) w fun x20 =>
     CALL Tryz.prog 119 [x20] w fun x21 w =>
     RD Tryz.prog (bin .or 3 (.tmp 0) (.tmp 0) (u3 3) x21) w fun x22 =>
     RD Tryz.prog (bin .add 3 (.tmp 0) (.const undef) (u3 4) (Value.int .i64 1)) w fun x10 =>
     next3 [x22, x10] w)
     (RD Tryz.prog (bin .add 3 (.tmp 0) (.const undef) (u3 4) (Value.int .i64 1)) w fun x10 =>
     next3 [(u3 3), x10] w))
    (R (u3 3) w)
def cfg75 : Cfg := { ext := extL, joins := [], loops := [(3, 8388600, [3, 4])], draws := [], pars := [] }
theorem F75_eq (a0 : Value) (w : World) (R : Value → World → Prop) : vcF Tryz.prog cfg75 Tryz.f75 [a0] w R = F75 a0 w R := by kernel_rfl
theorem F75_call {a0 : Value} {w : World} {R : Value → World → Prop} (h : F75 a0 w R) : CALL Tryz.prog 75 [a0] w R :=
  call_of (g := cfg75) ent mixed Tryz.func75 (Nat.le_of_ble_eq_true (by kernel_rfl)) (by kernel_rfl) (F75_eq a0 w R ▸ h)
/-- impl.marked -/
def F79 (a0 : Value) (w : World) (R : Value → World → Prop) : Prop :=
  RD Tryz.prog (Builtin.len_ #[72] 3 [a0].toArray) w fun x7 =>
  LOOPI [3, 8] [(Value.slice none 0 0), (Value.int .i64 0)] w fun u3 w next3 =>
   RD Tryz.prog (bin .lss 3 (.tmp 0) (.tmp 0) (u3 8) x7) w fun x9 =>
   BR x9
    (RD Tryz.prog (Instr.indexAt 72 a0 (u3 8)) w fun x11 =>
    RD Tryz.prog (Instr.loadAt 4 x11) w fun x12 =>
    BR x12
     (OP Tryz.prog (Instr.buildSlice 23 1 #[(0, (u3 8))]) w fun x16 w =>
     OP Tryz.prog (Builtin.append_ #[23, 23] 23 [(u3 3), x16].toArray) w fun x17 w =>
     RD Tryz.prog (bin .add 3 (.tmp 0) (.const undef) (u3 8) (Value.int .i64 1)) w fun x18 =>
     next3 [x17, x18] w)
     (RD Tryz.prog (bin .add 3 (.tmp 0) (.const undef) (u3 8) (Value.int .i64 1)) w fun x18 =>
     next3 [(u3 3), x18] w))
    (R (u3 3) w)
def cfg79 : Cfg := { ext := extL, joins := [], loops := [(3, 524088, [3, 8])], draws := [], pars := [] }
theorem F79_eq (a0 : Value) (w : World) (R : Value → World → Prop) : vcF Tryz.prog cfg79 Tryz.f79 [a0] w R = F79 a0 w R := by kernel_rfl
theorem F79_call {a0 : Value} {w : World} {R : Value → World → Prop} (h : F79 a0 w R) : CALL Tryz.prog 79 [a0] w R :=
  call_of (g := cfg79) ent mixed Tryz.func79 (Nat.le_of_ble_eq_true (by kernel_rfl)) (by kernel_rfl) (F79_eq a0 w R ▸ h)
/-- spec.AskedIn -/
def F20 (a0 a1 : Value) (w : World) (R : Value → World → Prop) : Prop :=
  OP Tryz.prog (Instr.box 35 a0) w fun x2 w =>
  RD Tryz.prog (Instr.loadAt 35 x2) w fun x9 =>
  CALL Tryz.prog 73 [x9] w fun x10 w =>
  RD Tryz.prog (Op.unary .not x10) w fun x11 =>
  BR x11
   (OP Tryz.prog (Instr.buildSlice 23 0 #[]) w fun x12 w =>
   R x12 w)
   (RD Tryz.prog (Instr.fieldAt 35 x2 4) w fun x13 =>
   RD Tryz.prog (Instr.loadAt 33 x13) w fun x14 =>
   RD Tryz.prog (Builtin.len_ #[33] 3 [x14].toArray) w fun x15 =>
   OP Tryz.prog (Instr.makeSlice 72 x15 x15) w fun x16 w =>
   RD Tryz.prog (Instr.loadAt 35 x2) w fun x17 =>
   CALL Tryz.prog 74 [x17] w fun x18 w =>
   CALL Tryz.prog 75 [a1] w fun x20 w =>
   LOOPI [8] [(Value.int .i64 0)] w fun u7 w next7 =>
    RD Tryz.prog (Builtin.len_ #[48] 3 [x18].toArray) w fun x23 =>
    RD Tryz.prog (bin .lss 3 (.tmp 0) (.tmp 0) (u7 8) x23) w fun x24 =>
    BR x24
     (RD Tryz.prog (Instr.indexAt 48 x18 (u7 8)) w fun x30 =>
     RD Tryz.prog (Instr.fieldAt 93 x30 0) w fun x31 =>
     RD Tryz.prog (Instr.loadAt 3 x31) w fun x32 =>
     CALL Tryz.prog 76 [x20, x32] w fun x33 w =>
     BR x33
     (RD Tryz.prog (Instr.indexAt 48 x18 (u7 8)) w fun x38 =>
     RD Tryz.prog (Instr.fieldAt 93 x38 1) w fun x39 =>
     RD Tryz.prog (Instr.loadAt 3 x39) w fun x40 =>
     CALL Tryz.prog 76 [x20, x40] w fun x41 w =>
     BR x41
      (RD Tryz.prog (Instr.indexAt 48 x18 (u7 8)) w fun x46 =>
      RD Tryz.prog (Instr.fieldAt 93 x46 2) w fun x47 =>
      RD Tryz.prog (Instr.loadAt 3 x47) w fun x48 =>
      RD Tryz.prog (Instr.indexAt 72 x16 x48) w fun x49 =>
      OPU Tryz.prog (Instr.storeAt 4 x49 (Value.bool true)) w fun w =>
      RD Tryz.prog (bin .add 3 (.tmp 0) (.const undef) (u7 8) (Value.int .i64 1)) w fun x26 =>
      next7 [x26] w)
      (RD Tryz.prog (bin .add 3 (.tmp 0) (.const undef) (u7 8) (Value.int .i64 1)) w fun x26 =>
      next7 [x26] w))
     (RD Tryz.prog (bin .add 3 (.tmp 0) (.const undef) (u7 8) (Value.int .i64 1)) w fun x26 =>
      next7 [x26] w))
     (CALL Tryz.prog 77 [x16] w fun x51 w =>
     R x51 w))
def cfg20 : Cfg := { ext := extL, joins := [], loops := [(7, 1125899904745728, [8])], draws := [], pars := [] }
theorem F20_eq (a0 a1 : Value) (w : World) (R : Value → World → Prop) : vcF Tryz.prog cfg20 Tryz.f20 [a0, a1] w R = F20 a0 a1 w R := by kernel_rfl
theorem F20_call {a0 a1 : Value} {w : World} {R : Value → World → Prop} (h : F20 a0 a1 w R) : CALL Tryz.prog 20 [a0, a1] w R :=
  call_of (g := cfg20) ent mixed Tryz.func20 (Nat.le_of_ble_eq_true (by kernel_rfl)) (by kernel_rfl) (F20_eq a0 a1 w R ▸ h)
/-- impl.AskedIn -/
def F22 (a0 a1 : Value) (w : World) (R : Value → World → Prop) : Prop :=
  OP Tryz.prog (Instr.box 35 a0) w fun x2 w =>
  RD Tryz.prog (Instr.fieldAt 35 x2 4) w fun x8 =>
  RD Tryz.prog (Instr.loadAt 33 x8) w fun x9 =>
  RD Tryz.prog (Builtin.len_ #[33] 3 [x9].toArray) w fun x10 =>
  OP Tryz.prog (Instr.makeSlice 72 x10 x10) w fun x11 w =>
  RD Tryz.prog (Instr.loadAt 35 x2) w fun x12 =>
  CALL Tryz.prog 28 [x12] w fun x13 w =>
  RD Tryz.prog (Builtin.len_ #[48] 3 [x13].toArray) w fun x14 =>
  LOOPI [15] [(Value.int .i64 0)] w fun u3 w next3 =>
   RD Tryz.prog (bin .lss 3 (.tmp 0) (.tmp 0) (u3 15) x14) w fun x16 =>
   BR x16
    (RD Tryz.prog (Instr.indexAt 48 x13 (u3 15)) w fun x17 =>
    RD Tryz.prog (Instr.loadAt 93 x17) w fun x18 =>
    OP Tryz.prog (Instr.alloc 93 true (.tuple #[])) w fun x7 w =>
    OPU Tryz.prog (Instr.storeAt 93 x7 x18) w fun w =>
    RD Tryz.prog (Instr.fieldAt 93 x7 0) w fun x20 =>
    RD Tryz.prog (Instr.loadAt 3 x20) w fun x21 =>
    CALL Tryz.prog 78 [a1, x21] w fun x22 w =>
    BR x22
    (RD Tryz.prog (Instr.fieldAt 93 x7 1) w fun x25 =>
    RD Tryz.prog (Instr.loadAt 3 x25) w fun x26 =>
    CALL Tryz.prog 78 [a1, x26] w fun x27 w =>
    BR x27
     (RD Tryz.prog (Instr.fieldAt 93 x7 2) w fun x30 =>
     RD Tryz.prog (Instr.loadAt 3 x30) w fun x31 =>
     RD Tryz.prog (Instr.indexAt 72 x11 x31) w fun x32 =>
     OPU Tryz.prog (Instr.storeAt 4 x32 (Value.bool true)) w fun w =>
     RD Tryz.prog (bin .add 3 (.tmp 0) (.const undef) (u3 15) (Value.int .i64 1)) w fun x33 =>
     next3 [x33] w)
     (RD Tryz.prog (bin .add 3 (.tmp 0) (.const undef) (u3 15) (Value.int .i64 1)) w fun x33 =>
     next3 [x33] w))
    (RD Tryz.prog (bin .add 3 (.tmp 0) (.const undef) (u3 15) (Value.int .i64 1)) w fun x33 =>
     next3 [x33] w))
    (CALL Tryz.prog 79 [x11] w fun x35 w =>
    R x35 w)
def cfg22 : Cfg := { ext := extL, joins := [], loops := [(3, 17179836544, [15])], draws := [], pars := [] }
theorem F22_eq (a0 a1 : Value) (w : World) (R : Value → World → Prop) : vcF Tryz.prog cfg22 Tryz.f22 [a0, a1] w R = F22 a0 a1 w R := by kernel_rfl
theorem F22_call {a0 a1 : Value} {w : World} {R : Value → World → Prop} (h : F22 a0 a1 w R) : CALL Tryz.prog 22 [a0, a1] w R :=
  call_of (g := cfg22) ent mixed Tryz.func22 (Nat.le_of_ble_eq_true (by kernel_rfl)) (by kernel_rfl) (F22_eq a0 a1 w R ▸ h)
set_option linter.unusedVariables false
set_option linter.unusedSimpArgs false
open Rep (rep)
/-- among the first k orders there is one of these locks at the place -/
def askK (L : List DOrder) (part : List Int) (k i : Nat) : Prop := ∃ x ∈ L.take k, x.fr ∈ part ∧ x.to ∈ part ∧ x.at_ = (i : Int)
theorem askK_succ {L : List DOrder} {part : List Int} {k i : Nat} (hk : k < L.length) : askK L part (k + 1) i ↔ askK L part k i ∨ (L[k].fr ∈ part ∧ L[k].to ∈ part ∧ L[k].at_ = (i : Int)) := by
  unfold askK
  rw [List.take_succ_eq_append_getElem hk]
  constructor
  · rintro ⟨x, hx, h⟩
    rcases List.mem_append.1 hx with hx | hx
    · exact .inl ⟨x, hx, h⟩
    · simp only [List.mem_cons, List.not_mem_nil, or_false] at hx
      subst hx; exact .inr h
  · rintro (⟨x, hx, h⟩ | h)
    · exact ⟨x, List.mem_append.2 (.inl hx), h⟩
    · exact ⟨_, List.mem_append.2 (.inr (by simp)), h⟩
/-- where a lock is asked for while another of the set is held -/
noncomputable def askedL (c : DCode) (part : List Int) : List Int := ints (setL c.ins.length (askK (ordersL c) part (ordersL c).length))
theorem setL_none {n : Nat} {p : Nat → Prop} (h : ∀ i, ¬ p i) : setL n p = [] := by
  rw [← idxM_setB]
  unfold idxM
  rw [List.filter_eq_nil_iff]
  intro i hi hb
  exact h i (mkd_setB.1 hb).2
theorem askedL_none {c : DCode} {part : List Int} (hc : ¬ CodeR c) : askedL c part = [] := by
  unfold askedL ordersL
  rw [if_neg hc, setL_none]
  · rfl
  · rintro i ⟨x, hx, _⟩; simp at hx
theorem askedL_len (c : DCode) (part : List Int) : (askedL c part).length ≤ c.ins.length := by
  unfold askedL
  rw [ints_len, ← idxM_setB]
  exact idxM_len _ _
theorem ordersL_at {c : DCode} (hc : CodeR c) {k : Nat} (hk : k < (ordersL c).length) : ∃ fr to i : Nat, (ordersL c)[k] = mkO fr to i ∧ fr < 6 ∧ to < 6 ∧ i < c.ins.length := by
  have hm : (ordersL c)[k] ∈ ordersL c := List.getElem_mem _
  generalize (ordersL c)[k] = x at hm ⊢
  unfold ordersL at hm
  rw [if_pos hc] at hm
  obtain ⟨fr, to, i, h, e⟩ := (mem_ordL hc).1 hm
  have h6 := hc.1.locks6
  have h1 := h.2.2.2.locks hc
  have hi := h.1.lt hc
  have h2 := (ag_lock hc hi (.inl h.2.1)).2.1
  have h3 := h.2.2.1
  exact ⟨fr, to, i, e, by omega, by omega, hi⟩
theorem setOf_ok {w W0 : World} {v0 : Value} {l : List Int} (h0 : Is W0 v0 l) (e0 : Ext W0 w) (hn : l.length ≤ 1048576) :
    CALL Tryz.prog 75 [v0] w fun r w' => Ext w w' ∧ r = .int .i64 ((m6 fun i => (i : Int) ∈ l : Nat) : Int) := by
  refine F75_call ?_
  unfold F75
  have hz : (m6 fun i => (i : Int) ∈ l.take 0) = 0 := (eq_m6 (by omega) fun i hi => by simp).symm
  refine loopC l.length (fun k us w' => us = [.int .i64 ((m6 fun i => (i : Int) ∈ l.take k : Nat) : Int), .int .i64 (k : Int)] ∧ k ≤ l.length ∧ Ext w w') 0 (Nat.zero_le _) ⟨by rw [hz]; rfl, Nat.zero_le _, Ext.refl _⟩ ?_
  rintro k mk u w2 hkm ⟨hu, hkl, hx2⟩
  simp only [List.map_cons, List.map_nil, List.cons.injEq, and_true] at hu
  obtain ⟨hu1, hu2⟩ := hu
  rw [hu1, hu2]
  refine rd_len u23 h0 ?_
  refine rd_lss ?_
  refine br (fun hlt => ?_) (fun hge => ?_)
  case refine_2 =>
    rw [List.take_of_length_le (by omega)]
    exact ⟨hx2, rfl⟩
  have hk : k < l.length := by omega
  have hm64 := m6_lt (p := fun i => (i : Int) ∈ l.take k)
  refine rd_indexN u23 ty3 h0 hk fun b2 o2 hA2 => ?_
  refine rd_loadI ty3 hA2 (e0.trans hx2) fun _ => ?_
  refine (l01In_ok (a := l[k]) (b := 0) (c := 5)).mono ?_
  rintro _ w3 ⟨hx3, rfl⟩
  have hx13 := hx2.trans hx3
  refine br_b (fun hf => ?_) (fun hf => ?_)
  · have hf' := of_decide_eq_true hf
    obtain ⟨x, hx⟩ : ∃ x : Nat, l[k] = (x : Int) := ⟨l[k].toNat, by omega⟩
    rw [hx] at hA2
    refine rd_indexN u23 ty3 h0 hk fun b3 o3 hA3 => ?_
    rw [hx] at hA3
    refine rd_loadI ty3 hA3 (e0.trans hx13) fun _ => ?_
    refine (l12Bit_ok (i := x) (by omega)).mono ?_
    rintro _ w4 ⟨hx4, rfl⟩
    have hx6 : x < 6 := by omega
    have hp : 2 ^ x < 64 := Nat.lt_of_lt_of_le (Nat.pow_lt_pow_right (by omega) hx6) (by omega)
    refine rd_or (by omega) (by omega) ?_
    refine rd_inc (by omega) ?_
    refine ⟨mk - 1, by omega, k + 1, by omega, ?_, by omega, hx13.trans hx4⟩
    have : (m6 fun i => (i : Int) ∈ l.take k) ||| 2 ^ x = m6 fun i => (i : Int) ∈ l.take (k + 1) := eq_m6 (by
      have := Nat.or_lt_two_pow (x := m6 fun i => (i : Int) ∈ l.take k) (y := 2 ^ x) (n := 6) hm64 hp
      omega) fun i hi => by
      rw [Nat.testBit_or, Bool.or_eq_true, m6_bit, Nat.testBit_two_pow, List.take_succ_eq_append_getElem hk, List.mem_append, hx]
      simp only [List.mem_singleton, decide_eq_true_eq, hi, true_and]
      exact or_congr Iff.rfl ⟨fun e => by omega, fun e => by omega⟩
    rw [this]
  · have hf' := of_decide_eq_false hf
    refine rd_inc (by omega) ?_
    refine ⟨mk - 1, by omega, k + 1, by omega, ?_, by omega, hx13⟩
    have : (m6 fun i => (i : Int) ∈ l.take k) = m6 fun i => (i : Int) ∈ l.take (k + 1) := m6_congr fun i hi => by
      rw [List.take_succ_eq_append_getElem hk, List.mem_append]
      simp only [List.mem_singleton]
      exact ⟨.inl, fun h => h.resolve_right fun e => hf' (by omega)⟩
    rw [this]
theorem marked_ok {w W0 : World} {v0 : Value} {ms : List Bool} (h0 : Is W0 v0 ms) (e0 : Ext W0 w) (hn : ms.length ≤ 2000000) :
    CALL Tryz.prog 79 [v0] w fun r w' => Ext w w' ∧ Own w.heap.size w' r (ints (idxM ms ms.length)) := by
  refine F79_call ?_
  unfold F79
  refine rd_len u72 h0 ?_
  refine loopC ms.length (fun k us w' => ∃ (v : Value), us = [v, .int .i64 (k : Int)] ∧ k ≤ ms.length ∧ Ext w w' ∧ RowI w.heap.size w'.heap.size 3 w' v (ints (idxM ms k))) 0 (Nat.zero_le _) ⟨_, rfl, Nat.zero_le _, Ext.refl _, rowI_nil _ _ _ _⟩ ?_
  rintro k mk u w2 hkm ⟨v, hu, hkl, hx2, hr2⟩
  simp only [List.map_cons, List.map_nil, List.cons.injEq, and_true] at hu
  obtain ⟨hu1, hu2⟩ := hu
  rw [hu1, hu2]
  refine rd_lss ?_
  refine br (fun hlt => ?_) (fun hge => ?_)
  case refine_2 =>
    have : k = ms.length := by omega
    rw [this] at hr2
    exact ⟨hx2, hr2.own.own⟩
  have hk : k < ms.length := by omega
  have hs2 := hx2.size
  have hg : ms.getD k false = ms[k] := by rw [List.getD_eq_getElem?_getD, List.getElem?_eq_getElem hk]; rfl
  have hil := idxM_len ms k
  refine rd_indexN u72 ty4 h0 hk fun b2 o2 hA2 => ?_
  refine rd_loadB ty4 hA2 (e0.trans hx2) ?_
  refine br_b (fun hf => ?_) (fun hf => ?_)
  · refine op_push (lo2 := w2.heap.size) (hi2 := w2.heap.size) (x := (k : Int)) u23 ty3 z3 zc3 (by decide) hr2 hs2 (ownI_int _ _ (by unfold I64; omega)) (Nat.le_refl _) hs2 (by rw [maxLen_eq, ints_len]; omega) (by rw [ints_len]; omega) fun v54 w9 hc9 hr9 => ?_
    refine rd_inc (by omega) ?_
    refine ⟨mk - 1, by omega, k + 1, by omega, v54, rfl, by omega, hx2.chgI hc9 (Nat.le_refl _), ?_⟩
    rw [idxM_succ, hg, hf, if_pos rfl, ints_append]
    exact hr9
  · refine rd_inc (by omega) ?_
    refine ⟨mk - 1, by omega, k + 1, by omega, v, rfl, by omega, hx2, ?_⟩
    rw [idxM_succ, hg, hf]
    simpa using hr2
theorem ask_start {n : Nat} {L : List DOrder} {part : List Int} : List.replicate n false = setB n (askK L part 0) :=
  replicate_setB n fun i => by rintro ⟨x, hx, _⟩; simp at hx
theorem ask_old {n k : Nat} {L : List DOrder} {part : List Int} (hk : k < L.length) (h : ¬ (L[k].fr ∈ part ∧ L[k].to ∈ part)) : setB n (askK L part (k + 1)) = setB n (askK L part k) := by
  refine congrArg (setB n) (funext fun i => propext ?_)
  rw [askK_succ hk]
  exact ⟨fun e => e.resolve_right fun e => h ⟨e.1, e.2.1⟩, .inl⟩
theorem ask_new {n k i : Nat} {L : List DOrder} {part : List Int} (hk : k < L.length) (h : L[k].fr ∈ part ∧ L[k].to ∈ part) (hi : L[k].at_ = (i : Int)) (hin : i < n) : (setB n (askK L part k)).set i true = setB n (askK L part (k + 1)) :=
  setB_set hin fun j => by
    rw [askK_succ hk, hi]
    exact or_congr Iff.rfl ⟨fun e => by omega, fun e => ⟨h.1, h.2, by rw [e]⟩⟩
theorem specAskedIn_ok {w W0 W1 : World} {v0 v1 : Value} {c : DCode} {part : List Int} (h0 : Is W0 v0 c) (e0 : Ext W0 w) (h1 : Is W1 v1 part) (e1 : Ext W1 w) (hpl : part.length ≤ 1048576) :
    CALL Tryz.prog 20 [v0, v1] w fun r w' => Ext w w' ∧ Own w.heap.size w' r (askedL c part) := by
  refine F20_call ?_
  unfold F20
  refine op_box h0 e0 fun w1 hx1 hA => ?_
  refine rd_load ty35 hA (Ext.refl _) fun v9 h9 => ?_
  refine (specCodeOk_ok h9 (Ext.refl _)).mono ?_
  rintro _ w2 ⟨hx2, rfl⟩
  have hs1 := hx1.size
  have hs2 := hx2.size
  refine rd_nodec ?_
  refine br (fun hn => ?_) (fun hy => ?_)
  · refine op_build0I (α := Int) u23 ty3 fun a8 w3 hx3 hr3 => ?_
    refine ⟨hx1.trans (hx2.trans hx3), ?_⟩
    rw [askedL_none hn]
    exact hr3.own.own.mono (by have := hx3.size; omega)
  have hc := Decidable.not_not.1 hy
  have hil := hc.f.ins
  have hlr := ordersL_len c
  have hin0 : 0 < c.ins.length := by
    have := hc.1.procs8
    have := (zN_end hc this.2).2.2
    omega
  refine rd_fld fd35_4 ?_
  refine rd_load ty33 (at_DCode_4 hA) hx2 fun v14 h14 => ?_
  refine rd_len u33 h14 ?_
  refine op_makeB hin0 (by omega) fun w3 hx3 hM3 => ?_
  have hs3 := hx3.size
  generalize hg : w2.heap.size = g at *
  have hgl : g < w3.heap.size := hM3.lt g (by simp)
  refine rd_load ty35 hA (hx2.trans hx3) fun v17 h17 => ?_
  refine (l19All_ok h17 (hx2.trans hx3) hc).mono ?_
  rintro v18 w4 ⟨hx4, ho4⟩
  have hol : ordL c = ordersL c := by unfold ordersL; rw [if_pos hc]
  rw [hol] at ho4
  refine (setOf_ok h1 (e1.trans (hx1.trans (hx2.trans (hx3.trans hx4)))) hpl).mono ?_
  rintro _ w5 ⟨hx5, rfl⟩
  have hs4 := hx4.size
  have hs5 := hx5.size
  have hO5 := ho4.ext hx5
  have hM5 := hM3.ext (hx4.trans hx5)
  rw [ask_start (L := ordersL c) (part := part)] at hM5
  have hm64 := m6_lt (p := fun i => (i : Int) ∈ part)
  have hbits : ∀ l, l < 6 → ((m6 fun i => (i : Int) ∈ part).testBit l = true ↔ (l : Int) ∈ part) := fun l hl => m6_bit.trans ⟨fun h => h.2, fun h => ⟨hl, h⟩⟩
  generalize (m6 fun i => (i : Int) ∈ part) = sm at *
  have hx15 := hx2.trans (hx3.trans (hx4.trans hx5))
  refine loopC (ordersL c).length (fun k us w' => us = [.int .i64 (k : Int)] ∧ k ≤ (ordersL c).length ∧ ChgI g (g + 1) w5 w' ∧ Mine [g] w' (.slice (some ⟨g, 0, none⟩) c.ins.length c.ins.length) (setB c.ins.length (askK (ordersL c) part k))) 0 (Nat.zero_le _) ⟨rfl, Nat.zero_le _, ChgI.refl _, hM5⟩ ?_
  rintro k mk u w6 hkm ⟨hu, hkl, hc6, hM6⟩
  simp only [List.map_cons, List.map_nil, List.cons.injEq, and_true] at hu
  rw [hu]
  have hoI := (hO5.toI).chg hc6 (.inr (by omega))
  have hs6 := hc6.size
  refine rd_len u48 hoI.is ?_
  refine rd_lss ?_
  refine br (fun hlt => ?_) (fun hge => ?_)
  case refine_2 =>
    have hke : k = (ordersL c).length := by omega
    rw [hke] at hM6
    refine (l09Marked_ok hM6.is (Ext.refl _) (by rw [setB_len]; omega)).mono ?_
    rintro v51 w7 ⟨hx7, ho7⟩
    rw [setB_len, idxM_setB] at ho7
    exact ⟨((hx1.trans hx15).chgI hc6 (by omega)).trans hx7, ho7.mono (by omega)⟩
  have hk : k < (ordersL c).length := by omega
  obtain ⟨fr, to, i, hx, hfr, hto, hi⟩ := ordersL_at hc hk
  refine rd_indexN u48 ty93 hoI.is hk fun b2 o2 hA2 => ?_
  rw [hx] at hA2
  refine rd_fld fd93_0 ?_
  refine rd_loadI ty3 (at_DOrder_0 hA2) (Ext.refl _) fun _ => ?_
  refine (l12In_ok (m := sm) (i := fr) (by omega) (by omega)).mono ?_
  rintro _ w7 ⟨hx7, rfl⟩
  have hc7 := hc6.trans hx7.toI
  have hM7 := hM6.ext hx7
  refine br_b (fun hf => ?_) (fun hf => ?_)
  case refine_2 =>
    refine rd_inc (by omega) ?_
    refine ⟨mk - 1, by omega, k + 1, by omega, rfl, by omega, hc7, ?_⟩
    rw [ask_old hk fun h => by
      have := (hbits fr hfr).2 (by have := h.1; rw [hx] at this; exact this)
      rw [this] at hf; cases hf]
    exact hM7
  refine rd_indexN u48 ty93 hoI.is hk fun b3 o3 hA3 => ?_
  rw [hx] at hA3
  refine rd_fld fd93_1 ?_
  refine rd_loadI ty3 (at_DOrder_1 hA3) hx7 fun _ => ?_
  refine (l12In_ok (m := sm) (i := to) (by omega) (by omega)).mono ?_
  rintro _ w8 ⟨hx8, rfl⟩
  have hc8 := hc7.trans hx8.toI
  have hM8 := hM7.ext hx8
  have hx78 := hx7.trans hx8
  refine br_b (fun ht => ?_) (fun ht => ?_)
  case refine_2 =>
    refine rd_inc (by omega) ?_
    refine ⟨mk - 1, by omega, k + 1, by omega, rfl, by omega, hc8, ?_⟩
    rw [ask_old hk fun h => by
      have := (hbits to hto).2 (by have := h.2; rw [hx] at this; exact this)
      rw [this] at ht; cases ht]
    exact hM8
  refine rd_indexN u48 ty93 hoI.is hk fun b4 o4 hA4 => ?_
  rw [hx] at hA4
  refine rd_fld fd93_2 ?_
  refine rd_loadI ty3 (at_DOrder_2 hA4) hx78 fun _ => ?_
  refine rd_elt (α := Bool) (i := i) rfl u72 ty4 hi ?_
  refine opu_elt (α := Bool) rfl ty4 hM8 setB_len hi mine_boolT fun w9 hc9 hM9 => ?_
  have hc9' : ChgI g (g + 1) w8 w9 := hc9.toI fun b hb => by simp only [List.mem_cons, List.not_mem_nil, or_false] at hb; omega
  refine rd_inc (by omega) ?_
  refine ⟨mk - 1, by omega, k + 1, by omega, rfl, by omega, hc8.trans hc9', ?_⟩
  rw [← ask_new hk (i := i) ⟨by rw [hx]; exact (hbits fr hfr).1 hf, by rw [hx]; exact (hbits to hto).1 ht⟩ (by rw [hx]; rfl) hi]
  exact hM9
theorem ins_wCode (c : DCode) : c.ins.length ≤ wCode c := by unfold wCode wIns; omega
theorem implAskedIn_ok {w W0 W1 : World} {v0 v1 : Value} {c : DCode} {part : List Int} (h0 : Is W0 v0 c) (e0 : Ext W0 w) (h1 : Is W1 v1 part) (e1 : Ext W1 w) (hw : wCode c ≤ 1048576) :
    CALL Tryz.prog 22 [v0, v1] w fun r w' => Ext w w' ∧ Own w.heap.size w' r (askedL c part) := by
  refine F22_call ?_
  unfold F22
  have hiw := ins_wCode c
  refine op_box h0 e0 fun w1 hx1 hA => ?_
  refine rd_fld fd35_4 ?_
  refine rd_load ty33 (at_DCode_4 hA) (Ext.refl _) fun v9 h9 => ?_
  refine rd_len u33 h9 ?_
  have hs1 := hx1.size
  by_cases hc : CodeR c
  case neg =>
    refine op_makeZ (α := Bool) u72 ty4 rfl rfl zlBf (by omega) (by omega) fun w2 hx2 hr2 => ?_
    have hs2 := hx2.size
    refine rd_load ty35 hA hx2 fun v12 h12 => ?_
    refine (implOrdersOf_ok h12 hx2).mono ?_
    rintro v13 w3 ⟨hx3, ho3⟩
    have hol : ordersL c = [] := by unfold ordersL; rw [if_neg hc]
    rw [hol] at ho3
    refine rd_len u48 ho3.is ?_
    refine loopC 0 (fun k us w' => us = [.int .i64 (0 : Int)] ∧ w' = w3) 0 (Nat.zero_le _) ⟨rfl, rfl⟩ ?_
    rintro k mk u w4 hkm ⟨hu, rfl⟩
    simp only [List.map_cons, List.map_nil, List.cons.injEq, and_true] at hu
    rw [hu]
    refine rd_lss ?_
    refine br (fun hlt => by simp at hlt) (fun hge => ?_)
    refine (marked_ok (ms := List.replicate c.ins.length false) (hr2.is.ext hx3) (Ext.refl _) (by rw [List.length_replicate]; omega)).mono ?_
    rintro v35 w5 ⟨hx5, ho5⟩
    have hs3 := hx3.size
    have : idxM (List.replicate c.ins.length false) (List.replicate c.ins.length false).length = [] := by
      rw [replicate_setB (p := fun _ => False) _ (fun _ h => h), setB_len, idxM_setB, setL_none fun _ h => h]
    refine ⟨hx1.trans (hx2.trans (hx3.trans hx5)), ?_⟩
    rw [askedL_none hc]
    rw [this] at ho5
    exact ho5.mono (by omega)
  have hil := hc.f.ins
  have hlr := ordersL_len c
  have hin0 : 0 < c.ins.length := by
    have := hc.1.procs8
    have := (zN_end hc this.2).2.2
    omega
  refine op_makeB hin0 (by omega) fun w3 hx3 hM3 => ?_
  have hs3 := hx3.size
  generalize hg : w1.heap.size = g at *
  have hgl : g < w3.heap.size := hM3.lt g (by simp)
  refine rd_load ty35 hA hx3 fun v17 h17 => ?_
  refine (implOrdersOf_ok h17 hx3).mono ?_
  rintro v18 w5 ⟨hx4, ho4⟩
  have hs5 := hx4.size
  have hM5 := hM3.ext hx4
  rw [ask_start (L := ordersL c) (part := part)] at hM5
  have hx15 := hx3.trans hx4
  refine rd_len u48 ho4.is ?_
  refine loopC (ordersL c).length (fun k us w' => us = [.int .i64 (k : Int)] ∧ k ≤ (ordersL c).length ∧ ChgI g (g + 1) w5 w' ∧ Mine [g] w' (.slice (some ⟨g, 0, none⟩) c.ins.length c.ins.length) (setB c.ins.length (askK (ordersL c) part k))) 0 (Nat.zero_le _) ⟨rfl, Nat.zero_le _, ChgI.refl _, hM5⟩ ?_
  rintro k mk u w6 hkm ⟨hu, hkl, hc6, hM6⟩
  simp only [List.map_cons, List.map_nil, List.cons.injEq, and_true] at hu
  rw [hu]
  have hoI := (ho4.toI).chg hc6 (.inr (by omega))
  have hs6 := hc6.size
  have hx06 : Ext w w6 := (hx1.trans hx15).chgI hc6 (by omega)
  refine rd_lss ?_
  refine br (fun hlt => ?_) (fun hge => ?_)
  case refine_2 =>
    have hke : k = (ordersL c).length := by omega
    rw [hke] at hM6
    refine (marked_ok hM6.is (Ext.refl _) (by rw [setB_len]; omega)).mono ?_
    rintro v51 w7 ⟨hx7, ho7⟩
    rw [setB_len, idxM_setB] at ho7
    exact ⟨hx06.trans hx7, ho7.mono (by omega)⟩
  have hk : k < (ordersL c).length := by omega
  obtain ⟨fr, to, i, hx, hfr, hto, hi⟩ := ordersL_at hc hk
  refine rd_indexN u48 ty93 hoI.is hk fun b2 o2 hA2 => ?_
  refine rd_load ty93 hA2 (Ext.refl _) fun v18 h18 => ?_
  rw [hx] at h18
  refine op_var zl93 rfl ty93 rfl h18 (Ext.refl _) fun w7 hx7 hAO hV7 => ?_
  have hc7 := hc6.trans hx7.toI
  have hM7 := hM6.ext hx7
  have e7 := e1.trans (hx06.trans hx7)
  refine rd_fld fd93_0 ?_
  refine rd_loadI ty3 (at_DOrder_0 hAO) (Ext.refl _) fun _ => ?_
  refine (containsInt_ok (l := part) (y := (fr : Int)) h1 e7).mono ?_
  rintro _ w8 ⟨hx8, rfl⟩
  have hc8 := hc7.trans hx8.toI
  have hM8 := hM7.ext hx8
  refine br_b (fun hf => ?_) (fun hf => ?_)
  case refine_2 =>
    refine rd_inc (by omega) ?_
    refine ⟨mk - 1, by omega, k + 1, by omega, rfl, by omega, hc8, ?_⟩
    rw [ask_old hk fun h => of_decide_eq_false hf (by have := h.1; rw [hx] at this; exact this)]
    exact hM8
  refine rd_fld fd93_1 ?_
  refine rd_loadI ty3 (at_DOrder_1 hAO) hx8 fun _ => ?_
  refine (containsInt_ok (l := part) (y := (to : Int)) h1 (e7.trans hx8)).mono ?_
  rintro _ w9 ⟨hx9, rfl⟩
  have hc9 := hc8.trans hx9.toI
  have hM9 := hM8.ext hx9
  refine br_b (fun ht => ?_) (fun ht => ?_)
  case refine_2 =>
    refine rd_inc (by omega) ?_
    refine ⟨mk - 1, by omega, k + 1, by omega, rfl, by omega, hc9, ?_⟩
    rw [ask_old hk fun h => of_decide_eq_false ht (by have := h.2; rw [hx] at this; exact this)]
    exact hM9
  refine rd_fld fd93_2 ?_
  refine rd_loadI ty3 (at_DOrder_2 hAO) (hx8.trans hx9) fun _ => ?_
  refine rd_elt (α := Bool) (i := i) rfl u72 ty4 hi ?_
  refine opu_elt (α := Bool) rfl ty4 hM9 setB_len hi mine_boolT fun w10 hc10 hM10 => ?_
  have hc10' : ChgI g (g + 1) w9 w10 := hc10.toI fun b hb => by simp only [List.mem_cons, List.not_mem_nil, or_false] at hb; omega
  refine rd_inc (by omega) ?_
  refine ⟨mk - 1, by omega, k + 1, by omega, rfl, by omega, hc9.trans hc10', ?_⟩
  rw [← ask_new hk (i := i) ⟨by rw [hx]; exact of_decide_eq_true hf, by rw [hx]; exact of_decide_eq_true ht⟩ (by rw [hx]; rfl) hi]
  exact hM10
end Go.Proofs.YtjgfldfbljmhhaaGreat
namespace Go.Sh
set_option linter.unusedVariables false
set_option linter.unusedSimpArgs false
open Rep (rep)
instance : Rep UInt8 where
  size := 1
  agg := false
  rep F _ cs x := F = [] ∧ cs = [.int .u8 (x.toNat : Int)]
  pos := by decide
  sz _ := rfl
  len := by rintro _ _ _ _ ⟨_, rfl⟩; rfl
  one := by rintro _ _ _ _ ⟨_, rfl⟩ v hv; simp at hv; subst hv; rfl
  keep := by rintro _ _ _ _ _ h _; exact h
  lt := by rintro _ _ _ _ ⟨rfl, _⟩ b hb; cases hb
instance : Flat UInt8 := ⟨fun h => h.1⟩
instance : RepZ UInt8 := ⟨0, [.int .u8 0], fun _ => ⟨rfl, rfl⟩⟩
section
variable {P : Program} {w w0 : World} {K : Value → Prop} {t : TypeId} {x y : Operand}
theorem mine_u8 {b : UInt8} : Mine [] w (.int .u8 (b.toNat : Int)) b := ⟨⟨_, ⟨rfl, rfl⟩, rfl⟩, List.nodup_nil, Wr.nil w⟩
theorem ownI_u8 {lo hi : Nat} {b : UInt8} : OwnI lo hi w (.int .u8 (b.toNat : Int)) b := ⟨[], mine_u8, by simp⟩
/-- byte(..) -/
theorem rd_byte {src dst : TypeId} {n : Nat} (hs : (P.underlying src).isSome = true) (hd : P.underlying dst = some (.int .u8)) (hn : n < 256) (k : K (.int .u8 ((UInt8.ofNat n).toNat : Int))) : RD P (convert src dst (.int .i64 (n : Int))) w K := by
  refine rd_of (fun w' _ => ?_) k
  obtain ⟨d, hd'⟩ := Option.isSome_iff_exists.mp hs
  have h1 : IntKind.u8.wrap (n : Int) = n := by simp [IntKind.wrap, IntKind.signed, IntKind.bits]; omega
  have h2 : (UInt8.ofNat n).toNat = n := by simp; omega
  simp [convert, run_underlying hd', run_underlying hd, Conv.intToInt, h1]
  omega
/-- string(..) of bytes -/
theorem rd_bytesStr {src dst e : TypeId} {v : Value} {l : List UInt8} (hs : P.underlying src = some (.slice e)) (he : P.underlying e = some (.int .u8)) (hd : P.underlying dst = some .string) (h : Is w0 v l) (hx : Ext w0 w)
    (k : K (.string ⟨l.toArray⟩)) : RD P (convert src dst v) w K := by
  obtain ⟨a, cap, Fi, xs, rfl, h1, h2, hc, h4⟩ := is_list h
  have hcells : ∀ {l : List UInt8} {F : List Nat} {xs : List Value}, Cells F w0 xs l → xs = l.map fun b => Value.int .u8 (b.toNat : Int) := by
    intro l
    induction l with
    | nil => rintro _ _ ⟨_, rfl⟩; rfl
    | cons b l ih =>
      rintro _ _ ⟨F1, F2, c1, c2, _, rfl, ⟨_, rfl⟩, h⟩
      rw [ih h]; rfl
  have hxs := hcells hc
  refine rd_of (fun w' hx' => ?_) k
  rcases h4 with rfl | ⟨b, o, rfl, hr, hb⟩
  · cases a with
    | none => exact run_convert_bytes_nil w' src e hs he _ _ dst hd
    | some a =>
      rw [run_convert_bytes_string w' src dst e _ _ cap hs he hd]
      have := run_bytesToString (P := P) w' a 0 cap [] (by simp [loadCells, loadCellsFrom])
      exact this
  · have := run_convert_bytes_arg w' src e hs he b o l.length cap (l.map fun b => (b.toNat : Int)) (by simp) (fun i hi => by
      have hr' := rangeAt_ext (rangeAt_ext hr hx) hx'
      have := hr' i (.int .u8 (l[i].toNat : Int)) (by rw [hxs]; simp [hi])
      rw [this]
      simp [List.getD, hi]) dst hd
    rw [this]
    have e : strOfNums (l.map fun b => (b.toNat : Int)) = ⟨l.toArray⟩ := by
      unfold strOfNums
      congr 2
      rw [List.map_map]
      conv => rhs; rw [← List.map_id l]
      congr 1
      funext b
      simp
    rw [e]
/-- a text behind a text -/
theorem rd_addS {a b : ByteArray} (h : a.size + b.size ≤ 9223372036854775807) (k : K (.string (a ++ b))) : RD P (bin .add t x y (.string a) (.string b)) w K :=
  rd_of (fun w' _ => by
    have hh : ¬ (((a.size + b.size : Nat) : Int) > IntKind.i64.max) := by
      have : IntKind.i64.max = 9223372036854775807 := by decide
      omega
    show (do eqGuard .add t x y (.string a) (.string b); binOp .add t (.string a) (.string b) : Sem Value).run P w' = _
    simp only [eqGuard, binOp, Op.stringOp, hh, if_false]
    rfl) k
theorem rd_quo {a b : Int} (hb : b ≠ 0) (h : I64 (a.tdiv b)) (k : K (.int .i64 (a.tdiv b))) : RD P (bin .quo t x y (.int .i64 a) (.int .i64 b)) w K :=
  rd_of (fun w' _ => by simp [bin, eqGuard, binOp, Op.intDiv, hb, IntWalk.i64_in _ h]) k
end
end Go.Sh
namespace Go.Proofs.YtjgfldfbljmhhaaGreat
open Go Go.Sh Go.Proofs
set_option linter.unusedVariables false
/-- laws.markText -/
def F141 (a0 : Value) (w : World) (R : Value → World → Prop) : Prop :=
  RD Tryz.prog (bin .leq 3 (.tmp 0) (.const undef) a0 (Value.int .i64 0)) w fun x5 =>
  BR x5
   (R (Value.string (ByteArray.mk #[109, 48])) w)
   (LOOPI [0, 3] [a0, (Value.string (ByteArray.mk #[]))] w fun u4 w next4 =>
    RD Tryz.prog (bin .gtr 3 (.tmp 0) (.const undef) (u4 0) (Value.int .i64 0)) w fun x7 =>
    BR x7
     (RD Tryz.prog (bin .rem 3 (.tmp 0) (.const undef) (u4 0) (Value.int .i64 10)) w fun x9 =>
     RD Tryz.prog (bin .add 3 (.const undef) (.tmp 0) (Value.int .i64 48) x9) w fun x10 =>
     RD Tryz.prog (convert 3 5 x10) w fun x11 =>
     OP Tryz.prog (Instr.buildSlice 210 1 #[(0, x11)]) w fun x12 w =>
     RD Tryz.prog (convert 210 9 x12) w fun x13 =>
     RD Tryz.prog (bin .add 9 (.tmp 0) (.tmp 0) x13 (u4 3)) w fun x15 =>
     RD Tryz.prog (bin .quo 3 (.tmp 0) (.const undef) (u4 0) (Value.int .i64 10)) w fun x17 =>
     next4 [x17, x15] w)
     (RD Tryz.prog (bin .add 9 (.const undef) (.tmp 0) (Value.string (ByteArray.mk #[109])) (u4 3)) w fun x19 =>
     R x19 w))
def cfg141 : Cfg := { ext := extL, joins := [], loops := [(4, 262089, [0, 3])], draws := [], pars := [] }
theorem F141_eq (a0 : Value) (w : World) (R : Value → World → Prop) : vcF Tryz.prog cfg141 Tryz.f141 [a0] w R = F141 a0 w R := by kernel_rfl
theorem F141_call {a0 : Value} {w : World} {R : Value → World → Prop} (h : F141 a0 w R) : CALL Tryz.prog 141 [a0] w R :=
  call_of (g := cfg141) ent mixed Tryz.func141 (Nat.le_of_ble_eq_true (by kernel_rfl)) (by kernel_rfl) (F141_eq a0 w R ▸ h)
/-- laws.markStringS -/
def F80 (a0 a1 : Value) (w : World) (R : Value → World → Prop) : Prop :=
  LOOPI [1, 5] [a1, (Value.int .i64 0)] w fun u2 w next2 =>
   RD Tryz.prog (Builtin.len_ #[22] 3 [a0].toArray) w fun x8 =>
   RD Tryz.prog (bin .lss 3 (.tmp 0) (.tmp 0) (u2 5) x8) w fun x9 =>
   BR x9
    (CALL Tryz.prog 141 [(u2 1)] w fun x15 w =>
    RD Tryz.prog (Instr.indexAt 22 a0 (u2 5)) w fun x16 =>
    OPU Tryz.prog (Instr.storeAt 9 x16 x15) w fun w =>
    RD Tryz.prog (bin .add 3 (.tmp 0) (.const undef) (u2 1) (Value.int .i64 1)) w fun x18 =>
    RD Tryz.prog (bin .add 3 (.tmp 0) (.const undef) (u2 5) (Value.int .i64 1)) w fun x11 =>
    next2 [x18, x11] w)
    (R (u2 1) w)
def cfg80 : Cfg := { ext := extL, joins := [], loops := [(2, 524258, [1, 5])], draws := [], pars := [] }
theorem F80_eq (a0 a1 : Value) (w : World) (R : Value → World → Prop) : vcF Tryz.prog cfg80 Tryz.f80 [a0, a1] w R = F80 a0 a1 w R := by kernel_rfl
theorem F80_call {a0 a1 : Value} {w : World} {R : Value → World → Prop} (h : F80 a0 a1 w R) : CALL Tryz.prog 80 [a0, a1] w R :=
  call_of (g := cfg80) ent mixed Tryz.func80 (Nat.le_of_ble_eq_true (by kernel_rfl)) (by kernel_rfl) (F80_eq a0 a1 w R ▸ h)
/-- laws.markTermS -/
def F142 (a0 a1 : Value) (w : World) (R : Value → World → Prop) : Prop :=
  LOOPI [1, 5] [a1, (Value.int .i64 0)] w fun u2 w next2 =>
   RD Tryz.prog (Builtin.len_ #[132] 3 [a0].toArray) w fun x8 =>
   RD Tryz.prog (bin .lss 3 (.tmp 0) (.tmp 0) (u2 5) x8) w fun x9 =>
   BR x9
    (RD Tryz.prog (Instr.indexAt 132 a0 (u2 5)) w fun x15 =>
    RD Tryz.prog (Instr.fieldAt 134 x15 0) w fun x16 =>
    OPU Tryz.prog (Instr.storeAt 3 x16 (u2 1)) w fun w =>
    RD Tryz.prog (bin .add 3 (.tmp 0) (.const undef) (u2 1) (Value.int .i64 1)) w fun x18 =>
    RD Tryz.prog (Instr.indexAt 132 a0 (u2 5)) w fun x22 =>
    RD Tryz.prog (Instr.fieldAt 134 x22 1) w fun x23 =>
    OPU Tryz.prog (Instr.storeAt 3 x23 x18) w fun w =>
    RD Tryz.prog (bin .add 3 (.tmp 0) (.const undef) x18 (Value.int .i64 1)) w fun x25 =>
    CALL Tryz.prog 141 [x25] w fun x29 w =>
    RD Tryz.prog (Instr.indexAt 132 a0 (u2 5)) w fun x30 =>
    RD Tryz.prog (Instr.fieldAt 134 x30 2) w fun x31 =>
    OPU Tryz.prog (Instr.storeAt 9 x31 x29) w fun w =>
    RD Tryz.prog (bin .add 3 (.tmp 0) (.const undef) x25 (Value.int .i64 1)) w fun x33 =>
    RD Tryz.prog (Instr.indexAt 132 a0 (u2 5)) w fun x36 =>
    RD Tryz.prog (Instr.fieldAt 134 x36 3) w fun x37 =>
    RD Tryz.prog (Instr.loadAt 132 x37) w fun x38 =>
    CALL Tryz.prog 142 [x38, x33] w fun x40 w =>
    RD Tryz.prog (bin .add 3 (.tmp 0) (.const undef) (u2 5) (Value.int .i64 1)) w fun x11 =>
    next2 [x40, x11] w)
    (R (u2 1) w)
def cfg142 : Cfg := { ext := extL, joins := [], loops := [(2, 2199023255522, [1, 5])], draws := [], pars := [] }
theorem F142_eq (a0 a1 : Value) (w : World) (R : Value → World → Prop) : vcF Tryz.prog cfg142 Tryz.f142 [a0, a1] w R = F142 a0 a1 w R := by kernel_rfl
theorem F142_call {a0 a1 : Value} {w : World} {R : Value → World → Prop} (h : F142 a0 a1 w R) : CALL Tryz.prog 142 [a0, a1] w R :=
  call_of (g := cfg142) ent mixed Tryz.func142 (Nat.le_of_ble_eq_true (by kernel_rfl)) (by kernel_rfl) (F142_eq a0 a1 w R ▸ h)
/-- laws.markInsS -/
def F81 (a0 a1 : Value) (w : World) (R : Value → World → Prop) : Prop :=
  LOOPI [1, 5] [a1, (Value.int .i64 0)] w fun u2 w next2 =>
   RD Tryz.prog (Builtin.len_ #[33] 3 [a0].toArray) w fun x8 =>
   RD Tryz.prog (bin .lss 3 (.tmp 0) (.tmp 0) (u2 5) x8) w fun x9 =>
   BR x9
    (RD Tryz.prog (Instr.indexAt 33 a0 (u2 5)) w fun x15 =>
    RD Tryz.prog (Instr.fieldAt 136 x15 0) w fun x16 =>
    OPU Tryz.prog (Instr.storeAt 3 x16 (u2 1)) w fun w =>
    RD Tryz.prog (bin .add 3 (.tmp 0) (.const undef) (u2 1) (Value.int .i64 1)) w fun x18 =>
    RD Tryz.prog (Instr.indexAt 33 a0 (u2 5)) w fun x22 =>
    RD Tryz.prog (Instr.fieldAt 136 x22 1) w fun x23 =>
    OPU Tryz.prog (Instr.storeAt 3 x23 x18) w fun w =>
    RD Tryz.prog (bin .add 3 (.tmp 0) (.const undef) x18 (Value.int .i64 1)) w fun x25 =>
    RD Tryz.prog (Instr.indexAt 33 a0 (u2 5)) w fun x29 =>
    RD Tryz.prog (Instr.fieldAt 136 x29 2) w fun x30 =>
    RD Tryz.prog (Instr.fieldAt 134 x30 0) w fun x31 =>
    OPU Tryz.prog (Instr.storeAt 3 x31 x25) w fun w =>
    RD Tryz.prog (bin .add 3 (.tmp 0) (.const undef) x25 (Value.int .i64 1)) w fun x33 =>
    RD Tryz.prog (Instr.indexAt 33 a0 (u2 5)) w fun x37 =>
    RD Tryz.prog (Instr.fieldAt 136 x37 2) w fun x38 =>
    RD Tryz.prog (Instr.fieldAt 134 x38 1) w fun x39 =>
    OPU Tryz.prog (Instr.storeAt 3 x39 x33) w fun w =>
    RD Tryz.prog (bin .add 3 (.tmp 0) (.const undef) x33 (Value.int .i64 1)) w fun x41 =>
    CALL Tryz.prog 141 [x41] w fun x45 w =>
    RD Tryz.prog (Instr.indexAt 33 a0 (u2 5)) w fun x46 =>
    RD Tryz.prog (Instr.fieldAt 136 x46 2) w fun x47 =>
    RD Tryz.prog (Instr.fieldAt 134 x47 2) w fun x48 =>
    OPU Tryz.prog (Instr.storeAt 9 x48 x45) w fun w =>
    RD Tryz.prog (bin .add 3 (.tmp 0) (.const undef) x41 (Value.int .i64 1)) w fun x50 =>
    RD Tryz.prog (Instr.indexAt 33 a0 (u2 5)) w fun x53 =>
    RD Tryz.prog (Instr.fieldAt 136 x53 2) w fun x54 =>
    RD Tryz.prog (Instr.fieldAt 134 x54 3) w fun x55 =>
    RD Tryz.prog (Instr.loadAt 132 x55) w fun x56 =>
    CALL Tryz.prog 142 [x56, x50] w fun x58 w =>
    RD Tryz.prog (Instr.indexAt 33 a0 (u2 5)) w fun x62 =>
    RD Tryz.prog (Instr.fieldAt 136 x62 3) w fun x63 =>
    OPU Tryz.prog (Instr.storeAt 3 x63 x58) w fun w =>
    RD Tryz.prog (bin .add 3 (.tmp 0) (.const undef) x58 (Value.int .i64 1)) w fun x65 =>
    RD Tryz.prog (bin .add 3 (.tmp 0) (.const undef) (u2 5) (Value.int .i64 1)) w fun x11 =>
    next2 [x65, x11] w)
    (R (u2 1) w)
def cfg81 : Cfg := { ext := extL, joins := [], loops := [(2, 73786976294838206434, [1, 5])], draws := [], pars := [] }
theorem F81_eq (a0 a1 : Value) (w : World) (R : Value → World → Prop) : vcF Tryz.prog cfg81 Tryz.f81 [a0, a1] w R = F81 a0 a1 w R := by kernel_rfl
theorem F81_call {a0 a1 : Value} {w : World} {R : Value → World → Prop} (h : F81 a0 a1 w R) : CALL Tryz.prog 81 [a0, a1] w R :=
  call_of (g := cfg81) ent mixed Tryz.func81 (Nat.le_of_ble_eq_true (by kernel_rfl)) (by kernel_rfl) (F81_eq a0 a1 w R ▸ h)
/-- laws.markCode -/
def F24 (a0 a1 : Value) (w : World) (R : Value → World → Prop) : Prop :=
  OP Tryz.prog (Instr.box 35 a0) w fun x2 w =>
  RD Tryz.prog (Instr.fieldAt 35 x2 0) w fun x5 =>
  RD Tryz.prog (Instr.loadAt 22 x5) w fun x6 =>
  CALL Tryz.prog 80 [x6, a1] w fun x8 w =>
  RD Tryz.prog (Instr.fieldAt 35 x2 1) w fun x9 =>
  RD Tryz.prog (Instr.loadAt 22 x9) w fun x10 =>
  CALL Tryz.prog 80 [x10, x8] w fun x12 w =>
  RD Tryz.prog (Instr.fieldAt 35 x2 2) w fun x13 =>
  RD Tryz.prog (Instr.loadAt 22 x13) w fun x14 =>
  CALL Tryz.prog 80 [x14, x12] w fun x16 w =>
  RD Tryz.prog (Instr.fieldAt 35 x2 3) w fun x17 =>
  RD Tryz.prog (Instr.loadAt 23 x17) w fun x18 =>
  CALL Tryz.prog 25 [x18, x16] w fun x20 w =>
  RD Tryz.prog (Instr.fieldAt 35 x2 4) w fun x21 =>
  RD Tryz.prog (Instr.loadAt 33 x21) w fun x22 =>
  CALL Tryz.prog 81 [x22, x20] w fun x24 w =>
  R x24 w
def cfg24 : Cfg := { ext := extL, joins := [], loops := [], draws := [], pars := [] }
theorem F24_eq (a0 a1 : Value) (w : World) (R : Value → World → Prop) : vcF Tryz.prog cfg24 Tryz.f24 [a0, a1] w R = F24 a0 a1 w R := by kernel_rfl
theorem F24_call {a0 a1 : Value} {w : World} {R : Value → World → Prop} (h : F24 a0 a1 w R) : CALL Tryz.prog 24 [a0, a1] w R :=
  call_of (g := cfg24) ent mixed Tryz.func24 (Nat.le_of_ble_eq_true (by kernel_rfl)) (by kernel_rfl) (F24_eq a0 a1 w R ▸ h)
set_option linter.unusedVariables false
set_option linter.unusedSimpArgs false
theorem markText_ok {w : World} {k : Int} (hk : k ≤ 4611686018427387904) :
    CALL Tryz.prog 141 [.int .i64 k] w fun r w' => Ext w w' ∧ ∃ s, r = .string s ∧ s.size ≤ maxLen := by
  refine F141_call ?_
  unfold F141
  refine rd_leq ?_
  refine br (fun h => ?_) (fun h => ?_)
  · exact ⟨Ext.refl w, _, rfl, by rw [maxLen_eq]; decide⟩
  · have hk19 : k < 10 ^ (19 - 0) := by
      have : (10 : Int) ^ (19 - 0) = 10000000000000000000 := by decide
      omega
    refine loopC 19 (fun j us w' => ∃ (q : Int) (s : ByteArray), us = [.int .i64 q, .string s] ∧ Ext w w' ∧ 0 ≤ q ∧ q < 10 ^ (19 - j) ∧ s.size = j) 0 (by omega) ⟨k, _, rfl, Ext.refl w, by omega, hk19, rfl⟩ ?_
    rintro j m u w2 hkm ⟨q, s, hu, hx2, hq0, hq1, hs⟩
    simp only [List.map_cons, List.map_nil, List.cons.injEq, and_true] at hu
    obtain ⟨hu1, hu2⟩ := hu
    rw [hu1, hu2]
    have hj : 0 < q → j < 19 := fun h => by
      rcases Nat.lt_or_ge j 19 with h' | h'
      · exact h'
      · rw [show 19 - j = 0 by omega] at hq1; simp at hq1; omega
    have hb : q < 10000000000000000000 := by
      have h2 : (10 : Int) ^ (19 - j) ≤ 10 ^ 19 := by
        have h3 : (10 : Nat) ^ (19 - j) ≤ 10 ^ 19 := Nat.pow_le_pow_right (by omega) (by omega)
        have h4 := Int.ofNat_le.2 h3
        simpa using h4
      have h3 : (10 : Int) ^ 19 = 10000000000000000000 := by decide
      omega
    refine rd_gtr ?_
    refine br (fun h1 => ?_) (fun h1 => ?_)
    · have hj := hj h1
      refine rd_rem (by omega) ?_
      have hm : q.tmod 10 = q % 10 := Int.tmod_eq_emod_of_nonneg hq0
      rw [hm]
      refine rd_add (by unfold I64; omega) ?_
      obtain ⟨n, hn⟩ : ∃ n : Nat, 48 + q % 10 = (n : Int) := ⟨(48 + q % 10).toNat, by omega⟩
      rw [hn]
      refine rd_byte (by kernel_rfl) u5 (by omega) ?_
      refine op_build1I (α := UInt8) u210 ty5 z5 (by decide) (ownI_u8 (lo := w2.heap.size) (hi := w2.heap.size)) (by omega) fun v3 w3 hx3 o3 => ?_
      refine rd_bytesStr u210 u5 u9 o3.is (Ext.refl w3) ?_
      have hone : ByteArray.size ⟨[UInt8.ofNat n].toArray⟩ = 1 := rfl
      refine rd_addS (by omega) ?_
      have hd : q.tdiv 10 = q / 10 := Int.tdiv_eq_ediv_of_nonneg hq0
      refine rd_quo (by omega) (by rw [hd]; unfold I64; omega) ?_
      rw [hd]
      refine ⟨m - 1, by omega, j + 1, by omega, q / 10, _, rfl, hx2.trans hx3, by omega, ?_, by rw [ByteArray.size_append]; omega⟩
      rw [show 19 - j = (19 - (j + 1)) + 1 by omega, Int.pow_succ] at hq1
      omega
    · refine rd_addS (by have : (ByteArray.mk #[109]).size = 1 := rfl
                         omega) ?_
      have hj19 : j ≤ 19 := by omega
      exact ⟨hx2, _, rfl, by rw [maxLen_eq, ByteArray.size_append]; have : (ByteArray.mk #[109]).size = 1 := rfl
                             omega⟩
theorem markStringS_ok {w : World} {F : List Nat} {v : Value} {l : List ByteArray} {k : Int} (h : Mine F w v l) (hn : l.length ≤ 1048576) (hk0 : 0 ≤ k) (hk1 : k ≤ 1152921504606846976) :
    CALL Tryz.prog 80 [v, .int .i64 k] w fun r w' => r = .int .i64 (k + l.length) ∧ Chg F w w' ∧ ∃ F', ∃ l' : List ByteArray, Mine F' w' v l' ∧ (∀ b ∈ F', b ∈ F) ∧ l'.length = l.length := by
  refine F80_call ?_
  unfold F80
  refine loopC l.length (fun i us w' => us = [.int .i64 (k + i), .int .i64 (i : Int)] ∧ Chg F w w' ∧ ∃ F', ∃ cur : List ByteArray, Mine F' w' v cur ∧ (∀ b ∈ F', b ∈ F) ∧ cur.length = l.length) 0 (Nat.zero_le _) ⟨by simp, Chg.refl _ _, F, l, h, fun _ h => h, rfl⟩ ?_
  rintro i m u w2 hkm ⟨hu, hc2, F', cur, hm2, hF', hlen⟩
  simp only [List.map_cons, List.map_nil, List.cons.injEq, and_true] at hu
  obtain ⟨hu1, hu2⟩ := hu
  rw [hu1, hu2]
  refine rd_len u22 hm2.is ?_
  rw [hlen]
  refine rd_lss ?_
  refine br (fun hlt => ?_) (fun hge => ?_)
  · have hi : i < l.length := by omega
    refine (markText_ok (by omega)).mono ?_
    rintro _ w3 ⟨hx3, s, rfl, hs⟩
    refine rd_focus u22 ty9 (hm2.ext hx3) (by omega) fun b o G hL => ?_
    refine opu_lensF ty9 hL (mine_str hs) fun w4 F4 hc4 hm4 hF4 => ?_
    refine rd_add (by unfold I64; omega) ?_
    refine rd_inc (by omega) ?_
    exact ⟨m - 1, by omega, i + 1, by omega, by simp [Int.add_assoc], (hc2.trans (hx3.chg F)).sub hc4 hF', F4, _, hm4, fun b hb => hF' b (hF4 b hb), by simp [hlen]⟩
  · have : i = l.length := by omega
    subst this
    exact ⟨rfl, hc2, F', cur, hm2, hF', hlen⟩
def MarkTS (l : List DTerm) : Prop := ∀ {w : World} {F : List Nat} {v : Value} {k : Int}, Mine F w v l → wTs l ≤ 1048576 → 0 ≤ k → k + 3 * wTs l ≤ 1152921504606846976 →
  CALL Tryz.prog 142 [v, .int .i64 k] w fun r w' => ∃ n : Int, r = .int .i64 n ∧ k ≤ n ∧ n ≤ k + 3 * wTs l ∧ Chg F w w' ∧ ∃ F', ∃ l' : List DTerm, Mine F' w' v l' ∧ (∀ b ∈ F', b ∈ F) ∧ l'.length = l.length
theorem markTS_step {l : List DTerm} (ih : ∀ t ∈ l, MarkTS t.kids) : MarkTS l := by
  intro w F v k h hn hk0 hk1
  rw [wTs_eq] at hn hk1 ⊢
  refine F142_call ?_
  unfold F142
  refine loopC l.length (fun i us w' => ∃ q : Int, us = [.int .i64 q, .int .i64 (i : Int)] ∧ Chg F w w' ∧ k ≤ q ∧ q ≤ k + 3 * (i + sm wT (l.take i) : Nat) ∧ ∃ F', ∃ cur : List DTerm, Mine F' w' v cur ∧ (∀ b ∈ F', b ∈ F) ∧ RestL i cur l) 0 (Nat.zero_le _) ⟨k, rfl, Chg.refl _ _, by omega, by simp [sm], F, l, h, fun _ h => h, rfl, fun _ _ => rfl⟩ ?_
  rintro i m u w2 hkm ⟨q, hu, hc2, hq0, hq1, F', cur, hm2, hF', hr⟩
  simp only [List.map_cons, List.map_nil, List.cons.injEq, and_true] at hu
  obtain ⟨hu1, hu2⟩ := hu
  rw [hu1, hu2]
  have hlen := hr.1
  refine rd_len u132 hm2.is ?_
  rw [hlen]
  refine rd_lss ?_
  refine br (fun hlt => ?_) (fun hge => ?_)
  · have hi : i < l.length := by omega
    have hsum := sm_take wT hi
    have hle : sm wT (l.take (i + 1)) ≤ sm wT l := by
      conv => rhs; rw [← List.take_append_drop (i + 1) l]
      unfold sm
      rw [List.map_append, List.sum_append]
      omega
    have hwi := wT_eq l[i]
    have hK := hr.keepF (f := DTerm.kids) hi
    refine st_fld (α := DTerm) (β := Int) (sel := DTerm.kind) (g := fun a y => .mk y a.num a.name a.kids) u132 ty134 fd134_0 ty3 (fun h => lens_DTerm_0 h) hm2 (by omega) (mine_int (by unfold I64; omega)) fun w3 F3 hc3 hm3 hF3 => ?_
    replace hK := hK.set (x := .mk q cur[i].num cur[i].name cur[i].kids) fun _ => rfl
    generalize hcur3 : cur.set i (.mk q cur[i].num cur[i].name cur[i].kids) = cur3 at hm3 hK
    clear hcur3
    refine rd_add (by unfold I64; omega) ?_
    refine st_fld (α := DTerm) (β := Int) (sel := DTerm.num) (g := fun a y => .mk a.kind y a.name a.kids) u132 ty134 fd134_1 ty3 (fun h => lens_DTerm_1 h) hm3 hK.2.1 (mine_int (by unfold I64; omega)) fun w4 F4 hc4 hm4 hF4 => ?_
    replace hK := hK.set (x := .mk (cur3[i]'hK.2.1).kind (q + 1) (cur3[i]'hK.2.1).name (cur3[i]'hK.2.1).kids) fun _ => rfl
    generalize hcur4 : cur3.set i _ = cur4 at hm4 hK
    clear hcur4
    refine rd_add (by unfold I64; omega) ?_
    refine (markText_ok (by omega)).mono ?_
    rintro _ w5 ⟨hx5, s, rfl, hs⟩
    refine st_fld (α := DTerm) (β := ByteArray) (sel := DTerm.name) (g := fun a y => .mk a.kind a.num y a.kids) u132 ty134 fd134_2 ty9 (fun h => lens_DTerm_2 h) (hm4.ext hx5) hK.2.1 (mine_str hs) fun w6 F6 hc6 hm6 hF6 => ?_
    replace hK := hK.set (x := .mk (cur4[i]'hK.2.1).kind (cur4[i]'hK.2.1).num s (cur4[i]'hK.2.1).kids) fun _ => rfl
    generalize hcur6 : cur4.set i _ = cur6 at hm6 hK
    clear hcur6
    refine rd_add (by unfold I64; omega) ?_
    refine rd_focus u132 ty134 hm6 hK.2.1 fun b o G hL => ?_
    refine rd_fld fd134_3 ?_
    obtain ⟨G1, hL1⟩ := lens_DTerm_3 hL
    refine rd_lens_row ty132 hL1 fun u7 hM7 hG7 hb7 => ?_
    obtain ⟨hR, hi6, _, hkids⟩ := hK
    rw [hkids] at hM7
    have hF26 : ∀ c ∈ F6, c ∈ F' := fun c hc => hF3 c (hF4 c (hF6 c hc))
    refine (ih l[i] (List.getElem_mem hi) hM7 (by omega) (by omega) (by omega)).mono ?_
    rintro _ w8 ⟨n, rfl, hn0, hn1, hc8, F8, l8, hm8, hF8, hl8⟩
    obtain ⟨F9, hm9, hF9⟩ := hb7 w8 F8 l8 hc8 hm8 fun c hc => .inl (hF8 c hc)
    refine rd_inc (by omega) ?_
    have hc26 : Chg F' w2 w6 := ((hc3.sub hc4 hF3).trans (hx5.chg F')).sub hc6 fun c hc => hF3 c (hF4 c hc)
    have hc28 : Chg F' w2 w8 := hc26.sub hc8 fun c hc => hF26 c (hG7 c hc)
    refine ⟨m - 1, by omega, i + 1, by omega, n, rfl, hc2.sub hc28 hF', by omega, by omega, F9, _, hm9, fun c hc => ?_, hR.set1 _⟩
    rcases hF9 c hc with h | h
    · exact hF' c (hF26 c h)
    · exact hF' c (hF26 c (hG7 c (hF8 c h)))
  · have : i = l.length := by omega
    subst this
    rw [List.take_length] at hq1
    exact ⟨q, rfl, hq0, by omega, hc2, F', cur, hm2, hF', hlen⟩
theorem markTS_ok (t : DTerm) : MarkTS t.kids := DTerm.ind (p := fun t => MarkTS t.kids) (fun t ih => markTS_step ih) t
theorem markTermS_ok (l : List DTerm) : MarkTS l := markTS_ok (.mk 0 0 ByteArray.empty l)
theorem markInsS_ok {w : World} {F : List Nat} {v : Value} {l : List DIns} {k : Int} (h : Mine F w v l) (hn : wIns l ≤ 1048576) (hk0 : 0 ≤ k) (hk1 : k ≤ 1000000000000000000) :
    CALL Tryz.prog 81 [v, .int .i64 k] w fun r w' => ∃ n : Int, r = .int .i64 n ∧ k ≤ n ∧ n ≤ k + 6 * wIns l ∧ Chg F w w' ∧ ∃ F', ∃ l' : List DIns, Mine F' w' v l' ∧ (∀ b ∈ F', b ∈ F) ∧ l'.length = l.length := by
  unfold wIns at hn ⊢
  refine F81_call ?_
  unfold F81
  refine loopC l.length (fun i us w' => ∃ q : Int, us = [.int .i64 q, .int .i64 (i : Int)] ∧ Chg F w w' ∧ k ≤ q ∧ q ≤ k + 6 * (i + sm (fun i => wT i.term) (l.take i) : Nat) ∧ ∃ F', ∃ cur : List DIns, Mine F' w' v cur ∧ (∀ b ∈ F', b ∈ F) ∧ RestL i cur l) 0 (Nat.zero_le _) ⟨k, rfl, Chg.refl _ _, by omega, by simp [sm], F, l, h, fun _ h => h, rfl, fun _ _ => rfl⟩ ?_
  rintro i m u w2 hkm ⟨q, hu, hc2, hq0, hq1, F', cur, hm2, hF', hr⟩
  simp only [List.map_cons, List.map_nil, List.cons.injEq, and_true] at hu
  obtain ⟨hu1, hu2⟩ := hu
  rw [hu1, hu2]
  have hlen := hr.1
  refine rd_len u33 hm2.is ?_
  rw [hlen]
  refine rd_lss ?_
  refine br (fun hlt => ?_) (fun hge => ?_)
  · have hi : i < l.length := by omega
    have hsum := sm_take (fun i : DIns => wT i.term) hi
    have hle : sm (fun i : DIns => wT i.term) (l.take (i + 1)) ≤ sm (fun i : DIns => wT i.term) l := by
      conv => rhs; rw [← List.take_append_drop (i + 1) l]
      unfold sm
      rw [List.map_append, List.sum_append]
      omega
    have hwi := wT_eq l[i].term
    have hK := hr.keepF (f := fun a : DIns => a.term.kids) hi
    refine st_fld (α := DIns) (β := Int) (sel := DIns.op) (g := fun a y => ⟨y, a.arg, a.term, a.to⟩) u33 ty136 fd136_0 ty3 (fun h => lens_DIns_0 h) hm2 hK.2.1 (mine_int (by unfold I64; omega)) fun w3 F3 hc3 hm3 hF3 => ?_
    replace hK := hK.set (x := ⟨q, (cur[i]'hK.2.1).arg, (cur[i]'hK.2.1).term, (cur[i]'hK.2.1).to⟩) fun _ => rfl
    generalize hcur3 : cur.set i _ = cur3 at hm3 hK
    clear hcur3
    refine rd_add (by unfold I64; omega) ?_
    refine st_fld (α := DIns) (β := Int) (sel := DIns.arg) (g := fun a y => ⟨a.op, y, a.term, a.to⟩) u33 ty136 fd136_1 ty3 (fun h => lens_DIns_1 h) hm3 hK.2.1 (mine_int (by unfold I64; omega)) fun w4 F4 hc4 hm4 hF4 => ?_
    replace hK := hK.set (x := ⟨(cur3[i]'hK.2.1).op, q + 1, (cur3[i]'hK.2.1).term, (cur3[i]'hK.2.1).to⟩) fun _ => rfl
    generalize hcur4 : cur3.set i _ = cur4 at hm4 hK
    clear hcur4
    refine rd_add (by unfold I64; omega) ?_
    refine st_fld2 (α := DIns) (β := Int) (sel := fun a => a.term.kind) (g := fun a y => ⟨a.op, a.arg, .mk y a.term.num a.term.name a.term.kids, a.to⟩) u33 ty136 fd136_2 fd134_0 ty3 (fun h => by obtain ⟨G1, h1⟩ := lens_DIns_2 h; exact lens_DTerm_0 h1) hm4 hK.2.1 (mine_int (by unfold I64; omega)) fun w5 F5 hc5 hm5 hF5 => ?_
    replace hK := hK.set (x := ⟨(cur4[i]'hK.2.1).op, (cur4[i]'hK.2.1).arg, .mk (q + 1 + 1) (cur4[i]'hK.2.1).term.num (cur4[i]'hK.2.1).term.name (cur4[i]'hK.2.1).term.kids, (cur4[i]'hK.2.1).to⟩) fun _ => rfl
    generalize hcur5 : cur4.set i _ = cur5 at hm5 hK
    clear hcur5
    refine rd_add (by unfold I64; omega) ?_
    refine st_fld2 (α := DIns) (β := Int) (sel := fun a => a.term.num) (g := fun a y => ⟨a.op, a.arg, .mk a.term.kind y a.term.name a.term.kids, a.to⟩) u33 ty136 fd136_2 fd134_1 ty3 (fun h => by obtain ⟨G1, h1⟩ := lens_DIns_2 h; exact lens_DTerm_1 h1) hm5 hK.2.1 (mine_int (by unfold I64; omega)) fun w6 F6 hc6 hm6 hF6 => ?_
    replace hK := hK.set (x := ⟨(cur5[i]'hK.2.1).op, (cur5[i]'hK.2.1).arg, .mk (cur5[i]'hK.2.1).term.kind (q + 1 + 1 + 1) (cur5[i]'hK.2.1).term.name (cur5[i]'hK.2.1).term.kids, (cur5[i]'hK.2.1).to⟩) fun _ => rfl
    generalize hcur6 : cur5.set i _ = cur6 at hm6 hK
    clear hcur6
    refine rd_add (by unfold I64; omega) ?_
    refine (markText_ok (by omega)).mono ?_
    rintro _ w7 ⟨hx7, s, rfl, hs⟩
    refine st_fld2 (α := DIns) (β := ByteArray) (sel := fun a => a.term.name) (g := fun a y => ⟨a.op, a.arg, .mk a.term.kind a.term.num y a.term.kids, a.to⟩) u33 ty136 fd136_2 fd134_2 ty9 (fun h => by obtain ⟨G1, h1⟩ := lens_DIns_2 h; exact lens_DTerm_2 h1) (hm6.ext hx7) hK.2.1 (mine_str hs) fun w8 F8 hc8 hm8 hF8 => ?_
    replace hK := hK.set (x := ⟨(cur6[i]'hK.2.1).op, (cur6[i]'hK.2.1).arg, .mk (cur6[i]'hK.2.1).term.kind (cur6[i]'hK.2.1).term.num s (cur6[i]'hK.2.1).term.kids, (cur6[i]'hK.2.1).to⟩) fun _ => rfl
    generalize hcur8 : cur6.set i _ = cur8 at hm8 hK
    clear hcur8
    refine rd_add (by unfold I64; omega) ?_
    refine rd_focus u33 ty136 hm8 hK.2.1 fun b o G hL => ?_
    refine rd_fld fd136_2 ?_
    refine rd_fld fd134_3 ?_
    obtain ⟨G0, hL0⟩ := lens_DIns_2 hL
    obtain ⟨G1, hL1⟩ := lens_DTerm_3 hL0
    refine rd_lens_row ty132 hL1 fun u9 hM9 hG9 hb9 => ?_
    obtain ⟨hR, hi8, _, hkids⟩ := hK
    have hkids' : (cur8[i]'hi8).term.kids = l[i].term.kids := hkids
    rw [hkids'] at hM9
    have hF28 : ∀ c ∈ F8, c ∈ F' := fun c hc => hF3 c (hF4 c (hF5 c (hF6 c (hF8 c hc))))
    refine (markTermS_ok _ hM9 (by omega) (by omega) (by omega)).mono ?_
    rintro _ w10 ⟨n, rfl, hn0, hn1, hc10, F10, l10, hm10, hF10, hl10⟩
    obtain ⟨F11, hm11, hF11⟩ := hb9 w10 F10 l10 hc10 hm10 fun c hc => .inl (hF10 c hc)
    have hF211 : ∀ c ∈ F11, c ∈ F' := fun c hc => by
      rcases hF11 c hc with h | h
      · exact hF28 c h
      · exact hF28 c (hG9 c (hF10 c h))
    replace hR := hR.set1 (⟨(cur8[i]'hi8).op, (cur8[i]'hi8).arg, .mk (cur8[i]'hi8).term.kind (cur8[i]'hi8).term.num (cur8[i]'hi8).term.name l10, (cur8[i]'hi8).to⟩ : DIns)
    have hi11 : i < (cur8.set i (⟨(cur8[i]'hi8).op, (cur8[i]'hi8).arg, .mk (cur8[i]'hi8).term.kind (cur8[i]'hi8).term.num (cur8[i]'hi8).term.name l10, (cur8[i]'hi8).to⟩ : DIns)).length := by simpa using hi8
    generalize hcur11 : cur8.set i _ = cur11 at hm11 hR hi11
    clear hcur11
    have hc28 : Chg F' w2 w8 := (((((hc3.sub hc4 hF3).sub hc5 fun c hc => hF3 c (hF4 c hc)).sub hc6 fun c hc => hF3 c (hF4 c (hF5 c hc)))).trans (hx7.chg F')).sub hc8 fun c hc => hF3 c (hF4 c (hF5 c (hF6 c hc)))
    have hc210 : Chg F' w2 w10 := hc28.sub hc10 fun c hc => hF28 c (hG9 c hc)
    refine st_fld (α := DIns) (β := Int) (sel := DIns.to) (g := fun a y => ⟨a.op, a.arg, a.term, y⟩) u33 ty136 fd136_3 ty3 (fun h => lens_DIns_3 h) hm11 hi11 (mine_int (by unfold I64; omega)) fun w12 F12 hc12 hm12 hF12 => ?_
    refine rd_add (by unfold I64; omega) ?_
    refine rd_inc (by omega) ?_
    exact ⟨m - 1, by omega, i + 1, by omega, n + 1, rfl, hc2.sub (hc210.sub hc12 hF211) hF', by omega, by omega, F12, _, hm12, fun c hc => hF' c (hF211 c (hF12 c hc)), hR.set1 _⟩
  · have : i = l.length := by omega
    subst this
    rw [List.take_length] at hq1
    exact ⟨q, rfl, hq0, by omega, hc2, F', cur, hm2, hF', hlen⟩
/-- the slices of code of one's own -/
theorem mine_code {w : World} {F : List Nat} {v : Value} {c : DCode} (h : Mine F w v c) : ∃ (a0 a1 a2 a3 a4 : Value) (F0 F1 F2 F3 F4 : List Nat), v = .agg #[a0, a1, a2, a3, a4] ∧ F = F0 ++ (F1 ++ (F2 ++ (F3 ++ F4))) ∧ F.Nodup ∧
    Mine F0 w a0 c.globals ∧ Mine F1 w a1 c.locks ∧ Mine F2 w a2 c.procs ∧ Mine F3 w a3 c.entry ∧ Mine F4 w a4 c.ins := by
  obtain ⟨⟨cs, hr, rfl⟩, hn, hw⟩ := h
  obtain ⟨F0, c0, F1, c1, F2, c2, F3, c3, F4, c4, rfl, rfl, h0, h1, h2, h3, h4⟩ := inv_DCode hr
  have n0 := nodup_app hn
  have n1 := nodup_app n0.2.1
  have n2 := nodup_app n1.2.1
  have n3 := nodup_app n2.2.1
  obtain ⟨a0, rfl, m0⟩ := mine_of_rep h0 n0.1 (hw.sub (by simp +contextual))
  obtain ⟨a1, rfl, m1⟩ := mine_of_rep h1 n1.1 (hw.sub (by simp +contextual))
  obtain ⟨a2, rfl, m2⟩ := mine_of_rep h2 n2.1 (hw.sub (by simp +contextual))
  obtain ⟨a3, rfl, m3⟩ := mine_of_rep h3 n3.1 (hw.sub (by simp +contextual))
  obtain ⟨a4, rfl, m4⟩ := mine_of_rep h4 n3.2.1 (hw.sub (by simp +contextual))
  exact ⟨a0, a1, a2, a3, a4, F0, F1, F2, F3, F4, rfl, rfl, hn, m0, m1, m2, m3, m4⟩
theorem markCode_ok {w : World} {lo hi : Nat} {v : Value} {c : DCode} {k : Int} (h : OwnI lo hi w v c) (hn : wCode c ≤ 1048576) (hk0 : 0 ≤ k) (hk1 : k ≤ 100000000000000000) :
    CALL Tryz.prog 24 [v, .int .i64 k] w fun r w' => ∃ n : Int, r = .int .i64 n ∧ (k ≤ n ∧ n ≤ k + 8388608) ∧ ChgI lo hi w w' := by
  obtain ⟨F, hM, hF⟩ := h
  obtain ⟨a0, a1, a2, a3, a4, F0, F1, F2, F3, F4, rfl, rfl, hnd, m0, m1, m2, m3, m4⟩ := mine_code hM
  unfold wCode wStr at hn
  have d0 := nodup_app hnd
  have d1 := nodup_app d0.2.1
  have d2 := nodup_app d1.2.1
  have d3 := nodup_app d2.2.1
  refine F24_call ?_
  unfold F24
  refine op_boxB fun w1 hx1 hB1 => ?_
  have hg : ∀ b ∈ F0 ++ (F1 ++ (F2 ++ (F3 ++ F4))), b ≠ w.heap.size := fun b hb e => by have := hM.lt b hb; omega
  refine rd_fld fd35_0 ?_
  refine rd_blkV ty22 hB1 rfl ?_
  refine (markStringS_ok (m0.ext hx1) (by omega) (by omega) (by omega)).mono ?_
  rintro _ w2 ⟨rfl, hc2, _⟩
  have hB2 := hB1.chg hc2 fun hm => hg _ (by simp [hm]) rfl
  have m12 := (m1.ext hx1).chgD hc2 fun b hb h0 => d0.2.2 b h0 (by simp [hb])
  have m22 := (m2.ext hx1).chgD hc2 fun b hb h0 => d0.2.2 b h0 (by simp [hb])
  have m32 := (m3.ext hx1).chgD hc2 fun b hb h0 => d0.2.2 b h0 (by simp [hb])
  have m42 := (m4.ext hx1).chgD hc2 fun b hb h0 => d0.2.2 b h0 (by simp [hb])
  refine rd_fld fd35_1 ?_
  refine rd_blkV ty22 hB2 rfl ?_
  refine (markStringS_ok m12 (by omega) (by omega) (by omega)).mono ?_
  rintro _ w3 ⟨rfl, hc3, _⟩
  have hB3 := hB2.chg hc3 fun hm => hg _ (by simp [hm]) rfl
  have m23 := m22.chgD hc3 fun b hb h0 => d1.2.2 b h0 (by simp [hb])
  have m33 := m32.chgD hc3 fun b hb h0 => d1.2.2 b h0 (by simp [hb])
  have m43 := m42.chgD hc3 fun b hb h0 => d1.2.2 b h0 (by simp [hb])
  refine rd_fld fd35_2 ?_
  refine rd_blkV ty22 hB3 rfl ?_
  refine (markStringS_ok m23 (by omega) (by omega) (by omega)).mono ?_
  rintro _ w4 ⟨rfl, hc4, _⟩
  have hB4 := hB3.chg hc4 fun hm => hg _ (by simp [hm]) rfl
  have m34 := m33.chgD hc4 fun b hb h0 => d2.2.2 b h0 (by simp [hb])
  have m44 := m43.chgD hc4 fun b hb h0 => d2.2.2 b h0 (by simp [hb])
  refine rd_fld fd35_3 ?_
  refine rd_blkV ty23 hB4 rfl ?_
  refine (markIntS_ok m34 (by omega) (by omega) (by omega)).mono ?_
  rintro _ w5 ⟨rfl, hc5, _⟩
  have hB5 := hB4.chg hc5 fun hm => hg _ (by simp [hm]) rfl
  have m45 := m44.chgD hc5 fun b hb h0 => d3.2.2 b h0 hb
  refine rd_fld fd35_4 ?_
  refine rd_blkV ty33 hB5 rfl ?_
  refine (markInsS_ok m45 (by omega) (by omega) (by omega)).mono ?_
  rintro _ w6 ⟨n, rfl, hn0, hn1, hc6, _⟩
  refine ⟨n, rfl, by omega, ?_⟩
  have hc : Chg (F0 ++ (F1 ++ (F2 ++ (F3 ++ F4)))) w w6 := (((((hx1.chg _).sub hc2 (by simp +contextual)).sub hc3 (by simp +contextual)).sub hc4 (by simp +contextual)).sub hc5 (by simp +contextual)).sub hc6 (by simp +contextual)
  exact hc.toI hF
theorem markIntS_I {w : World} {lo hi : Nat} {v : Value} {l : List Int} {k : Int} (h : OwnI lo hi w v l) (hn : l.length ≤ 1073741824) (hk0 : 0 ≤ k) (hk1 : k ≤ 100000000000000000) :
    CALL Tryz.prog 25 [v, .int .i64 k] w fun r w' => r = .int .i64 (k + l.length) ∧ ChgI lo hi w w' ∧ OwnI lo hi w' v (cnt k l.length) := by
  obtain ⟨F, hM, hF⟩ := h
  exact (markIntS_ok hM hn hk0 (by omega)).mono fun r w' ⟨h1, h2, h3⟩ => ⟨h1, h2.toI hF, h3.toS.toI hF⟩
theorem heldIntS_is {w w0 : World} {v : Value} {n : Nat} {k : Int} (h : Is w0 v (cnt k n)) (hx : Ext w0 w) (hn : n ≤ 1073741824) (hk0 : 0 ≤ k) (hk1 : k ≤ 100000000000000000) :
    CALL Tryz.prog 26 [v, .int .i64 k] w fun r w' => Ext w w' ∧ r = .int .i64 (k + n) := (heldIntS_ok h hx hn hk0 (by omega)).mono fun r w' ⟨h1, h2⟩ => ⟨h2, h1⟩
end Go.Proofs.YtjgfldfbljmhhaaGreat
namespace Go.Proofs.YtjgfldfbljmhhaaGreat
open Go Go.Sh Go.Proofs
set_option linter.unusedVariables false
theorem cdOk_of14 {c : DCode} {n m : Int} (hm : m ≤ 1048576) (h : -1 ≤ n ∧ n ≤ m ∧ (0 ≤ n → n + wCode c ≤ m)) (hc : ¬ n < 0) : wCode c ≤ 1048576 := by
  have := h.2.2 (by omega); omega
/-- laws.FnExactAskedIn -/
def F4 (a0 a1 : Value) (w : World) (R : Value → World → Prop) : Prop :=
  OP Tryz.prog (Instr.box 26 a0) w fun x2 w =>
  RD Tryz.prog (Builtin.len_ #[23] 3 [a1].toArray) w fun x15 =>
  RD Tryz.prog (bin .gtr 3 (.tmp 0) (.const undef) x15 (Value.int .i64 1048576)) w fun x16 =>
  BR x16
   (R (Value.bool true) w)
   (RD Tryz.prog (Instr.loadAt 26 x2) w fun x17 =>
   CALL Tryz.prog 12 [x17, (Value.int .i64 1048576)] w fun x19 w =>
   RD Tryz.prog (bin .lss 3 (.tmp 0) (.const undef) x19 (Value.int .i64 0)) w fun x21 =>
   BR x21
    (R (Value.bool true) w)
    (RD Tryz.prog (Instr.loadAt 26 x2) w fun x22 =>
    CALL Tryz.prog 15 [x22] w fun x23 w =>
    CALL Tryz.prog 21 [a1] w fun x25 w =>
    CALL Tryz.prog 20 [x23, x25] w fun x26 w =>
    RD Tryz.prog (Instr.loadAt 26 x2) w fun x27 =>
    CALL Tryz.prog 15 [x27] w fun x28 w =>
    OP Tryz.prog (Instr.alloc 35 true (.tuple #[])) w fun x7 w =>
    OPU Tryz.prog (Instr.storeAt 35 x7 x28) w fun w =>
    CALL Tryz.prog 21 [a1] w fun x30 w =>
    RD Tryz.prog (Instr.loadAt 35 x7) w fun x31 =>
    CALL Tryz.prog 22 [x31, x30] w fun x33 w =>
    CALL Tryz.prog 23 [x33, x26] w fun x36 w =>
    RD Tryz.prog (Op.unary .not x36) w fun x37 =>
    BR x37
     (R (Value.bool false) w)
     ((fun w => RD Tryz.prog (Instr.loadAt 35 x7) w fun x38 =>
     RD Tryz.prog (Instr.loadAt 26 x2) w fun x39 =>
     (fun w_ => CALL Tryz.prog 15 [x39] w_ fun x40 w =>
     Ext w_ w ∧
     CALL Tryz.prog 18 [x38, x40] w fun x41 w =>
     RD Tryz.prog (Op.unary .not x41) w fun x42 =>
     BR x42
      (R (Value.bool false) w)
      (CALL Tryz.prog 21 [a1] w fun x45 w =>
      CALL Tryz.prog 23 [x30, x45] w fun x46 w =>
      RD Tryz.prog (Op.unary .not x46) w fun x47 =>
      BR x47
       (R (Value.bool false) w)
       (RD Tryz.prog (Instr.loadAt 35 x7) w fun x48 =>
       CALL Tryz.prog 24 [x48, (Value.int .i64 1)] w fun x50 w =>
       CALL Tryz.prog 25 [x30, x50] w fun x53 w =>
       RD Tryz.prog (bin .lss 3 (.tmp 0) (.const undef) x53 (Value.int .i64 0)) w fun x55 =>
       BR x55
       (R (Value.bool false) w)
       (CALL Tryz.prog 23 [x33, x26] w fun x59 w =>
       RD Tryz.prog (Op.unary .not x59) w fun x60 =>
       BR x60
        (R (Value.bool false) w)
        (CALL Tryz.prog 25 [x33, (Value.int .i64 1)] w fun x64 w =>
        CALL Tryz.prog 26 [x33, (Value.int .i64 1)] w fun x67 w =>
        RD Tryz.prog (bin .lss 3 (.tmp 0) (.const undef) x67 (Value.int .i64 0)) w fun x69 =>
        BR x69
         (R (Value.bool false) w)
         (RD Tryz.prog (bin .neq 3 (.tmp 0) (.tmp 0) x67 x64) w fun x72 =>
         BR x72
          (R (Value.bool false) w)
          (RD Tryz.prog (Instr.loadAt 26 x2) w fun x73 =>
          CALL Tryz.prog 15 [x73] w fun x74 w =>
          CALL Tryz.prog 21 [a1] w fun x76 w =>
          CALL Tryz.prog 22 [x74, x76] w fun x77 w =>
          CALL Tryz.prog 23 [x77, x26] w fun x80 w =>
          RD Tryz.prog (Op.unary .not x80) w fun x81 =>
          BR x81
           (R (Value.bool false) w)
           (CALL Tryz.prog 26 [x33, (Value.int .i64 1)] w fun x84 w =>
           RD Tryz.prog (bin .lss 3 (.tmp 0) (.const undef) x84 (Value.int .i64 0)) w fun x86 =>
           BR x86
            (R (Value.bool false) w)
            (RD Tryz.prog (bin .neq 3 (.tmp 0) (.tmp 0) x84 x64) w fun x89 =>
            BR x89
             (R (Value.bool false) w)
             (R (Value.bool true) w)))))))))) w) (World.drew1 w))))
def cfg4 : Cfg := { ext := extL, joins := [], loops := [], draws := [(13, [0, 1, 2, 3, 4], 4)], pars := [] }
theorem F4_eq (a0 a1 : Value) (w : World) (R : Value → World → Prop) : vcF Tryz.prog cfg4 Tryz.f4 [a0, a1] w R = F4 a0 a1 w R := by kernel_rfl
theorem F4_call {a0 a1 : Value} {w : World} {R : Value → World → Prop} (h : F4 a0 a1 w R) : CALL Tryz.prog 4 [a0, a1] w R :=
  call_of (g := cfg4) ent mixed Tryz.func4 (Nat.le_of_ble_eq_true (by kernel_rfl)) (by kernel_rfl) (F4_eq a0 a1 w R ▸ h)
theorem lawAskedIn {w : World} {v0 : Value} {W0 : World} {c : DCode} {v1 : Value} {W1 : World} {part : (List Int)}  (h0 : Is W0 v0 c) (e0 : Ext W0 w) (h1 : Is W1 v1 part) (e1 : Ext W1 w)  :
    CALL Tryz.prog 4 [v0, v1] w fun r w' => Ext w w' ∧ (r = .bool true) := by
  refine F4_call ?_
  unfold F4
  have hs_e0 := e0.size
  have hs_e1 := e1.size
  refine op_boxS ty26 rfl h0 e0 fun w1_ hx1_ hA2 hV2 => ?_
  have hs_hx1_ := hx1_.size
  have hln15 := is_len h1
  refine rd_len u23 h1 ?_
  refine rd_gtr ?_
  refine br (fun c1 => ?_) (fun c1 => ?_)
  · refine ⟨hx1_, ?_⟩
    first | rfl | contradiction | (exfalso; omega)
  · refine rd_var hV2 (Ext.refl w1_) ?_
    refine (szCode_ok h0 (e0.trans hx1_) (by omega) (by omega)).mono ?_
    rintro _ w2_ ⟨hx2_, n19, rfl, hn19⟩
    have hs_hx2_ := hx2_.size
    refine rd_lss ?_
    refine br (fun c2 => ?_) (fun c2 => ?_)
    · refine ⟨(hx1_.trans hx2_), ?_⟩
      first | rfl | contradiction | (exfalso; omega)
    · have hcd := cdOk_of14 (by omega) hn19 c2
      have hlr := askedL_len c part
      have hiw := ins_wCode c
      refine rd_var hV2 hx2_ ?_
      refine (toCode_ok (h0.ext (e0.trans (hx1_.trans hx2_))) (by omega)).mono ?_
      rintro r23 w3_ ⟨hx3_, o23⟩
      have o23 := o23.toI
      have hs_hx3_ := hx3_.size
      refine (toIntS_ok (h1.ext (e1.trans (hx1_.trans (hx2_.trans hx3_)))) (by omega)).mono ?_
      rintro r25 w4_ ⟨hx4_, o25⟩
      have o25 := o25.toI
      have hs_hx4_ := hx4_.size
      refine (specAskedIn_ok o23.is hx4_ o25.is (Ext.refl w4_) (by omega)).mono ?_
      rintro r26 w5_ ⟨hx5_, o26⟩
      have o26 := o26.toI
      have hs_hx5_ := hx5_.size
      refine rd_var hV2 (hx2_.trans (hx3_.trans (hx4_.trans hx5_))) ?_
      refine (toCode_ok (h0.ext (e0.trans (hx1_.trans (hx2_.trans (hx3_.trans (hx4_.trans hx5_)))))) (by omega)).mono ?_
      rintro r28 w6_ ⟨hx6_, o28⟩
      have o28 := o28.toI
      have hs_hx6_ := hx6_.size
      refine op_var zl35 rfl ty35 rfl o28.is (Ext.refl w6_) fun w7_ hx7_ hA7 hV7 => ?_
      have hs_hx7_ := hx7_.size
      have hg7 := hV7.lt
      refine (toIntS_ok (h1.ext (e1.trans (hx1_.trans (hx2_.trans (hx3_.trans (hx4_.trans (hx5_.trans (hx6_.trans hx7_)))))))) (by omega)).mono ?_
      rintro r30 w8_ ⟨hx8_, o30⟩
      have o30 := o30.toI
      have hs_hx8_ := hx8_.size
      refine rd_var hV7 hx8_ ?_
      refine (implAskedIn_ok o28.is (hx7_.trans hx8_) o30.is (Ext.refl w8_) (by omega)).mono ?_
      rintro r33 w9_ ⟨hx9_, o33⟩
      have o33 := o33.toI
      have hs_hx9_ := hx9_.size
      refine (eqIntS_ok2 o33.is (Ext.refl w9_) o26.is (hx6_.trans (hx7_.trans (hx8_.trans hx9_)))).mono ?_
      rintro _ w10_ ⟨hx10_, rfl⟩
      have hs_hx10_ := hx10_.size
      refine rd_nodec ?_
      refine br (fun c3 => ?_) (fun c3 => ?_)
      · refine ⟨(hx1_.trans (hx2_.trans (hx3_.trans (hx4_.trans (hx5_.trans (hx6_.trans (hx7_.trans (hx8_.trans (hx9_.trans hx10_))))))))), ?_⟩
        first | rfl | contradiction | (exfalso; omega)
      · have hx11_ := ext_drew w10_
        have hs_hx11_ := hx11_.size
        refine rd_var hV7 (hx8_.trans (hx9_.trans (hx10_.trans hx11_))) ?_
        refine rd_var hV2 (hx2_.trans (hx3_.trans (hx4_.trans (hx5_.trans (hx6_.trans (hx7_.trans (hx8_.trans (hx9_.trans (hx10_.trans hx11_))))))))) ?_
        refine (toCode_ok (h0.ext (e0.trans (hx1_.trans (hx2_.trans (hx3_.trans (hx4_.trans (hx5_.trans (hx6_.trans (hx7_.trans (hx8_.trans (hx9_.trans (hx10_.trans hx11_)))))))))))) (by omega)).mono ?_
        rintro r40 w12_ ⟨hx12_, o40⟩
        have o40 := o40.toI
        have hs_hx12_ := hx12_.size
        refine ⟨hx12_, ?_⟩
        refine (eqCode_ok o28.is (hx7_.trans (hx8_.trans (hx9_.trans (hx10_.trans (hx11_.trans hx12_))))) o40.is (Ext.refl w12_)).mono ?_
        rintro _ w13_ ⟨hx13_, rfl⟩
        have hs_hx13_ := hx13_.size
        refine rd_nodec ?_
        refine br (fun c4 => ?_) (fun c4 => ?_)
        · refine ⟨(hx1_.trans (hx2_.trans (hx3_.trans (hx4_.trans (hx5_.trans (hx6_.trans (hx7_.trans (hx8_.trans (hx9_.trans (hx10_.trans (hx11_.trans (hx12_.trans hx13_)))))))))))), ?_⟩
          first | rfl | contradiction | (exfalso; omega)
        · refine (toIntS_ok (h1.ext (e1.trans (hx1_.trans (hx2_.trans (hx3_.trans (hx4_.trans (hx5_.trans (hx6_.trans (hx7_.trans (hx8_.trans (hx9_.trans (hx10_.trans (hx11_.trans (hx12_.trans hx13_)))))))))))))) (by omega)).mono ?_
          rintro r45 w14_ ⟨hx14_, o45⟩
          have o45 := o45.toI
          have hs_hx14_ := hx14_.size
          refine (eqIntS_ok2 o30.is (hx9_.trans (hx10_.trans (hx11_.trans (hx12_.trans (hx13_.trans hx14_))))) o45.is (Ext.refl w14_)).mono ?_
          rintro _ w15_ ⟨hx15_, rfl⟩
          have hs_hx15_ := hx15_.size
          refine rd_nodec ?_
          refine br (fun c5 => ?_) (fun c5 => ?_)
          · refine ⟨(hx1_.trans (hx2_.trans (hx3_.trans (hx4_.trans (hx5_.trans (hx6_.trans (hx7_.trans (hx8_.trans (hx9_.trans (hx10_.trans (hx11_.trans (hx12_.trans (hx13_.trans (hx14_.trans hx15_)))))))))))))), ?_⟩
            first | rfl | contradiction | (exfalso; omega)
          · refine rd_var hV7 (hx8_.trans (hx9_.trans (hx10_.trans (hx11_.trans (hx12_.trans (hx13_.trans (hx14_.trans hx15_))))))) ?_
            refine (markCode_ok (o28.ext (hx7_.trans (hx8_.trans (hx9_.trans (hx10_.trans (hx11_.trans (hx12_.trans (hx13_.trans (hx14_.trans hx15_))))))))) (by omega) (by omega) (by omega)).mono ?_
            rintro _ w16_ ⟨n50, rfl, hn50, hc16_⟩
            have hs_hc16_ := hc16_.size
            have o23_c16 := (o23.ext (hx4_.trans (hx5_.trans (hx6_.trans (hx7_.trans (hx8_.trans (hx9_.trans (hx10_.trans (hx11_.trans (hx12_.trans (hx13_.trans (hx14_.trans hx15_)))))))))))).chg hc16_ (by omega)
            have o25_c16 := (o25.ext (hx5_.trans (hx6_.trans (hx7_.trans (hx8_.trans (hx9_.trans (hx10_.trans (hx11_.trans (hx12_.trans (hx13_.trans (hx14_.trans hx15_))))))))))).chg hc16_ (by omega)
            have o26_c16 := (o26.ext (hx6_.trans (hx7_.trans (hx8_.trans (hx9_.trans (hx10_.trans (hx11_.trans (hx12_.trans (hx13_.trans (hx14_.trans hx15_)))))))))).chg hc16_ (by omega)
            have hV7_c16 := (hV7.ext (hx8_.trans (hx9_.trans (hx10_.trans (hx11_.trans (hx12_.trans (hx13_.trans (hx14_.trans hx15_)))))))).chgI hc16_ (by omega)
            have o30_c16 := (o30.ext (hx9_.trans (hx10_.trans (hx11_.trans (hx12_.trans (hx13_.trans (hx14_.trans hx15_))))))).chg hc16_ (by omega)
            have o33_c16 := (o33.ext (hx10_.trans (hx11_.trans (hx12_.trans (hx13_.trans (hx14_.trans hx15_)))))).chg hc16_ (by omega)
            have o40_c16 := (o40.ext (hx13_.trans (hx14_.trans hx15_))).chg hc16_ (by omega)
            have o45_c16 := (o45.ext hx15_).chg hc16_ (by omega)
            refine (markIntS_I (o30_c16.ext (Ext.refl w16_)) (by omega) (by omega) (by omega)).mono ?_
            rintro _ w17_ ⟨rfl, hc17_, o30_c17⟩
            have hs_hc17_ := hc17_.size
            have o23_c17 := (o23_c16.ext (Ext.refl w16_)).chg hc17_ (by omega)
            have o25_c17 := (o25_c16.ext (Ext.refl w16_)).chg hc17_ (by omega)
            have o26_c17 := (o26_c16.ext (Ext.refl w16_)).chg hc17_ (by omega)
            have o33_c17 := (o33_c16.ext (Ext.refl w16_)).chg hc17_ (by omega)
            have o40_c17 := (o40_c16.ext (Ext.refl w16_)).chg hc17_ (by omega)
            have o45_c17 := (o45_c16.ext (Ext.refl w16_)).chg hc17_ (by omega)
            refine rd_lss ?_
            refine br (fun c6 => ?_) (fun c6 => ?_)
            · refine ⟨(Ext.chgI (Ext.chgI ((((((((((((((hx1_.trans hx2_).trans hx3_).trans hx4_).trans hx5_).trans hx6_).trans hx7_).trans hx8_).trans hx9_).trans hx10_).trans hx11_).trans hx12_).trans hx13_).trans hx14_).trans hx15_) hc16_ (by omega)) hc17_ (by omega)), ?_⟩
              first | rfl | contradiction | (exfalso; omega)
            · refine (eqIntS_ok2 o33_c17.is (Ext.refl w17_) o26_c17.is (Ext.refl w17_)).mono ?_
              rintro _ w18_ ⟨hx18_, rfl⟩
              have hs_hx18_ := hx18_.size
              refine rd_nodec ?_
              refine br (fun c7 => ?_) (fun c7 => ?_)
              · refine ⟨((Ext.chgI (Ext.chgI ((((((((((((((hx1_.trans hx2_).trans hx3_).trans hx4_).trans hx5_).trans hx6_).trans hx7_).trans hx8_).trans hx9_).trans hx10_).trans hx11_).trans hx12_).trans hx13_).trans hx14_).trans hx15_) hc16_ (by omega)) hc17_ (by omega)).trans hx18_), ?_⟩
                first | rfl | contradiction | (exfalso; omega)
              · refine (markIntS_I (o33_c17.ext hx18_) (by omega) (by omega) (by omega)).mono ?_
                rintro _ w19_ ⟨rfl, hc19_, o33_c19⟩
                have hs_hc19_ := hc19_.size
                have o23_c19 := (o23_c17.ext hx18_).chg hc19_ (by omega)
                have o25_c19 := (o25_c17.ext hx18_).chg hc19_ (by omega)
                have o26_c19 := (o26_c17.ext hx18_).chg hc19_ (by omega)
                have o30_c19 := (o30_c17.ext hx18_).chg hc19_ (by omega)
                have o40_c19 := (o40_c17.ext hx18_).chg hc19_ (by omega)
                have o45_c19 := (o45_c17.ext hx18_).chg hc19_ (by omega)
                refine (heldIntS_is o33_c19.is (Ext.refl w19_) (by omega) (by omega) (by omega)).mono ?_
                rintro _ w20_ ⟨hx20_, rfl⟩
                have hs_hx20_ := hx20_.size
                refine rd_lss ?_
                refine br (fun c8 => ?_) (fun c8 => ?_)
                · refine ⟨((Ext.chgI ((Ext.chgI (Ext.chgI ((((((((((((((hx1_.trans hx2_).trans hx3_).trans hx4_).trans hx5_).trans hx6_).trans hx7_).trans hx8_).trans hx9_).trans hx10_).trans hx11_).trans hx12_).trans hx13_).trans hx14_).trans hx15_) hc16_ (by omega)) hc17_ (by omega)).trans hx18_) hc19_ (by omega)).trans hx20_), ?_⟩
                  first | rfl | contradiction | (exfalso; omega)
                · refine rd_neq ?_
                  refine br (fun c9 => ?_) (fun c9 => ?_)
                  · refine ⟨((Ext.chgI ((Ext.chgI (Ext.chgI ((((((((((((((hx1_.trans hx2_).trans hx3_).trans hx4_).trans hx5_).trans hx6_).trans hx7_).trans hx8_).trans hx9_).trans hx10_).trans hx11_).trans hx12_).trans hx13_).trans hx14_).trans hx15_) hc16_ (by omega)) hc17_ (by omega)).trans hx18_) hc19_ (by omega)).trans hx20_), ?_⟩
                    first | rfl | contradiction | (exfalso; omega)
                  · refine rd_var hV2 ((Ext.chgI ((Ext.chgI (Ext.chgI (((((((((((((hx2_.trans hx3_).trans hx4_).trans hx5_).trans hx6_).trans hx7_).trans hx8_).trans hx9_).trans hx10_).trans hx11_).trans hx12_).trans hx13_).trans hx14_).trans hx15_) hc16_ (by omega)) hc17_ (by omega)).trans hx18_) hc19_ (by omega)).trans hx20_) ?_
                    refine (toCode_ok (h0.ext ((Ext.chgI ((Ext.chgI (Ext.chgI (((((((((((((((e0.trans hx1_).trans hx2_).trans hx3_).trans hx4_).trans hx5_).trans hx6_).trans hx7_).trans hx8_).trans hx9_).trans hx10_).trans hx11_).trans hx12_).trans hx13_).trans hx14_).trans hx15_) hc16_ (by omega)) hc17_ (by omega)).trans hx18_) hc19_ (by omega)).trans hx20_)) (by omega)).mono ?_
                    rintro r74 w21_ ⟨hx21_, o74⟩
                    have o74 := o74.toI
                    have hs_hx21_ := hx21_.size
                    refine (toIntS_ok (h1.ext (((Ext.chgI ((Ext.chgI (Ext.chgI (((((((((((((((e1.trans hx1_).trans hx2_).trans hx3_).trans hx4_).trans hx5_).trans hx6_).trans hx7_).trans hx8_).trans hx9_).trans hx10_).trans hx11_).trans hx12_).trans hx13_).trans hx14_).trans hx15_) hc16_ (by omega)) hc17_ (by omega)).trans hx18_) hc19_ (by omega)).trans hx20_).trans hx21_)) (by omega)).mono ?_
                    rintro r76 w22_ ⟨hx22_, o76⟩
                    have o76 := o76.toI
                    have hs_hx22_ := hx22_.size
                    refine (implAskedIn_ok o74.is hx22_ o76.is (Ext.refl w22_) (by omega)).mono ?_
                    rintro r77 w23_ ⟨hx23_, o77⟩
                    have o77 := o77.toI
                    have hs_hx23_ := hx23_.size
                    refine (eqIntS_ok2 o77.is (Ext.refl w23_) o26_c19.is (hx20_.trans (hx21_.trans (hx22_.trans hx23_)))).mono ?_
                    rintro _ w24_ ⟨hx24_, rfl⟩
                    have hs_hx24_ := hx24_.size
                    refine rd_nodec ?_
                    refine br (fun c10 => ?_) (fun c10 => ?_)
                    · refine ⟨((((((Ext.chgI ((Ext.chgI (Ext.chgI ((((((((((((((hx1_.trans hx2_).trans hx3_).trans hx4_).trans hx5_).trans hx6_).trans hx7_).trans hx8_).trans hx9_).trans hx10_).trans hx11_).trans hx12_).trans hx13_).trans hx14_).trans hx15_) hc16_ (by omega)) hc17_ (by omega)).trans hx18_) hc19_ (by omega)).trans hx20_).trans hx21_).trans hx22_).trans hx23_).trans hx24_), ?_⟩
                      first | rfl | contradiction | (exfalso; omega)
                    · refine (heldIntS_is o33_c19.is (hx20_.trans (hx21_.trans (hx22_.trans (hx23_.trans hx24_)))) (by omega) (by omega) (by omega)).mono ?_
                      rintro _ w25_ ⟨hx25_, rfl⟩
                      have hs_hx25_ := hx25_.size
                      refine rd_lss ?_
                      refine br (fun c11 => ?_) (fun c11 => ?_)
                      · refine ⟨(((((((Ext.chgI ((Ext.chgI (Ext.chgI ((((((((((((((hx1_.trans hx2_).trans hx3_).trans hx4_).trans hx5_).trans hx6_).trans hx7_).trans hx8_).trans hx9_).trans hx10_).trans hx11_).trans hx12_).trans hx13_).trans hx14_).trans hx15_) hc16_ (by omega)) hc17_ (by omega)).trans hx18_) hc19_ (by omega)).trans hx20_).trans hx21_).trans hx22_).trans hx23_).trans hx24_).trans hx25_), ?_⟩
                        first | rfl | contradiction | (exfalso; omega)
                      · refine rd_neq ?_
                        refine br (fun c12 => ?_) (fun c12 => ?_)
                        · refine ⟨(((((((Ext.chgI ((Ext.chgI (Ext.chgI ((((((((((((((hx1_.trans hx2_).trans hx3_).trans hx4_).trans hx5_).trans hx6_).trans hx7_).trans hx8_).trans hx9_).trans hx10_).trans hx11_).trans hx12_).trans hx13_).trans hx14_).trans hx15_) hc16_ (by omega)) hc17_ (by omega)).trans hx18_) hc19_ (by omega)).trans hx20_).trans hx21_).trans hx22_).trans hx23_).trans hx24_).trans hx25_), ?_⟩
                          first | rfl | contradiction | (exfalso; omega)
                        · refine ⟨(((((((Ext.chgI ((Ext.chgI (Ext.chgI ((((((((((((((hx1_.trans hx2_).trans hx3_).trans hx4_).trans hx5_).trans hx6_).trans hx7_).trans hx8_).trans hx9_).trans hx10_).trans hx11_).trans hx12_).trans hx13_).trans hx14_).trans hx15_) hc16_ (by omega)) hc17_ (by omega)).trans hx18_) hc19_ (by omega)).trans hx20_).trans hx21_).trans hx22_).trans hx23_).trans hx24_).trans hx25_), ?_⟩
                          first | rfl | contradiction | (exfalso; omega)
end Go.Proofs.YtjgfldfbljmhhaaGreat
namespace Go.Proofs.YtjgfldfbljmhhaaGreat
open Go Go.Sh Go.Proofs
theorem rdInts : ∀ n, Reads Tryz.prog 23 (List Int) n := reads_all_slice u23 (by kernel_rfl) (reads_int u3)
end Go.Proofs.YtjgfldfbljmhhaaGreat
namespace Go.Proofs.YtjgfldfbljmhhaaGreat
open Go Go.Sh Go.Proofs
theorem rdTerm : ∀ n, Reads Tryz.prog 123 DTerm n ∧ Reads Tryz.prog 121 (List DTerm) n
  | 0 => ⟨reads_zero, reads_zero⟩
  | n + 1 => ⟨reads_tup (reads_struct (α := Int × Int × ByteArray × List DTerm) us123 (by kernel_rfl)
      (.cons rfl (by kernel_rfl) (reads_int u3 n) (.cons rfl (by kernel_rfl) (reads_int u3 n) (.cons rfl (by kernel_rfl) (reads_str u9 n) (.one rfl (by kernel_rfl) (rdTerm n).2))))),
    reads_slice u121 (by kernel_rfl) (rdTerm n).1⟩
theorem rdStrs : ∀ n, Reads Tryz.prog 22 (List ByteArray) n := reads_all_slice u22 (by kernel_rfl) (reads_str u9)
theorem rdIns : ∀ n, Reads Tryz.prog 125 DIns n := fun n =>
  reads_via (g := fun p => ⟨p.1, p.2.1, p.2.2.1, p.2.2.2⟩) (fun _ => rfl) (reads_all_struct (α := Int × Int × DTerm × Int) us125 (by kernel_rfl)
    (fun n => .cons rfl (by kernel_rfl) (reads_int u3 n) (.cons rfl (by kernel_rfl) (reads_int u3 n) (.cons rfl (by kernel_rfl) (rdTerm n).1 (.one rfl (by kernel_rfl) (reads_int u3 n))))) n)
theorem rdInss : ∀ n, Reads Tryz.prog 24 (List DIns) n := reads_all_slice u24 (by kernel_rfl) rdIns
theorem rdIntsC : ∀ n, Reads Tryz.prog 23 (List Int) n := reads_all_slice u23 (by kernel_rfl) (reads_int u3)
theorem rdCode : ∀ n, Reads Tryz.prog 26 DCode n := fun n =>
  reads_via (g := fun p => ⟨p.1, p.2.1, p.2.2.1, p.2.2.2.1, p.2.2.2.2⟩) (fun _ => rfl) (reads_all_struct (α := List ByteArray × List ByteArray × List ByteArray × List Int × List DIns) us26 (by kernel_rfl)
    (fun n => .cons rfl (by kernel_rfl) (rdStrs n) (.cons rfl (by kernel_rfl) (rdStrs n) (.cons rfl (by kernel_rfl) (rdStrs n) (.cons rfl (by kernel_rfl) (rdIntsC n) (.one rfl (by kernel_rfl) (rdInss n)))))) n)
end Go.Proofs.YtjgfldfbljmhhaaGreat
namespace Go.Proofs.YtjgfldfbljmhhaaGreat
open Go
theorem and_tt {a b : Bool} (h : a = true) (k : b = true) : (a && b) = true := by rw [h, k]; rfl
theorem fa_laid : laidOutB Tryz.prog = true := by kernel_rfl
theorem fa_maps : mapsRowed Tryz.prog = true := by kernel_rfl
theorem fa_plain : (Rows.fnExactHeldRightRow.plainKeys == Tryz.prog.plainKeys) = true := by kernel_rfl
theorem fa_heard : Tryz.prog.stopsHeard = true := by kernel_rfl
theorem fa_may : Tryz.prog.mayEnter = true := by kernel_rfl
theorem fa_lift : (Rows.fnExactHeldRightRow.lifted == Tryz.prog.liftsFinal) = true := by kernel_rfl
theorem fa_make : (Tryz.prog.make == some Rows.fnExactHeldRightRow.make) = true := by kernel_rfl
end Go.Proofs.YtjgfldfbljmhhaaGreat
namespace Go.Proofs.YtjgfldfbljmhhaaGreat.fnExactAskedIn
open Go.ChangeShapes Go.WideShapes Go.ChangeAt Go.RowKit Go.Sh
set_option linter.unusedVariables false
theorem own : ownKnob Tryz.prog.godebug = none := by kernel_rfl
theorem laidOut : laidOutB Tryz.prog = true := by kernel_rfl
set_option maxRecDepth 100000 in
theorem lifted (os : Os) (started : os.Started) (H : Type) (enc : TypeId × Value → H) :
    ReturnsInHanded {} Tryz.checked os 4 .any (Rows.fnExactAskedInSpec.pre6 enc Tryz.prog Tryz.f4 Rows.fnExactAskedInRow.domain false) (Rows.fnExactAskedInSpec.post enc Tryz.prog Tryz.f4 false true false false) := by
  refine returnsInHanded_of_change (C := Tryz.checked) own started (by kernel_rfl) Tryz.func4
    (ChangeSpec.witness6 (enc := enc) (C := Tryz.checked) false ⟨#[], #[.agg #[.slice none 0 0, .slice none 0 0, .slice none 0 0, .slice none 0 0, .slice none 0 0], .slice none 0 0], []⟩ 8 (by kernel_rfl) (by kernel_rfl) (by kernel_rfl) (by kernel_rfl)) ?_
  intro W base args ds gs before hval0 hW hcnd _
  have hval : ∀ (j : Nat) t v, Tryz.f4.params[j]? = some t → args[j]? = some v → Value.okWide Tryz.prog W .any base t v := hval0
  have hW' := hW
  obtain ⟨p, q, hA0, hV, rfl, hfz, hnd⟩ := hW
  have hA : DataW.TrodAll enc Tryz.prog W 0 (fun _ => true) true Tryz.f4.params.toList args.toList ds p := hA0
  rw [Tryz.params4] at hA hval
  obtain ⟨v0, vs0, d0, ds0, p0, q0, hargs, rfl, rfl, h0, r0⟩ := trodAll_cons hA
  obtain ⟨v1, vs1, d1, ds1, p1, q1, rfl, rfl, rfl, h1, r1⟩ := trodAll_cons r0
  obtain ⟨rfl, rfl, rfl⟩ := trodAll_nil r1
  obtain rfl : args = #[v0, v1] := by cases args; simp_all
  obtain ⟨rfl, rfl⟩ := trodVars_none hV
  have lt0 : ∀ x ∈ p0, x.block < W.heap.size := by obtain ⟨m, hm⟩ := h0; exact DataW.trod_lt m _ _ _ hm
  obtain ⟨x0, i0⟩ := is_of_struct (α := DCode) us26 rfl rdCode (hval 0 26 v0 rfl rfl) h0
  have lt1 : ∀ x ∈ p1, x.block < W.heap.size := by obtain ⟨m, hm⟩ := h1; exact DataW.trod_lt m _ _ _ hm
  obtain ⟨x1, i1⟩ := is_of_slice (α := Int) u23 rdInts (hval 1 23 v1 rfl rfl) h1
  clear hA0 hval0
  obtain ⟨hcall⟩ := lawAskedIn i0 (Ext.refl W) i1 (Ext.refl W)
  refine hcall.mono fun e W' ⟨v, he, bel, hv⟩ => ?_
  subst he hv
  exact ⟨_, rfl, _, _, _, [], _, [], hW', trodAll_mk1 (shut_bool Tryz.underlying4 _), (trodAll_cons_mk (Below.trod laidOut (by kernel_rfl) (of_decide_eq_true (by kernel_rfl)) h0 bel lt0) (trodAll_cons_mk (Below.trod laidOut (by kernel_rfl) (of_decide_eq_true (by kernel_rfl)) h1 bel lt1) trodAll_mk0)), rfl, bel.frame _, fun h => by cases h⟩
theorem j_inPlace : (Rows.fnExactAskedInRow.inPlace == Tryz.prog.inPlace 4) = true := by kernel_rfl
theorem j_unfollowed : (Rows.fnExactAskedInRow.unfollowed == Tryz.prog.unfollowed 4) = true := by kernel_rfl
theorem j_recurses : (Rows.fnExactAskedInRow.recurses == Tryz.prog.recurses 4) = true := by kernel_rfl
theorem j_named : (Rows.fnExactAskedInRow.named == Tryz.prog.varsNamed 4) = true := by kernel_rfl
theorem closed : joinedFacts Tryz.prog 4 Tryz.f4 Rows.fnExactAskedInSpec Rows.fnExactAskedInRow = true := by
  unfold joinedFacts
  exact (and_tt (and_tt (and_tt (and_tt (and_tt (and_tt (and_tt (and_tt (and_tt (and_tt (and_tt (and_tt (and_tt (and_tt (and_tt (and_tt (and_tt (and_tt (and_tt (and_tt (and_tt (and_tt (and_tt (and_tt (and_tt (and_tt (and_tt (and_tt (and_tt (and_tt (and_tt (by kernel_rfl) fa_laid) fa_maps) (by kernel_rfl)) (by kernel_rfl)) (by kernel_rfl)) (by kernel_rfl)) (by kernel_rfl)) (by kernel_rfl)) j_inPlace) j_unfollowed) j_recurses) j_named) (by kernel_rfl)) (by kernel_rfl)) (by kernel_rfl)) (by kernel_rfl)) (by kernel_rfl)) (by kernel_rfl)) (by kernel_rfl)) (by kernel_rfl)) (by kernel_rfl)) fa_plain) (by kernel_rfl)) fa_heard) fa_may) fa_lift) fa_make) (by kernel_rfl)) (by kernel_rfl)) (by kernel_rfl)) (by kernel_rfl))
theorem over : Rows.fnExactAskedInRow.holds Tryz.pinned (OpenSpec.ofChange Rows.fnExactAskedInSpec) :=
  OpenClaim.holds_of_wide 4 Tryz.f4 rfl rfl rfl rfl rfl rfl rfl ⟨rfl, rfl, rfl, rfl, rfl⟩ rfl rfl rfl rfl rfl (by kernel_rfl) Tryz.func4 closed
    (of_decide_eq_true (by kernel_rfl)) (by unfold Func.isWrapper; first | (rw [if_pos (by decide +kernel)]; kernel_rfl) | (rw [if_neg (by decide +kernel)]; exact ⟨rfl, rfl⟩))
    (fun os started H enc _ => lifted os started H enc)
theorem proved : Rows.FnExactAskedInSaid := over
end Go.Proofs.YtjgfldfbljmhhaaGreat.fnExactAskedIn
