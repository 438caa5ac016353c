/-
  The law FnExactRacesOf of the given program returns true for every input, and its arguments read afterwards as before: the given statement Rows.FnExactRacesOfSaid.
-/
import Derived.Test.YtjgfldfbljmhhaaGreatPRacesOf6
namespace Go.Proofs.YtjgfldfbljmhhaaGreat
open Go Go.Sh Go.Proofs
set_option linter.unusedVariables false
set_option linter.unusedSimpArgs false
open Rep (rep)
def F174 (a0 : Value) (w : World) (R : VW) : Prop :=
 OP tp (Instr.box 35 a0) w fun x1 w =>
 RD tp (Instr.loadAt 35 x1) w fun x13 =>
 CALL tp 117 [x13] w fun x14 w =>
 OP tp (Instr.buildSlice 161 0 #[]) w fun x15 w =>
 OP tp (Instr.buildSlice 72 0 #[]) w fun x16 w =>
 LOOPI [4, 5, 6] [x15, x16, (Value.int .i64 0)] w fun u5 w next5 =>
 RD tp (Instr.fieldAt 35 x1 2) w fun x18 =>
 RD tp (Instr.loadAt 22 x18) w fun x19 =>
 RD tp (ln 22 3 x19) w fun x20 =>
 RD tp (bin .lss 3 T0 T0 (u5 6) x20) w fun x21 =>
 BR x21
 (RD tp (Instr.loadAt 35 x1) w fun x25 =>
 CALL tp 186 [x25, (u5 6)] w fun x27 w =>
 OP tp (Instr.buildSlice 161 1 #[(0, x27)]) w fun x28 w =>
 OP tp (Builtin.append_ #[161, 161] 161 [(u5 4), x28].toArray) w fun x29 w =>
 RD tp (Instr.indexAt 72 x14 (u5 6)) w fun x33 =>
 RD tp (Instr.loadAt 4 x33) w fun x34 =>
 BR x34
 (RD tp (Instr.loadAt 35 x1) w fun x36 =>
 CALL tp 229 [x36, (u5 6)] w fun x38 w =>
 OP tp (Instr.buildSlice 72 1 #[(0, x38)]) w fun x40 w =>
 OP tp (Builtin.append_ #[72, 72] 72 [(u5 5), x40].toArray) w fun x41 w =>
 RD tp (bin .add 3 T0 U0 (u5 6) (Value.int .i64 1)) w fun x23 =>
 next5 [x29, x41, x23] w)
 (OP tp (Instr.buildSlice 72 1 #[(0, (Value.bool false))]) w fun x40 w =>
 OP tp (Builtin.append_ #[72, 72] 72 [(u5 5), x40].toArray) w fun x41 w =>
 RD tp (bin .add 3 T0 U0 (u5 6) (Value.int .i64 1)) w fun x23 =>
 next5 [x29, x41, x23] w))
 (OP tp (Instr.buildSlice 161 0 #[]) w fun x42 w =>
 LOOPI [7, 8] [x42, (Value.int .i64 0)] w fun u11 w next11 =>
 RD tp (Instr.fieldAt 35 x1 2) w fun x44 =>
 RD tp (Instr.loadAt 22 x44) w fun x45 =>
 RD tp (ln 22 3 x45) w fun x46 =>
 RD tp (bin .lss 3 T0 T0 (u11 8) x46) w fun x47 =>
 BR x47
 (RD tp (Instr.fieldAt 35 x1 2) w fun x50 =>
 RD tp (Instr.loadAt 22 x50) w fun x51 =>
 RD tp (ln 22 3 x51) w fun x52 =>
 OP tp (Instr.makeSlice 72 x52 x52) w fun x53 w =>
 LOOPI [10] [(Value.int .i64 0)] w fun u15 w next15 =>
 RD tp (Instr.fieldAt 35 x1 2) w fun x55 =>
 RD tp (Instr.loadAt 22 x55) w fun x56 =>
 RD tp (ln 22 3 x56) w fun x57 =>
 RD tp (bin .lss 3 T0 T0 (u15 10) x57) w fun x58 =>
 BR x58
 (LOOPI [11] [(Value.int .i64 0)] w fun u18 w next18 =>
 RD tp (Instr.fieldAt 35 x1 2) w fun x62 =>
 RD tp (Instr.loadAt 22 x62) w fun x63 =>
 RD tp (ln 22 3 x63) w fun x64 =>
 RD tp (bin .lss 3 T0 T0 (u18 11) x64) w fun x65 =>
 BR x65
 (LOOPI [12] [(Value.int .i64 0)] w fun u21 w next21 =>
 RD tp (Instr.fieldAt 35 x1 2) w fun x69 =>
 RD tp (Instr.loadAt 22 x69) w fun x70 =>
 RD tp (ln 22 3 x70) w fun x71 =>
 RD tp (bin .lss 3 T0 T0 (u21 12) x71) w fun x72 =>
 BR x72
 (RD tp (Instr.indexAt 72 x14 (u18 11)) w fun x77 =>
 RD tp (Instr.loadAt 4 x77) w fun x78 =>
 BR x78
 (RD tp (Instr.indexAt 72 x14 (u21 12)) w fun x82 =>
 RD tp (Instr.loadAt 4 x82) w fun x83 =>
 BR x83
 (RD tp (Instr.indexAt 161 (u5 4) (u18 11)) w fun x88 =>
 RD tp (Instr.loadAt 72 x88) w fun x89 =>
 RD tp (Instr.indexAt 72 x89 (u11 8)) w fun x91 =>
 RD tp (Instr.loadAt 4 x91) w fun x92 =>
 BR x92
 (RD tp (Instr.indexAt 161 (u5 4) (u21 12)) w fun x97 =>
 RD tp (Instr.loadAt 72 x97) w fun x98 =>
 RD tp (Instr.indexAt 72 x98 (u15 10)) w fun x100 =>
 RD tp (Instr.loadAt 4 x100) w fun x101 =>
 BR x101
 (RD tp (bin .neq 3 T0 T0 (u18 11) (u21 12)) w fun x106 =>
 GBR x106
 (RD tp (Instr.indexAt 72 x53 (u15 10)) w fun x117 =>
 OPU tp (Instr.storeAt 4 x117 (Value.bool true)) w fun w =>
 RD tp (bin .add 3 T0 U0 (u21 12) (Value.int .i64 1)) w fun x74 =>
 next21 [x74] w)
 (RD tp (Instr.indexAt 72 (u5 5) (u18 11)) w fun x110 =>
 RD tp (Instr.loadAt 4 x110) w fun x111 =>
 RD tp (Op.unary .not x111) w fun x112 =>
 BR x112
 (RD tp (Instr.indexAt 72 x53 (u15 10)) w fun x117 =>
 OPU tp (Instr.storeAt 4 x117 (Value.bool true)) w fun w =>
 RD tp (bin .add 3 T0 U0 (u21 12) (Value.int .i64 1)) w fun x74 =>
 next21 [x74] w)
 (RD tp (bin .add 3 T0 U0 (u21 12) (Value.int .i64 1)) w fun x74 =>
 next21 [x74] w))
 (BR undef
 (RD tp (Instr.indexAt 72 x53 (u15 10)) w fun x117 =>
 OPU tp (Instr.storeAt 4 x117 (Value.bool true)) w fun w =>
 RD tp (bin .add 3 T0 U0 (u21 12) (Value.int .i64 1)) w fun x74 =>
 next21 [x74] w)
 (BR undef
 (RD tp (Instr.indexAt 72 x53 (u15 10)) w fun x117 =>
 OPU tp (Instr.storeAt 4 x117 (Value.bool true)) w fun w =>
 RD tp (bin .add 3 T0 U0 (u21 12) (Value.int .i64 1)) w fun x74 =>
 next21 [x74] w)
 (RD tp (bin .add 3 T0 U0 (u21 12) (Value.int .i64 1)) w fun x74 =>
 next21 [x74] w))))
 (RD tp (bin .add 3 T0 U0 (u21 12) (Value.int .i64 1)) w fun x74 =>
 next21 [x74] w))
 (RD tp (bin .add 3 T0 U0 (u21 12) (Value.int .i64 1)) w fun x74 =>
 next21 [x74] w))
 (RD tp (bin .add 3 T0 U0 (u21 12) (Value.int .i64 1)) w fun x74 =>
 next21 [x74] w))
 (RD tp (bin .add 3 T0 U0 (u21 12) (Value.int .i64 1)) w fun x74 =>
 next21 [x74] w))
 (RD tp (bin .add 3 T0 U0 (u18 11) (Value.int .i64 1)) w fun x67 =>
 next18 [x67] w))
 (RD tp (bin .add 3 T0 U0 (u15 10) (Value.int .i64 1)) w fun x60 =>
 next15 [x60] w))
 (OP tp (Instr.buildSlice 161 1 #[(0, x53)]) w fun x120 w =>
 OP tp (Builtin.append_ #[161, 161] 161 [(u11 7), x120].toArray) w fun x121 w =>
 RD tp (bin .add 3 T0 U0 (u11 8) (Value.int .i64 1)) w fun x49 =>
 next11 [x121, x49] w))
 (R (u11 7) w))
def cfg174 : Cfg := ⟨extL, [], [(5, 4398046380144, [4, 5, 6]), (11, 5316911983139663491615219445028364160, [7, 8]), (15, 332306998946228968207937366560611328, [10]), (18, 332306998946228965920108755856398336, [11]), (21, 332306998946228673078046585717264384, [12])], [], [], [], []⟩
theorem F174_eq (a0 : Value) (w : World) (R : VW) : vcF Tryz.prog cfg174 Tryz.f174 [a0] w R = F174 a0 w R := by kernel_rfl
theorem F174_call {a0 : Value} {w : World} {R : VW} (h : F174 a0 w R) : CALL Tryz.prog 174 [a0] w R :=
 call_of (g := cfg174) ent mixed Tryz.func174 (Nat.le_of_ble_eq_true (by kernel_rfl)) (by kernel_rfl) (F174_eq a0 w R ▸ h)
set_option linter.unusedVariables false
set_option linter.unusedSimpArgs false
open Rep (rep)
theorem gbr_key {b : Bool} {Q kt kf ks : Prop} (hq : b = true → Q) (key : Q → kt) (rest : (Q → kt) → b = false → kf) : GBR (.bool b) kt kf ks :=
 gbr_b (fun h => key (hq h)) (fun h => rest key h)
structure KQ2 (Q : List Nat → World → Prop) : Prop where
 keep : ∀ {F : List Nat} {w w' : World}, Q F w → (∀ b ∈ F, w'.heap[b]? = w.heap[b]?) → Q F w'
 lt : ∀ {F : List Nat} {w : World}, Q F w → ∀ b ∈ F, b < w.heap.size
structure TT (Q1 Q2 : List Nat → World → Prop) (wb w : World) (F1 F2 : List Nat) : Prop where
 ext : Ext wb w
 q1 : Q1 F1 w
 q2 : Q2 F2 w
 b1 : ∀ b ∈ F1, wb.heap.size ≤ b
 b2 : ∀ b ∈ F2, wb.heap.size ≤ b
 dis : ∀ b ∈ F1, b ∉ F2
section
variable {Q1 Q1' Q2 : List Nat → World → Prop} {wb w w1 w' : World} {F1 F2 F' : List Nat}
theorem TT.swap (h : TT Q1 Q2 wb w F1 F2) : TT Q2 Q1 wb w F2 F1 := ⟨h.ext, h.q2, h.q1, h.b2, h.b1, fun b hb hF => h.dis b hF hb⟩
theorem TT.step (k1 : KQ2 Q1) (k2 : KQ2 Q2) (h : TT Q1 Q2 wb w F1 F2) (hx : Ext w w') : TT Q1 Q2 wb w' F1 F2 :=
 ⟨h.ext.trans hx, k1.keep h.q1 fun b hb => hx.heap (k1.lt h.q1 b hb), k2.keep h.q2 fun b hb => hx.heap (k2.lt h.q2 b hb), h.b1, h.b2, h.dis⟩
theorem TT.grow (k1 : KQ2 Q1) (k2 : KQ2 Q2) (h : TT Q1 Q2 wb w F1 F2) {GX : List Nat} (hx : Ext w w1) (hc : Chg F1 w1 w') (hr : Q1' F' w') (hs : ∀ c ∈ F', c ∈ F1 ∨ c ∈ GX ∨ w.heap.size ≤ c) (hG : ∀ c ∈ GX, wb.heap.size ≤ c ∧ c ∉ F2) : TT Q1' Q2 wb w' F' F2 := by
 have h1 := h.step k1 k2 hx
 refine ⟨h1.ext.chgF hc h.b1, hr, k2.keep h1.q2 fun b hb => hc.block b (k2.lt h1.q2 b hb) fun hF => h.dis b hF hb, fun b hb => ?_, h.b2, fun b hb hF => ?_⟩
 · rcases hs b hb with h2 | h2 | h2
   · exact h.b1 b h2
   · exact (hG b h2).1
   · have := h.ext.size; omega
 · rcases hs b hb with h2 | h2 | h2
   · exact h.dis b h2 hF
   · exact (hG b h2).2 hF
   · have := k2.lt h.q2 b hF; omega
end
def RowQ {α : Type} [Rep α] (e : TypeId) (v : Value) (L : List α) (F : List Nat) (w : World) : Prop := RowG F e w v L ∧ F.Nodup
theorem kq2Row {α : Type} [Rep α] (e : TypeId) (v : Value) (L : List α) : KQ2 (RowQ e v L) := ⟨fun h hk => ⟨h.1.keep hk, h.2⟩, fun h => h.1.lt⟩
def BesR (c : DCode) (a b r s : Nat) : Prop := RootP c r ∧ RootP c s ∧ FromP c r a ∧ FromP c s b ∧ (r ≠ s ∨ ¬ SingP c r)
def BesP (c : DCode) (a b : Nat) : Prop := ∃ r s, BesR c a b r s
noncomputable instance (c : DCode) (r : Nat) : Decidable (RootP c r) := Classical.propDecidable _
noncomputable def fromL (c : DCode) (k : Nat) : List (List Bool) := (List.range k).map fun r => setB c.procs.length (FromP c r)
noncomputable def singL (c : DCode) (k : Nat) : List Bool := (List.range k).map fun r => decide (RootP c r ∧ SingP c r)
noncomputable def tabL (c : DCode) (k : Nat) : List (List Bool) := (List.range k).map fun a => setB c.procs.length (BesP c a)
theorem fromL_succ (c : DCode) (k : Nat) : fromL c (k + 1) = fromL c k ++ [setB c.procs.length (FromP c k)] := by unfold fromL; rw [List.range_succ, List.map_append]; rfl
theorem singL_succ (c : DCode) (k : Nat) : singL c (k + 1) = singL c k ++ [decide (RootP c k ∧ SingP c k)] := by unfold singL; rw [List.range_succ, List.map_append]; rfl
theorem tabL_succ (c : DCode) (k : Nat) : tabL c (k + 1) = tabL c k ++ [setB c.procs.length (BesP c k)] := by unfold tabL; rw [List.range_succ, List.map_append]; rfl
theorem mine_bool {w : World} (b : Bool) : Mine [] w (.bool b) b := by
 exact ⟨⟨_, ⟨rfl, rfl⟩, rfl⟩, List.nodup_nil, Wr.nil _⟩
theorem l14Table_ok {w W0 : World} {v0 : Value} {c : DCode} (h0 : Is W0 v0 c) (e0 : Ext W0 w) (hc : CodeR c) :
   CALL Tryz.prog 174 [v0] w fun v w' => Ext w w' ∧ Own w.heap.size w' v (tabL c c.procs.length) := by
 refine F174_call ?_
 unfold F174
 have h8 := hc.1.procs8
 have he := hc.2.1.1
 refine op_box h0 e0 fun w1 hx1 hA => ?_
 refine rd_load ty35 hA (Ext.refl _) fun v13 h13 => ?_
 refine (l14Roots_ok h13 (Ext.refl _) hc).mono ?_
 rintro v14 w2 ⟨hx2, ho2⟩
 refine op_build0I (α := List Bool) u161 ty72 fun a15 w3 hx3 _ => ?_
 refine op_build0I (α := Bool) u72 ty4 fun a16 wb hx4 _ => ?_
 have hx24 := hx3.trans hx4
 have hx14 := hx2.trans hx24
 have hRt := ho2.is.ext hx24
 have hs1 := hx1.size
 have hs14 := hx14.size
 have hT0 : TT (RowQ 72 (.slice (some a15) 0 0) (fromL c 0)) (RowQ 4 (.slice (some a16) 0 0) (singL c 0)) wb wb [] [] :=
   ⟨Ext.refl _, ⟨.inl ⟨_, rfl, rfl, rfl⟩, List.nodup_nil⟩, ⟨.inl ⟨_, rfl, rfl, rfl⟩, List.nodup_nil⟩, by simp, by simp, by simp⟩
 refine loopC c.procs.length (fun k us w' => ∃ fv sv F1 F2, us = [fv, sv, .int .i64 (k : Int)] ∧ k ≤ c.procs.length ∧ TT (RowQ 72 fv (fromL c k)) (RowQ 4 sv (singL c k)) wb w' F1 F2) 0 (Nat.zero_le _) ⟨_, _, _, _, rfl, Nat.zero_le _, hT0⟩ ?_
 rintro k mk u w5 hkm ⟨fv, sv, F1, F2, hu, hkl, hT5⟩
 simp only [List.map_cons, List.map_nil, List.cons.injEq, and_true] at hu
 obtain ⟨hu1, hu2, hu3⟩ := hu
 rw [hu1, hu2, hu3]
 have hx15 := hx14.trans hT5.ext
 refine rd_fld fd35_2 ?_
 refine rd_load ty22 (at_DCode_2 hA) hx15 fun v19 h19 => ?_
 refine rd_len u22 h19 ?_
 refine rd_lss ?_
 have hfl : (fromL c k).length = k := by simp [fromL]
 have hsl : (singL c k).length = k := by simp [singL]
 refine br (fun hlt => ?_) (fun hge => ?_)
 case refine_1 =>
   have hk : k < c.procs.length := by omega
   refine rd_load ty35 hA hx15 fun v25 h25 => ?_
   refine (l10FromM_ok (a := k) h25 hx15 hc hk).mono ?_
   rintro v27 w6 ⟨hx6, m, rfl, hm6, hM6⟩
   have hT6 := hT5.step (kq2Row _ _ _) (kq2Row _ _ _) hx6
   have hm2 : m ∉ F2 := fun hF => by have := hT5.q2.1.lt m hF; omega
   have hm1 : m ∉ F1 := fun hF => by have := hT5.q1.1.lt m hF; omega
   have hs5 := hT5.ext.size
   have hMe : (setB c.procs.length fun i => i = k ∨ RP (callN c) k i) = setB c.procs.length (FromP c k) := rfl
   rw [hMe] at hM6
   refine op_pushB (x := setB c.procs.length (FromP c k)) (K := fun _ => _) u161 ty72 z72 zc72 (by decide) hT6.q1.1 hT6.q1.2 hM6 (fun b hb hF => by simp at hb; subst hb; exact hm1 hF) (by rw [maxLen_eq]; omega) (by omega) (fun w7 v' w8 G' hx7 hc7 hr7 hn7 hs7 => ?_) fun _ _ _ h => h
   rw [← fromL_succ] at hr7
   have hT8 := hT6.grow (Q1' := RowQ 72 v' (fromL c (k + 1))) (kq2Row _ _ _) (kq2Row _ _ _) hx7 hc7 ⟨hr7, hn7⟩ hs7 fun b hb => by
     simp only [List.mem_cons, List.not_mem_nil, or_false] at hb
     subst hb
     exact ⟨by omega, hm2⟩
   have hx58 : Ext wb w8 := hT8.ext
   have hmk := mkd_setB (n := c.procs.length) (p := RootP c) (i := k)
   rw [mkd_get (by rw [setB_len]; exact hk)] at hmk
   have hfin : ∀ {w9 : World} (x : Bool), (x = decide (RootP c k ∧ SingP c k)) → Ext w8 w9 → OP Tryz.prog (Instr.buildSlice 72 1 #[(0, .bool x)]) w9 fun x40 w => OP Tryz.prog (Builtin.append_ #[72, 72] 72 [sv, x40].toArray) w fun x41 w => RD Tryz.prog (bin .add 3 (.tmp 0) (.const undef) (.int .i64 (k : Int)) (.int .i64 1)) w fun x23 => ∃ m', m' < mk ∧ ∃ k', k' + m' = c.procs.length ∧ ∃ fv sv F1 F2, [v', x41, x23] = [fv, sv, .int .i64 (k' : Int)] ∧ k' ≤ c.procs.length ∧ TT (RowQ 72 fv (fromL c k')) (RowQ 4 sv (singL c k')) wb w F1 F2 := fun {w9} x hx9e hx9 => by
     have hT9 := hT8.step (kq2Row _ _ _) (kq2Row _ _ _) hx9
     refine op_pushB (x := x) (K := fun _ => _) u72 ty4 z4 zc4 (by decide) hT9.q2.1 hT9.q2.2 (mine_bool x) (by simp) (by rw [maxLen_eq]; omega) (by omega) (fun w10 v'' w11 G'' hx10 hc10 hr10 hn10 hs10 => ?_) fun _ _ _ h => h
     rw [hx9e, ← singL_succ] at hr10
     have hT11 := (hT9.swap.grow (Q1' := RowQ 4 v'' (singL c (k + 1))) (kq2Row _ _ _) (kq2Row _ _ _) (GX := []) hx10 hc10 ⟨hr10, hn10⟩ hs10 (by simp)).swap
     refine rd_inc (by omega) ?_
     exact ⟨mk - 1, by omega, k + 1, by omega, v', v'', _, _, rfl, by omega, hT11⟩
   refine rd_indexN u72 ty4 (i := k) hRt (by rw [setB_len]; exact hk) fun b9 o9 hA9 => ?_
   refine rd_loadB ty4 hA9 hx58 ?_
   refine br_b (fun hf => ?_) (fun hf => ?_)
   · have hR := (hmk.1 hf).2
     refine rd_load ty35 hA (hx14.trans hx58) fun v36 h36 => ?_
     refine (l14Single_ok (r := k) h36 (hx14.trans hx58) hc).mono ?_
     rintro _ w9 ⟨hx9, rfl⟩
     exact hfin _ (by rw [decide_eq_decide]; exact ⟨fun h => ⟨hR, h⟩, fun h => h.2⟩) hx9
   · have hR : ¬ RootP c k := fun h => by rw [hmk.2 ⟨hk, h⟩] at hf; cases hf
     exact hfin false (by rw [decide_eq_false fun h => hR h.1]) (Ext.refl _)
 have hke : k = c.procs.length := by omega
 rw [hke] at hT5
 clear hfl hsl
 have hFr := hT5.q1.1.own.is
 have hSi := hT5.q2.1.own.is
 have hs5 := hT5.ext.size
 refine op_build0I (α := List Bool) u161 ty72 fun a42 wT hx42 _ => ?_
 have hx1T := hx15.trans hx42
 have hx5T := hx42
 have hsT := hx42.size
 have hRtT : Ext wb wT := hT5.ext.trans hx42
 refine loopC c.procs.length (fun k us w' => ∃ ov FO, us = [ov, .int .i64 (k : Int)] ∧ k ≤ c.procs.length ∧ Ext wT w' ∧ RowG FO 72 w' ov (tabL c k) ∧ FO.Nodup ∧ ∀ b ∈ FO, wT.heap.size ≤ b) 0 (Nat.zero_le _) ⟨_, [], rfl, Nat.zero_le _, Ext.refl _, .inl ⟨_, rfl, rfl, rfl⟩, List.nodup_nil, by simp⟩ ?_
 rintro a mk2 u2 w6 hkm2 ⟨ov, FO, hu6, hal, hx6, hr6, hn6, hb6⟩
 simp only [List.map_cons, List.map_nil, List.cons.injEq, and_true] at hu6
 obtain ⟨hu61, hu62⟩ := hu6
 rw [hu61, hu62]
 refine rd_fld fd35_2 ?_
 refine rd_load ty22 (at_DCode_2 hA) (hx1T.trans hx6) fun v45 h45 => ?_
 refine rd_len u22 h45 ?_
 refine rd_lss ?_
 refine br (fun hlt2 => ?_) (fun hge2 => ?_)
 case refine_2 =>
   have hke2 : a = c.procs.length := by omega
   rw [hke2] at hr6
   exact ⟨hx1.trans (hx1T.trans hx6), FO, ⟨hr6.own, hn6, hr6.wr⟩, fun b hb => by have := hb6 b hb; have := hx1T.size; omega⟩
 have ha : a < c.procs.length := by omega
 refine rd_fld fd35_2 ?_
 refine rd_load ty22 (at_DCode_2 hA) (hx1T.trans hx6) fun v51 h51 => ?_
 refine rd_len u22 h51 ?_
 refine op_makeB h8.2 (by omega) fun w7 hx7 hM7 => ?_
 have hs7 := hx7.size
 generalize hg : w6.heap.size = g at *
 have hgl : g < w7.heap.size := hM7.lt g (by simp)
 have hs6T := hx6.size
 have hgO : g ∉ FO := fun hF => by have := hr6.lt g hF; omega
 rw [replicate_setB c.procs.length (p := fun q => q < 0 ∧ BesP c a q) (fun i h => by omega)] at hM7
 generalize hn : c.procs.length = n at *
 refine loopC n (fun b us w' => us = [.int .i64 (b : Int)] ∧ b ≤ n ∧ ChgI g (g + 1) w7 w' ∧ Mine [g] w' (.slice (some ⟨g, 0, none⟩) n n) (setB n fun q => q < b ∧ BesP c a q)) 0 (Nat.zero_le _) ⟨rfl, Nat.zero_le _, ChgI.refl _, hM7⟩ ?_
 rintro b mk3 u3 w8 hkm3 ⟨hu8, hbl, hc8, hM8⟩
 simp only [List.map_cons, List.map_nil, List.cons.injEq, and_true] at hu8
 rw [hu8]
 have hTx : ∀ {w : World}, ChgI g (g + 1) w7 w → Ext wT w := fun h => (hx6.trans hx7).chgI h (by omega)
 refine rd_fld fd35_2 ?_
 refine rd_load ty22 (at_DCode_2 hA) (hx1T.trans (hTx hc8)) fun v56 h56 => ?_
 refine rd_len u22 h56 ?_
 rw [hn]
 refine rd_lss ?_
 refine br (fun hlt3 => ?_) (fun hge3 => ?_)
 case refine_2 =>
   have hbe : b = n := by omega
   have : (setB n fun q => q < b ∧ BesP c a q) = setB n (BesP c a) := setB_congr fun q hq => ⟨fun h => h.2, fun h => ⟨by omega, h⟩⟩
   rw [this] at hM8
   have hr8 : RowG FO 72 w8 ov (tabL c a) := hr6.keep fun q hq => by
     have h1 := hr6.lt q hq
     rw [hc8.block q (by omega) (by have : q ≠ g := fun e => hgO (e ▸ hq); omega), hx7.heap (by omega)]
   have htl : (tabL c a).length = a := by simp [tabL]
   refine op_pushB (x := setB n (BesP c a)) (K := fun _ => _) u161 ty72 z72 zc72 (by decide) hr8 hn6 hM8 (fun q hq hF => by simp at hq; subst hq; exact hgO hF) (by rw [maxLen_eq]; omega) (by omega) (fun w9 v' w10 G' hx9 hc9 hr9 hn9 hs9 => ?_) fun _ _ _ h => h
   have hs8 := hc8.size
   refine rd_inc (by omega) ?_
   refine ⟨mk2 - 1, by omega, a + 1, by omega, v', G', rfl, by omega, ((hTx hc8).trans hx9).chgF hc9 hb6, ?_, hn9, fun q hq => ?_⟩
   · rw [tabL_succ, hn]; exact hr9
   · rcases hs9 q hq with h | h | h
     · exact hb6 q h
     · simp at h; omega
     · have := (hTx hc8).size; omega
 have hb : b < n := by omega
 have hM8' : Mine [g] w8 (.slice (some ⟨g, 0, none⟩) n n) (setB n fun q => (q < b ∧ BesP c a q) ∨ (q = b ∧ ∃ r, r < 0 ∧ ∃ s, BesR c a b r s)) := by
   have : (setB n fun q => (q < b ∧ BesP c a q) ∨ (q = b ∧ ∃ r, r < 0 ∧ ∃ s, BesR c a b r s)) = setB n fun q => q < b ∧ BesP c a q := setB_congr fun q _ => ⟨fun h => h.resolve_right fun ⟨_, r, h, _⟩ => by omega, .inl⟩
   rw [this]; exact hM8
 refine loopC n (fun r us w' => us = [.int .i64 (r : Int)] ∧ r ≤ n ∧ ChgI g (g + 1) w7 w' ∧ Mine [g] w' (.slice (some ⟨g, 0, none⟩) n n) (setB n fun q => (q < b ∧ BesP c a q) ∨ (q = b ∧ ∃ r', r' < r ∧ ∃ s, BesR c a b r' s))) 0 (Nat.zero_le _) ⟨rfl, Nat.zero_le _, hc8, hM8'⟩ ?_
 rintro r mk4 u4 w9 hkm4 ⟨hu9, hrl, hc9, hM9⟩
 simp only [List.map_cons, List.map_nil, List.cons.injEq, and_true] at hu9
 rw [hu9]
 refine rd_fld fd35_2 ?_
 refine rd_load ty22 (at_DCode_2 hA) (hx1T.trans (hTx hc9)) fun v63 h63 => ?_
 refine rd_len u22 h63 ?_
 rw [hn]
 refine rd_lss ?_
 have hlts : ∀ {r s}, BesR c a b r s → r < n ∧ s < n := fun h => ⟨hn ▸ h.1.lt hc, hn ▸ h.2.1.lt hc⟩
 refine br (fun hlt4 => ?_) (fun hge4 => ?_)
 case refine_2 =>
   have : (setB n fun q => (q < b ∧ BesP c a q) ∨ (q = b ∧ ∃ r', r' < r ∧ ∃ s, BesR c a b r' s)) = setB n fun q => q < b + 1 ∧ BesP c a q := setB_congr fun q _ => by
     constructor
     · rintro (h | ⟨rfl, r', _, s, h⟩)
       · exact ⟨by omega, h.2⟩
       · exact ⟨by omega, r', s, h⟩
     · rintro ⟨h1, h2⟩
       by_cases e : q = b
       · subst e
         obtain ⟨r', s, h⟩ := h2
         exact .inr ⟨rfl, r', by have := (hlts h).1; omega, s, h⟩
       · exact .inl ⟨by omega, h2⟩
   rw [this] at hM9
   refine rd_inc (by omega) ?_
   exact ⟨mk3 - 1, by omega, b + 1, by omega, rfl, by omega, hc9, hM9⟩
 have hr : r < n := by omega
 have hM9' : Mine [g] w9 (.slice (some ⟨g, 0, none⟩) n n) (setB n fun q => (q < b ∧ BesP c a q) ∨ (q = b ∧ ((∃ r', r' < r ∧ ∃ s, BesR c a b r' s) ∨ ∃ s, s < 0 ∧ BesR c a b r s))) := by
   have : (setB n fun q => (q < b ∧ BesP c a q) ∨ (q = b ∧ ((∃ r', r' < r ∧ ∃ s, BesR c a b r' s) ∨ ∃ s, s < 0 ∧ BesR c a b r s))) = setB n fun q => (q < b ∧ BesP c a q) ∨ (q = b ∧ ∃ r', r' < r ∧ ∃ s, BesR c a b r' s) := setB_congr fun q _ => or_congr Iff.rfl (and_congr Iff.rfl ⟨fun h => h.resolve_right fun ⟨s, h, _⟩ => by omega, .inl⟩)
   rw [this]; exact hM9
 refine loopC n (fun s us w' => us = [.int .i64 (s : Int)] ∧ s ≤ n ∧ ChgI g (g + 1) w7 w' ∧ Mine [g] w' (.slice (some ⟨g, 0, none⟩) n n) (setB n fun q => (q < b ∧ BesP c a q) ∨ (q = b ∧ ((∃ r', r' < r ∧ ∃ s, BesR c a b r' s) ∨ ∃ s', s' < s ∧ BesR c a b r s')))) 0 (Nat.zero_le _) ⟨rfl, Nat.zero_le _, hc9, hM9'⟩ ?_
 rintro s mk5 u5 w10 hkm5 ⟨hu10, hsl, hc10, hM10⟩
 simp only [List.map_cons, List.map_nil, List.cons.injEq, and_true] at hu10
 rw [hu10]
 have hx10 := hTx hc10
 refine rd_fld fd35_2 ?_
 refine rd_load ty22 (at_DCode_2 hA) (hx1T.trans hx10) fun v70 h70 => ?_
 refine rd_len u22 h70 ?_
 rw [hn]
 refine rd_lss ?_
 refine br (fun hlt5 => ?_) (fun hge5 => ?_)
 case refine_2 =>
   have : (setB n fun q => (q < b ∧ BesP c a q) ∨ (q = b ∧ ((∃ r', r' < r ∧ ∃ s, BesR c a b r' s) ∨ ∃ s', s' < s ∧ BesR c a b r s'))) = setB n fun q => (q < b ∧ BesP c a q) ∨ (q = b ∧ ∃ r', r' < r + 1 ∧ ∃ s, BesR c a b r' s) := setB_congr fun q _ => or_congr Iff.rfl (and_congr Iff.rfl (by
     constructor
     · rintro (⟨r', h, s', h2⟩ | ⟨s', _, h2⟩)
       · exact ⟨r', by omega, s', h2⟩
       · exact ⟨r, by omega, s', h2⟩
     · rintro ⟨r', h, s', h2⟩
       by_cases e : r' = r
       · subst e; exact .inr ⟨s', by have := (hlts h2).2; omega, h2⟩
       · exact .inl ⟨r', by omega, s', h2⟩))
   rw [this] at hM10
   refine rd_inc (by omega) ?_
   exact ⟨mk4 - 1, by omega, r + 1, by omega, rfl, by omega, hc10, hM10⟩
 have hs : s < n := by omega
 have hskip : ¬ BesR c a b r s → RD Tryz.prog (bin .add 3 (.tmp 0) (.const undef) (.int .i64 (s : Int)) (.int .i64 1)) w10 fun x74 => ∃ m', m' < mk5 ∧ ∃ k', k' + m' = n ∧ [x74] = [.int .i64 (k' : Int)] ∧ k' ≤ n ∧ ChgI g (g + 1) w7 w10 ∧ Mine [g] w10 (.slice (some ⟨g, 0, none⟩) n n) (setB n fun q => (q < b ∧ BesP c a q) ∨ (q = b ∧ ((∃ r', r' < r ∧ ∃ s, BesR c a b r' s) ∨ ∃ s', s' < k' ∧ BesR c a b r s'))) := fun hno => by
   refine rd_inc (by omega) ?_
   refine ⟨mk5 - 1, by omega, s + 1, by omega, rfl, by omega, hc10, ?_⟩
   have : (setB n fun q => (q < b ∧ BesP c a q) ∨ (q = b ∧ ((∃ r', r' < r ∧ ∃ s, BesR c a b r' s) ∨ ∃ s', s' < s + 1 ∧ BesR c a b r s'))) = setB n fun q => (q < b ∧ BesP c a q) ∨ (q = b ∧ ((∃ r', r' < r ∧ ∃ s, BesR c a b r' s) ∨ ∃ s', s' < s ∧ BesR c a b r s')) := setB_congr fun q _ => or_congr Iff.rfl (and_congr Iff.rfl (or_congr Iff.rfl (by
     constructor
     · rintro ⟨s', h, h2⟩
       by_cases e : s' = s
       · subst e; exact absurd h2 hno
       · exact ⟨s', by omega, h2⟩
     · rintro ⟨s', h, h2⟩; exact ⟨s', by omega, h2⟩)))
   rw [this]; exact hM10
 have hmr := mkd_setB (n := n) (p := RootP c) (i := r)
 have hms := mkd_setB (n := n) (p := RootP c) (i := s)
 rw [mkd_get (by rw [setB_len]; exact hr)] at hmr
 rw [mkd_get (by rw [setB_len]; exact hs)] at hms
 have eRt : Ext wb w10 := hRtT.trans hx10
 refine rd_indexN u72 ty4 (i := r) hRt (by rw [setB_len]; exact hr) fun b1 o1 hA1 => ?_
 refine rd_loadB ty4 hA1 eRt ?_
 refine br_b (fun hf => ?_) (fun hf => hskip fun h => by rw [hmr.2 ⟨hr, h.1⟩] at hf; cases hf)
 have hR := (hmr.1 hf).2
 refine rd_indexN u72 ty4 (i := s) hRt (by rw [setB_len]; exact hs) fun b2 o2 hA2 => ?_
 refine rd_loadB ty4 hA2 eRt ?_
 refine br_b (fun hf2 => ?_) (fun hf2 => hskip fun h => by rw [hms.2 ⟨hs, h.2.1⟩] at hf2; cases hf2)
 have hSr := (hms.1 hf2).2
 have eF : Ext w5 w10 := hx5T.trans hx10
 have hfl2 : (fromL c n).length = n := by simp [fromL]
 have hfget : ∀ (i : Nat) (hi : i < (fromL c n).length), (fromL c n)[i] = setB n (FromP c i) := fun i hi => by simp [fromL, hn]
 have hma := mkd_setB (n := n) (p := FromP c r) (i := a)
 have hmb := mkd_setB (n := n) (p := FromP c s) (i := b)
 rw [mkd_get (by rw [setB_len]; exact ha)] at hma
 rw [mkd_get (by rw [setB_len]; exact hb)] at hmb
 refine rd_indexN u161 ty72 (i := r) hFr (by rw [hfl2]; exact hr) fun b3 o3 hA3 => ?_
 rw [hfget] at hA3
 refine rd_load ty72 hA3 eF fun v89 h89 => ?_
 refine rd_indexN u72 ty4 (i := a) h89 (by rw [setB_len]; exact ha) fun b4 o4 hA4 => ?_
 refine rd_loadB ty4 hA4 eF ?_
 refine br_b (fun hf3 => ?_) (fun hf3 => hskip fun h => by rw [hma.2 ⟨ha, h.2.2.1⟩] at hf3; cases hf3)
 have hFa := (hma.1 hf3).2
 refine rd_indexN u161 ty72 (i := s) hFr (by rw [hfl2]; exact hs) fun b5 o5 hA5 => ?_
 rw [hfget] at hA5
 refine rd_load ty72 hA5 eF fun v98 h98 => ?_
 refine rd_indexN u72 ty4 (i := b) h98 (by rw [setB_len]; exact hb) fun b6 o6 hA6 => ?_
 refine rd_loadB ty4 hA6 eF ?_
 refine br_b (fun hf4 => ?_) (fun hf4 => hskip fun h => by rw [hmb.2 ⟨hb, h.2.2.2.1⟩] at hf4; cases hf4)
 have hFb := (hmb.1 hf4).2
 refine rd_neq ?_
 refine gbr_key (Q := BesR c a b r s) (fun h => ⟨hR, hSr, hFa, hFb, .inl (by have := of_decide_eq_true h; omega)⟩) (fun hB => ?_) (fun key h => ?_)
 · refine rd_elt (α := Bool) (i := b) rfl u72 ty4 hb ?_
   refine opu_elt (α := Bool) rfl ty4 hM10 setB_len hb mine_boolT fun w11 hc11 hM11 => ?_
   refine rd_inc (by omega) ?_
   refine ⟨mk5 - 1, by omega, s + 1, by omega, rfl, by omega, hc10.trans (chg_one hc11), ?_⟩
   have hset := setB_set (n := n) (q := b) (p := fun q => (q < b ∧ BesP c a q) ∨ (q = b ∧ ((∃ r', r' < r ∧ ∃ s, BesR c a b r' s) ∨ ∃ s', s' < s ∧ BesR c a b r s'))) (p' := fun q => (q < b ∧ BesP c a q) ∨ (q = b ∧ ((∃ r', r' < r ∧ ∃ s, BesR c a b r' s) ∨ ∃ s', s' < s + 1 ∧ BesR c a b r s'))) hb fun q => by
     constructor
     · rintro (h | ⟨e, _⟩)
       · exact .inl (.inl h)
       · exact .inr e
     · rintro ((h | ⟨e, h | ⟨s', h1, h2⟩⟩) | e)
       · exact .inl h
       · exact .inr ⟨e, .inl h⟩
       · exact .inr ⟨e, .inr ⟨s', by omega, h2⟩⟩
       · exact .inr ⟨e, .inr ⟨s, by omega, hB⟩⟩
   rw [← hset]; exact hM11
 · have hrs : r = s := by have := of_decide_eq_false h; omega
   have hsl2 : (singL c n).length = n := by simp [singL]
   refine rd_indexN u72 ty4 (i := r) hSi (by rw [hsl2]; exact hr) fun b7 o7 hA7 => ?_
   rw [show (singL c n)[r]'(by rw [hsl2]; exact hr) = decide (RootP c r ∧ SingP c r) by simp only [singL, List.getElem_map, List.getElem_range]] at hA7
   refine rd_loadB ty4 hA7 eF ?_
   refine rd_not ?_
   refine br_b (fun hf5 => key ⟨hR, hSr, hFa, hFb, .inr fun hS => ?_⟩) (fun hf5 => hskip fun hB => ?_)
   · rw [decide_eq_true (⟨hR, hS⟩ : RootP c r ∧ SingP c r)] at hf5; cases hf5
   · rcases hB.2.2.2.2 with h2 | h2
     · exact h2 hrs
     · rw [decide_eq_false (fun h3 : RootP c r ∧ SingP c r => h2 h3.2)] at hf5; cases hf5
instance flatRawM : Flat Raw := ⟨fun h => h.1⟩
section
variable {w0 w w' : World} {lo hi g n : Nat} {out : Value} {L : List DRace} {vs : List Raw} {T : Nat → List DTouch}
end
def fairP (c : DCode) (s : DState) : Prop := (CodeR c ∧ StateR c s) ∧ meets c s = [] ∧ knotsTo c s s.stacks.length = 0
instance (c : DCode) (s : DState) : Decidable (fairP c s) := by unfold fairP; infer_instance
theorem inOrderB_ok {w w0 : World} {v : Value} {l : List DRace} (h : Is w0 v l) (hx : Ext w0 w) (hn : l.length ≤ 1000000000) :
   CALL Tryz.prog 102 [v] w fun r w' => Ext w w' ∧ Own w.heap.size w' r (canon l) := by
 refine F102_call ?_
 unfold F102
 refine (cloneR_ok h hx (by omega)).mono ?_
 rintro v1 w1 ⟨hx1, ho1⟩
 refine (sortR_ok ho1.toI (by omega)).mono ?_
 rintro _ w2 ⟨hc2, ho2⟩
 refine (compact_ok ho2 (by rw [srt_len]; omega)).mono ?_
 rintro v3 w3 ⟨hc3, ho3⟩
 refine (clipR_ok ho3).mono ?_
 rintro v4 w4 ⟨hx4, ho4⟩
 rw [ddp_srt] at ho4
 exact ⟨((hx1.chgI hc2 (Nat.le_refl _)).chgI hc3 (Nat.le_refl _)).trans hx4, ho4.own⟩
theorem l18PutB_ok {w W1 : World} {F : List Nat} {v v1 : Value} {l : List DRace} {x : DRace} (h : Mine F w v l) (h1 : Is W1 v1 x) (e1 : Ext W1 w) (hn : l.length ≤ 1000000000) :
   CALL Tryz.prog 92 [v, v1] w fun r w' => Ext w w' ∧ ∃ F', Mine F' w' r (putR x l) ∧ ∀ b ∈ F', b ∈ F ∨ w.heap.size ≤ b := by
 refine F92_call ?_
 unfold F92
 have hI := h.is
 refine op_box h1 e1 fun w1 hx1 hA => ?_
 refine JOIN.mk (fun us w' => ∃ k : Nat, us = [.int .i64 (k : Int)] ∧ Ext w1 w' ∧ k ≤ l.length ∧ ahd x l = k) ?_ ?_
 · refine loopC l.length (fun k us w' => us = [.int .i64 (k : Int)] ∧ Ext w1 w' ∧ k ≤ l.length ∧ ∀ j (h : j < k) (h2 : j < l.length), ltR l[j] x) 0 (Nat.zero_le _) ⟨rfl, Ext.refl w1, Nat.zero_le _, fun j h => by omega⟩ ?_
   rintro k mk u w2 hkm ⟨hu, hx2, hkl, hlt⟩
   simp only [List.map_cons, List.map_nil, List.cons.injEq, and_true] at hu
   rw [hu]
   have hx3 := ext_drew w2
   have hx23 := hx2.trans hx3
   generalize World.drew1 w2 = w3 at *
   refine rd_len u58 hI ?_
   refine rd_lss ?_
   refine br (fun hk => ?_) (fun hk => ?_)
   · have hk' : k < l.length := by omega
     refine rd_indexN u58 ty109 hI hk' fun b1 o1 hA1 => ?_
     refine rd_load ty109 hA1 (hx1.trans hx23) fun v15 h15 => ?_
     refine rd_load ty109 hA hx23 fun v16 h16 => ?_
     refine (raceLess_ok h15 (hx1.trans hx23) h16 hx23).mono ?_
     rintro _ w4 ⟨hx4, rfl⟩
     refine br_b (fun hc => ?_) (fun hc => ?_)
     · refine rd_inc (by omega) ?_
       refine ⟨mk - 1, by omega, k + 1, by omega, rfl, hx23.trans hx4, by omega, fun j hj hj2 => ?_⟩
       by_cases hjk : j < k
       · exact hlt j hjk hj2
       · have : j = k := by omega
         subst this
         simpa using hc
     · exact ⟨k, rfl, hx23.trans hx4, hkl, ahd_at hkl (fun j hj => hlt j hj (by omega)) fun h => by simpa using hc⟩
   · exact ⟨k, rfl, hx23, hkl, ahd_at hkl (fun j hj => hlt j hj (by omega)) fun h => by omega⟩
 rintro u w2 ⟨k, hu, hx2, hkl, hak⟩
 simp only [List.map_cons, List.map_nil, List.cons.injEq, and_true] at hu
 rw [hu]
 have hput := putR_ahd x l
 rw [hak] at hput
 refine JOIN.mk (fun us w' => Ext w1 w' ∧ putR x l = l.take k ++ (x :: l.drop k)) ?_ ?_
 · have hx3 := ext_drew w2
   have hx23 := hx2.trans hx3
   generalize World.drew1 w2 = w3 at *
   refine rd_len u58 hI ?_
   refine rd_lss ?_
   refine br (fun hk => ?_) (fun hk => ?_)
   · have hk' : k < l.length := by omega
     rw [dif_pos hk'] at hput
     refine rd_indexN u58 ty109 hI hk' fun b1 o1 hA1 => ?_
     refine rd_load ty109 hA1 (hx1.trans hx23) fun v15 h15 => ?_
     refine rd_load ty109 hA hx23 fun v16 h16 => ?_
     refine rd_eqlDRace h15 h16 ?_
     refine br (fun hc => ?_) (fun hc => ?_)
     · rw [if_pos hc] at hput
       have hx := hx1.trans hx23
       exact ⟨hx, F, by rw [hput]; exact h.ext hx, fun b hb => .inl hb⟩
     · rw [if_neg hc] at hput
       exact ⟨hx23, hput⟩
   · have hk' : k = l.length := by omega
     subst hk'
     rw [dif_neg (by omega)] at hput
     exact ⟨hx23, by rw [hput]; simp⟩
 rintro u6 w3 ⟨hx3, hpe⟩
 rw [hpe]
 have hx03 := hx1.trans hx3
 have hs03 := hx03.size
 refine op_build0I (α := DRace) u58 ty109 fun a w4 hx4 hr4 => ?_
 have hs4 := hx4.size
 refine rd_slice_to (i := (k : Int)) u58 ty109 hI (by omega) (by omega) fun v37 h37 => ?_
 refine op_appendI u58 ty109 zc109 hr4 (Nat.le_refl _) h37 (hx03.trans hx4) (by simp [maxLen]; omega) (by simp; omega) fun v38 w5 hc5 hr5 => ?_
 have hs5 := hc5.size
 have hx5 := (Ext.refl w4).chgI hc5 (Nat.le_refl _)
 refine rd_load ty109 hA (hx3.trans (hx4.trans hx5)) fun v40 h40 => ?_
 refine op_push (lo2 := w5.heap.size) (hi2 := w5.heap.size) u58 ty109 z109 zc109 (by decide) hr5 (by omega) (flat_own (h40.ext (hx3.trans (hx4.trans hx5)))) (Nat.le_refl _) (by omega) (by simp [maxLen]; omega) (by simp; omega) fun v42 w6 hc6 hr6 => ?_
 have hs6 := hc6.size
 refine rd_slice_from (i := (k : Int)) u58 ty109 hI (by omega) (by omega) fun v46 h46 => ?_
 have hx6 : Ext w w6 := (hx03.trans (hx4.trans hx5)).chgI hc6 (by omega)
 refine op_appendI u58 ty109 zc109 hr6 (by omega) h46 hx6 (by simp [maxLen]; omega) (by simp; omega) fun v47 w7 hc7 hr7 => ?_
 have hs7 := hc7.size
 refine ⟨hx6.chgI hc7 (by omega), ?_⟩
 obtain ⟨F', hM, hF⟩ := hr7.own
 refine ⟨F', ?_, fun b hb => .inr (by have := hF b hb; omega)⟩
 simpa using hM
open Classical in
noncomputable def rc1 (c : DCode) (a b : DTouch) : List DRace := if clashP a b ∧ BesP c (procOf c a.at_).toNat (procOf c b.at_).toNat then [raceOf a b] else []
theorem rc1_len (c : DCode) (a b : DTouch) : (rc1 c a b).length ≤ 1 := by unfold rc1; split <;> simp
noncomputable def rcRow (c : DCode) (T : List DTouch) (i : Nat) : List DRace := match T.drop i with
 | [] => []
 | a :: r => (a :: r).flatMap (rc1 c a)
noncomputable def rcAll (c : DCode) (T : List DTouch) (n : Nat) : List DRace := (List.range n).flatMap (rcRow c T)
theorem rcRow_at {c : DCode} {T : List DTouch} {i : Nat} (hi : i < T.length) : rcRow c T i = (T.drop i).flatMap (rc1 c T[i]) := by
 unfold rcRow
 rw [List.drop_eq_getElem_cons hi]
theorem rcL_len (c : DCode) (a : DTouch) (L : List DTouch) : (L.flatMap (rc1 c a)).length ≤ L.length := by
 have := flatLenR (l := L) (f := rc1 c a) (B := 1) fun b _ => rc1_len c a b
 omega
theorem rcRow_len (c : DCode) (T : List DTouch) (i : Nat) : (rcRow c T i).length ≤ T.length := by
 rcases Nat.lt_or_ge i T.length with h | h
 · rw [rcRow_at h]
   have := rcL_len c T[i] (T.drop i)
   rw [List.length_drop] at this
   omega
 · unfold rcRow
   rw [List.drop_eq_nil_of_le h]; simp
theorem rcAll_len {c : DCode} {T : List DTouch} (hT : T.length ≤ 18000) {n : Nat} (hn : n ≤ 18000) : (rcAll c T n).length ≤ 324000000 := by
 have h1 := flatLenR (l := List.range n) (f := rcRow c T) (B := 18000) fun i _ => Nat.le_trans (rcRow_len c T i) hT
 rw [List.length_range] at h1
 have : n * 18000 ≤ 18000 * 18000 := Nat.mul_le_mul_right _ hn
 unfold rcAll; omega
theorem rcAll_succ (c : DCode) (T : List DTouch) (n : Nat) : rcAll c T (n + 1) = rcAll c T n ++ rcRow c T n := by
 unfold rcAll; rw [List.range_succ, List.flatMap_append]; simp
theorem tchL_len {c : DCode} (hc : CodeR c) : (tchL c).length ≤ 18000 := tchLk_len hc _ (Nat.le_trans setL_len hc.f.ins)
structure TouR (c : DCode) (x : DTouch) (p : Nat) : Prop where
 at_ : x.at_ = (p : Int)
 lt : p < c.ins.length
 met : MetP c p
 h0 : 0 ≤ x.held
 h1 : x.held ≤ 63
theorem tchL_mem {c : DCode} (hc : CodeR c) {x : DTouch} (h : x ∈ tchL c) : ∃ p, TouR c x p := by
 unfold tchL at h
 obtain ⟨i, hi, hx⟩ := List.mem_flatMap.1 h
 obtain ⟨h1, h2⟩ := touchAt_at hx
 have hm := nat0_lt (mustN_lt c) i
 obtain ⟨h3, h4⟩ := mem_setL.1 hi
 exact ⟨i, h1, h3, h4, by omega, by omega⟩
theorem tchL_pw (c : DCode) : (tchL c).Pairwise fun a b => a.at_ ≤ b.at_ := by
 unfold tchL
 refine List.pairwise_flatMap.2 ⟨fun i _ => ?_, ?_⟩
 · refine List.pairwise_iff_forall_sublist.2 fun {a b} h => ?_
   have h1 := touchAt_at (h.subset (by simp : a ∈ [a, b]))
   have h2 := touchAt_at (h.subset (by simp : b ∈ [a, b]))
   rw [h1.1, h2.1]; omega
 · have hr : (setL c.ins.length (MetP c)).Pairwise (fun a b => a < b) := by
     unfold setL
     exact List.pairwise_lt_range.filter _
   refine hr.imp fun {i j} hij x hx y hy => ?_
   have h1 := touchAt_at hx
   have h2 := touchAt_at hy
   rw [h1.1, h2.1]; omega
theorem live_nextR {c : DCode} {p i j : Nat} (h : LiveP c p i) (hj : j ∈ nextN c i) : LiveP c p j := by
 rcases h with rfl | h
 · exact .inr (.one hj)
 · exact .inr (h.trans (.one hj))
theorem met_live {c : DCode} (hc : CodeR c) {i : Nat} (h : MetP c i) : AllLive c i := by
 induction h with
 | root h => exact ⟨_, h.lt hc, .inl rfl⟩
 | call h ho _ => exact ⟨_, (ag_proc hc (h.lt hc) (.inl ho)).2, .inl rfl⟩
 | next _ _ hj ih => obtain ⟨p, hp, hl⟩ := ih; exact ⟨p, hp, live_nextR hl hj⟩
 | back _ _ _ hj ih _ => obtain ⟨p, hp, hl⟩ := ih; exact ⟨p, hp, live_nextR hl hj⟩
theorem apart_iff {c : DCode} (hc : CodeR c) {i j : Nat} (hi : MetP c i) (hj : MetP c j) : ApartP (rtN c i) (rtN c j) (singN c) ↔ BesP c (procOf c i).toNat (procOf c j).toNat := by
 have h1 := met_live hc hi
 have h2 := met_live hc hj
 have hb : ∀ k r, (rtN c k).testBit r = true ↔ r < c.procs.length ∧ RtP c k r := fun k r => setN_bit
 have hs : ∀ r, r < c.procs.length → RootP c r → ((singN c).testBit r = false ↔ ¬ SingP c r) := fun r hr hR => by
   have := setN_bit (n := c.procs.length) (p := fun r => RootP c r ∧ SingP c r) (i := r)
   unfold singN
   constructor
   · intro h hS; rw [this.2 ⟨hr, hR, hS⟩] at h; cases h
   · intro h
     cases e : (setN (fun r => RootP c r ∧ SingP c r) c.procs.length).testBit r
     · rfl
     · exact absurd (this.1 e).2.2 h
 constructor
 · rintro ⟨r, t, hr, ht, h⟩
   obtain ⟨hr1, _, hr2, hr3⟩ := (hb _ _).1 hr
   obtain ⟨ht1, _, ht2, ht3⟩ := (hb _ _).1 ht
   exact ⟨r, t, hr2, ht2, hr3, ht3, h.imp id (hs r hr1 hr2).1⟩
 · rintro ⟨r, t, hr2, ht2, hr3, ht3, h⟩
   exact ⟨r, t, (hb _ _).2 ⟨hr2.lt hc, h1, hr2, hr3⟩, (hb _ _).2 ⟨ht2.lt hc, h2, ht2, ht3⟩, h.imp id (hs r (hr2.lt hc) hr2).2⟩
def F105 (a0 : Value) (w : World) (R : VW) : Prop :=
 CALL tp 176 [a0] w fun x12 w =>
 CALL tp 177 [a0] w fun x15 w =>
 RD tp (Instr.extract x15 0) w fun x16 =>
 RD tp (Instr.extract x15 1) w fun x17 =>
 RD tp (ln 174 3 x12) w fun x19 =>
 LOOPI [6, 20] [(Value.slice none 0 0), (Value.int .i64 0)] w fun u5 w next5 =>
 RD tp (bin .lss 3 T0 T0 (u5 20) x19) w fun x21 =>
 BR x21
 (RD tp (Instr.indexAt 174 x12 (u5 20)) w fun x23 =>
 RD tp (Instr.loadAt 177 x23) w fun x24 =>
 OP tp (Instr.alloc 177 true (.tuple #[])) w fun x8 w =>
 OPU tp (Instr.storeAt 177 x8 x24) w fun w =>
 RD tp (Instr.sliceAt 174 x12 (some (u5 20)) none none) w fun x27 =>
 RD tp (ln 174 3 x27) w fun x28 =>
 LOOPI [6, 29] [(u5 6), (Value.int .i64 0)] w fun u8 w next8 =>
 RD tp (bin .lss 3 T0 T0 (u8 29) x28) w fun x30 =>
 BR x30
 (RD tp (Instr.indexAt 174 x27 (u8 29)) w fun x31 =>
 RD tp (Instr.loadAt 177 x31) w fun x32 =>
 OP tp (Instr.alloc 177 true (.tuple #[])) w fun x10 w =>
 OPU tp (Instr.storeAt 177 x10 x32) w fun w =>
 (fun w => RD tp (Instr.loadAt 177 x8) w fun x33 =>
 RD tp (Instr.loadAt 177 x10) w fun x34 =>
 CALL tp 162 [x33, x34] w fun x35 w =>
 BR x35
 (RD tp (Instr.fieldAt 177 x8 0) w fun x38 =>
 RD tp (Instr.loadAt 3 x38) w fun x39 =>
 RD tp (Instr.indexAt 23 x16 x39) w fun x40 =>
 RD tp (Instr.loadAt 3 x40) w fun x41 =>
 RD tp (Instr.fieldAt 177 x10 0) w fun x43 =>
 RD tp (Instr.loadAt 3 x43) w fun x44 =>
 RD tp (Instr.indexAt 23 x16 x44) w fun x45 =>
 RD tp (Instr.loadAt 3 x45) w fun x46 =>
 CALL tp 178 [x41, x46, x17] w fun x48 w =>
 BR x48
 (RD tp (Instr.loadAt 177 x8) w fun x51 =>
 RD tp (Instr.loadAt 177 x10) w fun x52 =>
 CALL tp 163 [x51, x52] w fun x53 w =>
 OP tp (Instr.buildSlice 58 1 #[(0, x53)]) w fun x54 w =>
 OP tp (Builtin.append_ #[58, 58] 58 [(u8 6), x54].toArray) w fun x55 w =>
 RD tp (bin .add 3 T0 U0 (u8 29) (Value.int .i64 1)) w fun x56 =>
 next8 [x55, x56] w)
 (RD tp (bin .add 3 T0 U0 (u8 29) (Value.int .i64 1)) w fun x56 =>
 next8 [(u8 6), x56] w))
 (RD tp (bin .add 3 T0 U0 (u8 29) (Value.int .i64 1)) w fun x56 =>
 next8 [(u8 6), x56] w)) (World.drew1 w))
 (RD tp (bin .add 3 T0 U0 (u5 20) (Value.int .i64 1)) w fun x57 =>
 next5 [(u8 6), x57] w))
 (CALL tp 102 [(u5 6)] w fun x59 w =>
 R x59 w)
def cfg105 : Cfg := ⟨extL, [], [(5, 288230376150664640, [6, 20]), (8, 144115187538986048, [6, 29])], [(10, [0, 1, 2, 3, 4, 5, 6, 7, 8, 9, 10, 11, 12, 13, 14, 15, 16], 0)], [], [], []⟩
theorem F105_eq (a0 : Value) (w : World) (R : VW) : vcF Tryz.prog cfg105 Tryz.f105 [a0] w R = F105 a0 w R := by kernel_rfl
theorem F105_call {a0 : Value} {w : World} {R : VW} (h : F105 a0 w R) : CALL Tryz.prog 105 [a0] w R :=
 call_of (g := cfg105) ent mixed Tryz.func105 (Nat.le_of_ble_eq_true (by kernel_rfl)) (by kernel_rfl) (F105_eq a0 w R ▸ h)
def F104 (a0 : Value) (w : World) (R : VW) : Prop :=
 OP tp (Instr.box 35 a0) w fun x1 w =>
 OP tp (Instr.buildSlice 58 0 #[]) w fun x10 w =>
 RD tp (Instr.loadAt 35 x1) w fun x11 =>
 CALL tp 173 [x11] w fun x12 w =>
 RD tp (Instr.loadAt 35 x1) w fun x13 =>
 CALL tp 174 [x13] w fun x14 w =>
 LOOPI [3, 6] [x10, (Value.int .i64 0)] w fun u5 w next5 =>
 RD tp (ln 174 3 x12) w fun x17 =>
 RD tp (bin .lss 3 T0 T0 (u5 6) x17) w fun x18 =>
 BR x18
 (LOOPI [3, 7] [(u5 3), (u5 6)] w fun u8 w next8 =>
 RD tp (ln 174 3 x12) w fun x24 =>
 RD tp (bin .lss 3 T0 T0 (u8 7) x24) w fun x25 =>
 BR x25
 (RD tp (Instr.indexAt 174 x12 (u5 6)) w fun x30 =>
 RD tp (Instr.loadAt 177 x30) w fun x31 =>
 OP tp (Instr.alloc 177 true (.tuple #[])) w fun x8 w =>
 OPU tp (Instr.storeAt 177 x8 x31) w fun w =>
 RD tp (Instr.indexAt 174 x12 (u8 7)) w fun x34 =>
 RD tp (Instr.loadAt 177 x34) w fun x35 =>
 OP tp (Instr.alloc 177 true (.tuple #[])) w fun x9 w =>
 OPU tp (Instr.storeAt 177 x9 x35) w fun w =>
 (fun w => RD tp (Instr.fieldAt 177 x8 1) w fun x36 =>
 RD tp (Instr.loadAt 3 x36) w fun x37 =>
 RD tp (Instr.fieldAt 177 x9 1) w fun x38 =>
 RD tp (Instr.loadAt 3 x38) w fun x39 =>
 RD tp (bin .eql 3 T0 T0 x37 x39) w fun x40 =>
 BR x40
 (RD tp (Instr.fieldAt 177 x8 2) w fun x42 =>
 RD tp (Instr.loadAt 4 x42) w fun x43 =>
 GBR x43
 (RD tp (Instr.fieldAt 177 x8 3) w fun x50 =>
 RD tp (Instr.loadAt 3 x50) w fun x51 =>
 RD tp (Instr.fieldAt 177 x9 3) w fun x52 =>
 RD tp (Instr.loadAt 3 x52) w fun x53 =>
 RD tp (bin .and 3 T0 T0 x51 x53) w fun x54 =>
 RD tp (bin .eql 3 T0 U0 x54 (Value.int .i64 0)) w fun x55 =>
 BR x55
 (RD tp (Instr.loadAt 35 x1) w fun x59 =>
 RD tp (Instr.fieldAt 177 x8 0) w fun x60 =>
 RD tp (Instr.loadAt 3 x60) w fun x61 =>
 RD tp (Instr.loadAt 35 x1) w fun x65 =>
 RD tp (Instr.fieldAt 177 x9 0) w fun x66 =>
 RD tp (Instr.loadAt 3 x66) w fun x67 =>
 (fun w_ => CALL tp 175 [x59, x61] w_ fun x62 w =>
 Ext w_ w ∧
 RD tp (Instr.indexAt 161 x14 x62) w fun x63 =>
 RD tp (Instr.loadAt 72 x63) w fun x64 =>
 (fun w_ => CALL tp 175 [x65, x67] w_ fun x68 w =>
 Ext w_ w ∧
 RD tp (Instr.indexAt 72 x64 x68) w fun x69 =>
 RD tp (Instr.loadAt 4 x69) w fun x70 =>
 BR x70
 (RD tp (Instr.fieldAt 177 x8 1) w fun x73 =>
 RD tp (Instr.loadAt 3 x73) w fun x74 =>
 RD tp (Instr.fieldAt 177 x8 0) w fun x75 =>
 RD tp (Instr.loadAt 3 x75) w fun x76 =>
 RD tp (Instr.fieldAt 177 x9 0) w fun x77 =>
 RD tp (Instr.loadAt 3 x77) w fun x78 =>
 RD tp (Instr.build 109 #[(0, x74), (1, x76), (2, x78)]) w fun x79 =>
 CALL tp 92 [(u8 3), x79] w fun x80 w =>
 RD tp (bin .add 3 T0 U0 (u8 7) (Value.int .i64 1)) w fun x27 =>
 next8 [x80, x27] w)
 (RD tp (bin .add 3 T0 U0 (u8 7) (Value.int .i64 1)) w fun x27 =>
 next8 [(u8 3), x27] w)) w) w)
 (RD tp (bin .add 3 T0 U0 (u8 7) (Value.int .i64 1)) w fun x27 =>
 next8 [(u8 3), x27] w))
 (RD tp (Instr.fieldAt 177 x9 2) w fun x45 =>
 RD tp (Instr.loadAt 4 x45) w fun x46 =>
 BR x46
 (RD tp (Instr.fieldAt 177 x8 3) w fun x50 =>
 RD tp (Instr.loadAt 3 x50) w fun x51 =>
 RD tp (Instr.fieldAt 177 x9 3) w fun x52 =>
 RD tp (Instr.loadAt 3 x52) w fun x53 =>
 RD tp (bin .and 3 T0 T0 x51 x53) w fun x54 =>
 RD tp (bin .eql 3 T0 U0 x54 (Value.int .i64 0)) w fun x55 =>
 BR x55
 (RD tp (Instr.loadAt 35 x1) w fun x59 =>
 RD tp (Instr.fieldAt 177 x8 0) w fun x60 =>
 RD tp (Instr.loadAt 3 x60) w fun x61 =>
 RD tp (Instr.loadAt 35 x1) w fun x65 =>
 RD tp (Instr.fieldAt 177 x9 0) w fun x66 =>
 RD tp (Instr.loadAt 3 x66) w fun x67 =>
 (fun w_ => CALL tp 175 [x59, x61] w_ fun x62 w =>
 Ext w_ w ∧
 RD tp (Instr.indexAt 161 x14 x62) w fun x63 =>
 RD tp (Instr.loadAt 72 x63) w fun x64 =>
 (fun w_ => CALL tp 175 [x65, x67] w_ fun x68 w =>
 Ext w_ w ∧
 RD tp (Instr.indexAt 72 x64 x68) w fun x69 =>
 RD tp (Instr.loadAt 4 x69) w fun x70 =>
 BR x70
 (RD tp (Instr.fieldAt 177 x8 1) w fun x73 =>
 RD tp (Instr.loadAt 3 x73) w fun x74 =>
 RD tp (Instr.fieldAt 177 x8 0) w fun x75 =>
 RD tp (Instr.loadAt 3 x75) w fun x76 =>
 RD tp (Instr.fieldAt 177 x9 0) w fun x77 =>
 RD tp (Instr.loadAt 3 x77) w fun x78 =>
 RD tp (Instr.build 109 #[(0, x74), (1, x76), (2, x78)]) w fun x79 =>
 CALL tp 92 [(u8 3), x79] w fun x80 w =>
 RD tp (bin .add 3 T0 U0 (u8 7) (Value.int .i64 1)) w fun x27 =>
 next8 [x80, x27] w)
 (RD tp (bin .add 3 T0 U0 (u8 7) (Value.int .i64 1)) w fun x27 =>
 next8 [(u8 3), x27] w)) w) w)
 (RD tp (bin .add 3 T0 U0 (u8 7) (Value.int .i64 1)) w fun x27 =>
 next8 [(u8 3), x27] w))
 (RD tp (bin .add 3 T0 U0 (u8 7) (Value.int .i64 1)) w fun x27 =>
 next8 [(u8 3), x27] w))
 (BR undef
 (RD tp (Instr.fieldAt 177 x8 3) w fun x50 =>
 RD tp (Instr.loadAt 3 x50) w fun x51 =>
 RD tp (Instr.fieldAt 177 x9 3) w fun x52 =>
 RD tp (Instr.loadAt 3 x52) w fun x53 =>
 RD tp (bin .and 3 T0 T0 x51 x53) w fun x54 =>
 RD tp (bin .eql 3 T0 U0 x54 (Value.int .i64 0)) w fun x55 =>
 BR x55
 (RD tp (Instr.loadAt 35 x1) w fun x59 =>
 RD tp (Instr.fieldAt 177 x8 0) w fun x60 =>
 RD tp (Instr.loadAt 3 x60) w fun x61 =>
 RD tp (Instr.loadAt 35 x1) w fun x65 =>
 RD tp (Instr.fieldAt 177 x9 0) w fun x66 =>
 RD tp (Instr.loadAt 3 x66) w fun x67 =>
 (fun w_ => CALL tp 175 [x59, x61] w_ fun x62 w =>
 Ext w_ w ∧
 RD tp (Instr.indexAt 161 x14 x62) w fun x63 =>
 RD tp (Instr.loadAt 72 x63) w fun x64 =>
 (fun w_ => CALL tp 175 [x65, x67] w_ fun x68 w =>
 Ext w_ w ∧
 RD tp (Instr.indexAt 72 x64 x68) w fun x69 =>
 RD tp (Instr.loadAt 4 x69) w fun x70 =>
 BR x70
 (RD tp (Instr.fieldAt 177 x8 1) w fun x73 =>
 RD tp (Instr.loadAt 3 x73) w fun x74 =>
 RD tp (Instr.fieldAt 177 x8 0) w fun x75 =>
 RD tp (Instr.loadAt 3 x75) w fun x76 =>
 RD tp (Instr.fieldAt 177 x9 0) w fun x77 =>
 RD tp (Instr.loadAt 3 x77) w fun x78 =>
 RD tp (Instr.build 109 #[(0, x74), (1, x76), (2, x78)]) w fun x79 =>
 CALL tp 92 [(u8 3), x79] w fun x80 w =>
 RD tp (bin .add 3 T0 U0 (u8 7) (Value.int .i64 1)) w fun x27 =>
 next8 [x80, x27] w)
 (RD tp (bin .add 3 T0 U0 (u8 7) (Value.int .i64 1)) w fun x27 =>
 next8 [(u8 3), x27] w)) w) w)
 (RD tp (bin .add 3 T0 U0 (u8 7) (Value.int .i64 1)) w fun x27 =>
 next8 [(u8 3), x27] w))
 (BR undef
 (RD tp (Instr.fieldAt 177 x8 3) w fun x50 =>
 RD tp (Instr.loadAt 3 x50) w fun x51 =>
 RD tp (Instr.fieldAt 177 x9 3) w fun x52 =>
 RD tp (Instr.loadAt 3 x52) w fun x53 =>
 RD tp (bin .and 3 T0 T0 x51 x53) w fun x54 =>
 RD tp (bin .eql 3 T0 U0 x54 (Value.int .i64 0)) w fun x55 =>
 BR x55
 (RD tp (Instr.loadAt 35 x1) w fun x59 =>
 RD tp (Instr.fieldAt 177 x8 0) w fun x60 =>
 RD tp (Instr.loadAt 3 x60) w fun x61 =>
 RD tp (Instr.loadAt 35 x1) w fun x65 =>
 RD tp (Instr.fieldAt 177 x9 0) w fun x66 =>
 RD tp (Instr.loadAt 3 x66) w fun x67 =>
 (fun w_ => CALL tp 175 [x59, x61] w_ fun x62 w =>
 Ext w_ w ∧
 RD tp (Instr.indexAt 161 x14 x62) w fun x63 =>
 RD tp (Instr.loadAt 72 x63) w fun x64 =>
 (fun w_ => CALL tp 175 [x65, x67] w_ fun x68 w =>
 Ext w_ w ∧
 RD tp (Instr.indexAt 72 x64 x68) w fun x69 =>
 RD tp (Instr.loadAt 4 x69) w fun x70 =>
 BR x70
 (RD tp (Instr.fieldAt 177 x8 1) w fun x73 =>
 RD tp (Instr.loadAt 3 x73) w fun x74 =>
 RD tp (Instr.fieldAt 177 x8 0) w fun x75 =>
 RD tp (Instr.loadAt 3 x75) w fun x76 =>
 RD tp (Instr.fieldAt 177 x9 0) w fun x77 =>
 RD tp (Instr.loadAt 3 x77) w fun x78 =>
 RD tp (Instr.build 109 #[(0, x74), (1, x76), (2, x78)]) w fun x79 =>
 CALL tp 92 [(u8 3), x79] w fun x80 w =>
 RD tp (bin .add 3 T0 U0 (u8 7) (Value.int .i64 1)) w fun x27 =>
 next8 [x80, x27] w)
 (RD tp (bin .add 3 T0 U0 (u8 7) (Value.int .i64 1)) w fun x27 =>
 next8 [(u8 3), x27] w)) w) w)
 (RD tp (bin .add 3 T0 U0 (u8 7) (Value.int .i64 1)) w fun x27 =>
 next8 [(u8 3), x27] w))
 (RD tp (bin .add 3 T0 U0 (u8 7) (Value.int .i64 1)) w fun x27 =>
 next8 [(u8 3), x27] w))))
 (RD tp (bin .add 3 T0 U0 (u8 7) (Value.int .i64 1)) w fun x27 =>
 next8 [(u8 3), x27] w)) (World.drew1 w))
 (RD tp (bin .add 3 T0 U0 (u5 6) (Value.int .i64 1)) w fun x20 =>
 next5 [(u8 3), x20] w))
 (R (u5 3) w)
def cfg104 : Cfg := ⟨extL, [], [(5, 2417851639229258349380552, [3, 6]), (8, 2417851639229258345218952, [3, 7])], [(12, [0, 1, 2, 3, 4, 5, 6, 7, 8, 9, 10, 11, 12, 13, 14, 15, 16, 17, 18, 19, 20, 21, 22, 23, 24, 25, 29, 30, 31, 26, 27, 28, 32, 33, 34, 35], 4362076160)], [], [], []⟩
theorem F104_eq (a0 : Value) (w : World) (R : VW) : vcF Tryz.prog cfg104 Tryz.f104 [a0] w R = F104 a0 w R := by kernel_rfl
theorem F104_call {a0 : Value} {w : World} {R : VW} (h : F104 a0 w R) : CALL Tryz.prog 104 [a0] w R :=
 call_of (g := cfg104) ent mixed Tryz.func104 (Nat.le_of_ble_eq_true (by kernel_rfl)) (by kernel_rfl) (F104_eq a0 w R ▸ h)
set_option linter.unusedVariables false
set_option linter.unusedSimpArgs false
open Rep (rep)
theorem races_ok {w W0 : World} {b : Nat} {c : DCode} (hW : WAt W0 b c) (e0 : Ext W0 w) (hc : CodeR c) :
   CALL Tryz.prog 105 [.pointer (some ⟨b, 0, none⟩)] w fun r w' => Ext w w' ∧ Own w.heap.size w' r (canon (rcAll c (tchL c) (tchL c).length)) := by
 refine F105_call ?_
 unfold F105
 refine (touches_ok hW e0 hc).mono ?_
 rintro v12 w1 ⟨hx1, ho1⟩
 refine (besides_ok hW (e0.trans hx1) hc).mono ?_
 rintro _ wb ⟨hx2, v16, rfl, ho2⟩
 refine rd_extract rfl ?_
 refine rd_extract rfl ?_
 have hx1b := hx1.trans hx2
 have hTb := ho1.is.ext hx2
 have hRb := ho2.is
 have hTl := tchL_len hc
 have hTm := fun x (hx : x ∈ tchL c) => tchL_mem hc hx
 generalize tchL c = T at *
 have hs1b := hx1b.size
 have hsg := singN_lt hc
 refine rd_len u174 hTb ?_
 refine loopC T.length (fun k us w' => ∃ out lo hi, us = [out, .int .i64 (k : Int)] ∧ k ≤ T.length ∧ Ext wb w' ∧ wb.heap.size ≤ lo ∧ hi ≤ w'.heap.size ∧ RowI lo hi 109 w' out (rcAll c T k)) 0 (Nat.zero_le _) ⟨_, wb.heap.size, wb.heap.size, rfl, Nat.zero_le _, Ext.refl _, Nat.le_refl _, Nat.le_refl _, rowI_nil _ _ _ _⟩ ?_
 rintro i mk u w3 hkm ⟨out, lo0, hi0, hu, hkl, hx3, hlo0, hhi0, hr3⟩
 simp only [List.map_cons, List.map_nil, List.cons.injEq, and_true] at hu
 obtain ⟨hu1, hu2⟩ := hu
 rw [hu1, hu2]
 refine rd_lss ?_
 have hall := rcAll_len (c := c) hTl (n := i) (by omega)
 refine br (fun hlt => ?_) (fun hge => ?_)
 case refine_2 =>
   have hke : i = T.length := by omega
   rw [hke] at hr3 hall
   refine (inOrderB_ok hr3.is (Ext.refl _) (by omega)).mono ?_
   rintro r w4 ⟨hx4, ho4⟩
   exact ⟨hx1b.trans (hx3.trans hx4), ho4.mono (by have := hx3.size; omega)⟩
 have hi : i < T.length := by omega
 have hrow := rcRow_at (c := c) hi
 have hsuc := rcAll_succ c T i
 obtain ⟨pa, hpa⟩ := hTm T[i] (List.getElem_mem _)
 refine rd_indexN u174 ty177 (i := i) hTb hi fun b4 o4 hA4 => ?_
 generalize hae : T[i] = a at *
 refine rd_load ty177 hA4 hx3 fun v24 h24 => ?_
 refine op_var zl177 rfl ty177 rfl h24 hx3 fun w4 hx4 hAa hVa => ?_
 have hAB4 := atB_box h24 hVa rfl
 have hgl : w3.heap.size < w4.heap.size := hVa.lt
 have hs4 := hx4.size
 refine rd_slice_from (i := (i : Int)) u174 ty177 hTb (by omega) (by simp; omega) fun v27 h27 => ?_
 rw [Int.toNat_natCast] at h27
 have hDl : (T.drop i).length = T.length - i := List.length_drop
 have hDm : ∀ x ∈ T.drop i, ∃ p, TouR c x p := fun x hx => hTm x (List.mem_of_mem_drop hx)
 generalize T.drop i = D at *
 refine rd_len u174 h27 ?_
 refine loopC D.length (fun j us w' => ∃ out lo hi, us = [out, .int .i64 (j : Int)] ∧ j ≤ D.length ∧ Ext wb w' ∧ w4.heap.size ≤ w'.heap.size ∧ AtB wb w' w3.heap.size 0 a ∧ wb.heap.size ≤ lo ∧ hi ≤ w'.heap.size ∧ (w3.heap.size < lo ∨ hi ≤ w3.heap.size) ∧ RowI lo hi 109 w' out (rcAll c T i ++ (D.take j).flatMap (rc1 c a))) 0 (Nat.zero_le _) ⟨out, lo0, hi0, rfl, Nat.zero_le _, hx3.trans hx4, Nat.le_refl _, hAB4, hlo0, by omega, .inr hhi0, by simpa using hr3.ext hx4⟩ ?_
 rintro j mj u5 w5 hjm ⟨out5, lo, hi5, hu5, hjl, hx5, hs5, hAB5, hlo, hhi, hd, hr5⟩
 simp only [List.map_cons, List.map_nil, List.cons.injEq, and_true] at hu5
 obtain ⟨hu51, hu52⟩ := hu5
 rw [hu51, hu52]
 refine rd_lss ?_
 refine br (fun hlt5 => ?_) (fun hge5 => ?_)
 case refine_2 =>
   refine rd_inc (by omega) ?_
   refine ⟨mk - 1, by omega, i + 1, by omega, out5, lo, hi5, rfl, by omega, hx5, hlo, hhi, ?_⟩
   rw [List.take_of_length_le (by omega)] at hr5
   rw [hsuc, hrow]; exact hr5
 have hj : j < D.length := by omega
 have hfs := flatMap_take (f := rc1 c a) hj
 have hrl := rcL_len c a (D.take j)
 have htl := List.length_take_le' j D
 obtain ⟨pb, hpb⟩ := hDm D[j] (List.getElem_mem _)
 refine rd_indexN u174 ty177 (i := j) h27 hj fun b6 o6 hA6 => ?_
 generalize hbe : D[j] = bb at *
 refine rd_load ty177 hA6 hx5 fun v32 h32 => ?_
 refine op_var zl177 rfl ty177 rfl h32 hx5 fun w6 hx6 hAb hVb => ?_
 have hxd := ext_drew w6
 have hx56 := hx6.trans hxd
 have hAbd := hAb.ext hxd
 generalize World.drew1 w6 = w7 at *
 have hAB7 := hAB5.ext hx56
 have hx7 := hx5.trans hx56
 have hAa7 := hAB7.at hx7
 have hr7 := hr5.ext hx56
 have hs57 := hx56.size
 refine rd_load ty177 hAa7 (Ext.refl _) fun v33 h33 => ?_
 refine rd_load ty177 hAbd (Ext.refl _) fun v34 h34 => ?_
 refine (clash_ok h33 (Ext.refl _) h34 (Ext.refl _)).mono ?_
 rintro _ w8 ⟨hx8, rfl⟩
 have hs78 := hx8.size
 have hno : ∀ {w9 : World}, Ext w7 w9 → ¬ (clashP a bb ∧ BesP c (procOf c a.at_).toNat (procOf c bb.at_).toNat) → RD Tryz.prog (bin .add 3 (.tmp 0) (.const undef) (.int .i64 (j : Int)) (.int .i64 1)) w9 fun x56 => ∃ m', m' < mj ∧ ∃ k', k' + m' = D.length ∧ ∃ out lo hi, [out5, x56] = [out, .int .i64 (k' : Int)] ∧ k' ≤ D.length ∧ Ext wb w9 ∧ w4.heap.size ≤ w9.heap.size ∧ AtB wb w9 w3.heap.size 0 a ∧ wb.heap.size ≤ lo ∧ hi ≤ w9.heap.size ∧ (w3.heap.size < lo ∨ hi ≤ w3.heap.size) ∧ RowI lo hi 109 w9 out (rcAll c T i ++ (D.take k').flatMap (rc1 c a)) := fun hx9 hn => by
   have := hx9.size
   refine rd_inc (by omega) ?_
   refine ⟨mj - 1, by omega, j + 1, by omega, out5, lo, hi5, rfl, by omega, hx7.trans hx9, by omega, hAB7.ext hx9, hlo, by omega, hd, ?_⟩
   rw [hfs]
   have : rc1 c a bb = [] := by unfold rc1; rw [if_neg hn]
   rw [this, List.append_nil]
   exact hr7.ext hx9
 refine br (fun hcl => ?_) (fun hcl => ?_)
 case refine_2 => exact hno hx8 fun h => hcl h.1
 have hRl : ∀ i, i < c.ins.length → i < (ints ((List.range c.ins.length).map (rtN c))).length := fun i hi => by simp [ints]; exact hi
 have hRg : ∀ i (hi : i < (ints ((List.range c.ins.length).map (rtN c))).length), (ints ((List.range c.ins.length).map (rtN c)))[i] = ((rtN c i : Nat) : Int) := fun i hi => by simp [ints]
 have hx8b := hx7.trans hx8
 have hAa8 := hAa7
 refine rd_fld fd177_0 ?_
 refine rd_loadI ty3 (at_DTouch_0 hAa7) hx8 fun _ => ?_
 rw [hpa.at_]
 refine rd_indexN u23 ty3 (i := pa) hRb (hRl pa hpa.lt) fun b9 o9 hA9 => ?_
 rw [hRg] at hA9
 refine rd_loadI ty3 hA9 hx8b fun _ => ?_
 refine rd_fld fd177_0 ?_
 refine rd_loadI ty3 (at_DTouch_0 hAbd) hx8 fun _ => ?_
 rw [hpb.at_]
 refine rd_indexN u23 ty3 (i := pb) hRb (hRl pb hpb.lt) fun b10 o10 hA10 => ?_
 rw [hRg] at hA10
 refine rd_loadI ty3 hA10 hx8b fun _ => ?_
 refine (apart_ok (rtN_lt hc pa) (rtN_lt hc pb) hsg).mono ?_
 rintro _ w9 ⟨hx9, x, rfl, hx⟩
 rw [apart_iff hc hpa.met hpb.met] at hx
 have hpa' : procOf c a.at_ = procOf c pa := by rw [hpa.at_]
 have hpb' : procOf c bb.at_ = procOf c pb := by rw [hpb.at_]
 have hx79 := hx8.trans hx9
 refine br_b (fun hxt => ?_) (fun hxf => ?_)
 case refine_2 =>
   refine hno hx79 fun h => ?_
   have := hx.2 (by rw [← hpa', ← hpb']; exact h.2)
   rw [this] at hxf; cases hxf
 have hB : BesP c (procOf c a.at_).toNat (procOf c bb.at_).toNat := by rw [hpa', hpb']; exact hx.1 hxt
 refine rd_load ty177 hAa7 hx79 fun v51 h51 => ?_
 refine rd_load ty177 hAbd hx79 fun v52 h52 => ?_
 refine (raceOf_ok h51 hx79 h52 hx79).mono ?_
 rintro v53 w10 ⟨hx10, ho10⟩
 have hx710 := hx79.trans hx10
 have hs710 := hx710.size
 refine op_pushD1 (x := raceOf a bb) u58 ty109 z109 zc109 (by decide) (hr7.ext hx710) (ho10 0 0) (by rw [maxLen_eq, List.length_append]; omega) (by rw [List.length_append]; omega) fun v55 w11 lo' hi' hc11 hr11 hd11 => ?_
 have hs11 := hc11.size
 have hsb := hx7.size
 refine rd_inc (by omega) ?_
 refine ⟨mj - 1, by omega, j + 1, by omega, v55, lo', hi', rfl, by omega, (hx7.trans hx710).chgI hc11 hlo, by omega, (hAB7.ext hx710).keep (hc11.block _ (by omega) hd), by omega, by omega, by omega, ?_⟩
 rw [hfs]
 have : rc1 c a bb = [raceOf a bb] := by unfold rc1; rw [if_pos ⟨hcl, hB⟩]
 rw [this, ← List.append_assoc]
 exact hr11
theorem l18All_ok {w W0 : World} {v0 : Value} {c : DCode} (h0 : Is W0 v0 c) (e0 : Ext W0 w) (hc : CodeR c) :
   CALL Tryz.prog 104 [v0] w fun r w' => Ext w w' ∧ Own w.heap.size w' r (canon (rcAll c (tchL c) (tchL c).length)) := by
 refine F104_call ?_
 unfold F104
 have h8 := hc.1.procs8
 refine op_box h0 e0 fun w1 hx1 hA => ?_
 refine op_build0I (α := DRace) u58 ty109 fun a10 w2 hx2 _ => ?_
 refine rd_load ty35 hA hx2 fun v11 h11 => ?_
 refine (l17All_ok h11 hx2 hc).mono ?_
 rintro v12 w3 ⟨hx3, ho3⟩
 refine rd_load ty35 hA (hx2.trans hx3) fun v13 h13 => ?_
 refine (l14Table_ok h13 (hx2.trans hx3) hc).mono ?_
 rintro v14 wb ⟨hx4, ho4⟩
 have hx1b := hx2.trans (hx3.trans hx4)
 have hTb := ho3.is.ext hx4
 have hGb := ho4.is
 have hTl := tchL_len hc
 have hTm := fun x (hx : x ∈ tchL c) => tchL_mem hc hx
 have hTp := tchL_pw c
 generalize tchL c = T at *
 have hs1 := hx1.size
 have hs1b := hx1b.size
 have hM0 : ∀ w : World, Mine [] w (.slice (some a10) 0 0) (canon (rcAll c T 0)) := fun w => by
   have h : RowG (α := DRace) [] 109 w (.slice (some a10) 0 0) [] := .inl ⟨some a10, rfl, rfl, rfl⟩
   exact ⟨h.own, List.nodup_nil, h.wr⟩
 refine loopC T.length (fun k us w' => ∃ out F, us = [out, .int .i64 (k : Int)] ∧ k ≤ T.length ∧ Ext wb w' ∧ Mine F w' out (canon (rcAll c T k)) ∧ ∀ b ∈ F, wb.heap.size ≤ b) 0 (Nat.zero_le _) ⟨_, [], rfl, Nat.zero_le _, Ext.refl _, hM0 wb, by simp⟩ ?_
 rintro i mk u w5 hkm ⟨out, F5, hu, hkl, hx5, hM5, hF5⟩
 simp only [List.map_cons, List.map_nil, List.cons.injEq, and_true] at hu
 obtain ⟨hu1, hu2⟩ := hu
 rw [hu1, hu2]
 refine rd_len u174 hTb ?_
 refine rd_lss ?_
 have hall := rcAll_len (c := c) hTl (n := i) (by omega)
 refine br (fun hlt => ?_) (fun hge => ?_)
 case refine_2 =>
   have hke : i = T.length := by omega
   rw [hke] at hM5
   exact ⟨hx1.trans (hx1b.trans hx5), F5, hM5, fun b hb => by have := hF5 b hb; omega⟩
 have hi : i < T.length := by omega
 have hrow := rcRow_at (c := c) hi
 have hsuc := rcAll_succ c T i
 obtain ⟨pa, hpa⟩ := hTm T[i] (List.getElem_mem _)
 have hle : ∀ j (hj : j < T.length), i ≤ j → T[i].at_ ≤ T[j].at_ := fun j hj hij => by
   by_cases e : i = j
   · subst e; omega
   · exact List.pairwise_iff_getElem.1 hTp i j hi hj (by omega)
 have hDl : (T.drop i).length = T.length - i := List.length_drop
 generalize hae : T[i] = a at *
 refine loopC T.length (fun j us w' => ∃ out F, us = [out, .int .i64 (j : Int)] ∧ i ≤ j ∧ j ≤ T.length ∧ Ext wb w' ∧ Mine F w' out (canon (rcAll c T i ++ ((T.drop i).take (j - i)).flatMap (rc1 c a))) ∧ ∀ b ∈ F, wb.heap.size ≤ b) i (by omega) ⟨out, F5, rfl, Nat.le_refl _, by omega, hx5, by simpa using hM5, hF5⟩ ?_
 rintro j mj u6 w6 hjm ⟨out6, F6, hu6, hij, hjl, hx6, hM6, hF6⟩
 simp only [List.map_cons, List.map_nil, List.cons.injEq, and_true] at hu6
 obtain ⟨hu61, hu62⟩ := hu6
 rw [hu61, hu62]
 refine rd_len u174 hTb ?_
 refine rd_lss ?_
 refine br (fun hlt6 => ?_) (fun hge6 => ?_)
 case refine_2 =>
   have hje : j = T.length := by omega
   refine rd_inc (by omega) ?_
   refine ⟨mk - 1, by omega, i + 1, by omega, out6, F6, rfl, by omega, hx6, ?_, hF6⟩
   rw [List.take_of_length_le (by omega)] at hM6
   rw [hsuc, hrow]; exact hM6
 have hj : j < T.length := by omega
 have hjD : j - i < (T.drop i).length := by omega
 have hDj : (T.drop i)[j - i] = T[j] := by rw [List.getElem_drop]; congr 1; omega
 have hfs := flatMap_take (f := rc1 c a) hjD
 rw [hDj, show j - i + 1 = j + 1 - i by omega] at hfs
 have hrl := rcL_len c a ((T.drop i).take (j - i))
 have htl := List.length_take_le' (j - i) (T.drop i)
 obtain ⟨pb, hpb⟩ := hTm T[j] (List.getElem_mem _)
 have hlej := hle j hj hij
 refine rd_indexN u174 ty177 (i := i) hTb hi fun b7 o7 hA7 => ?_
 rw [hae] at hA7
 refine rd_load ty177 hA7 hx6 fun v31 h31 => ?_
 refine op_var zl177 rfl ty177 rfl h31 hx6 fun w7 hx7 hAa hVa => ?_
 refine rd_indexN u174 ty177 (i := j) hTb hj fun b8 o8 hA8 => ?_
 generalize hbe : T[j] = bb at *
 refine rd_load ty177 hA8 (hx6.trans hx7) fun v35 h35 => ?_
 refine op_var zl177 rfl ty177 rfl h35 (hx6.trans hx7) fun w8 hx8 hAb hVb => ?_
 have hxd := ext_drew w8
 have hAa9 := hAa.ext (hx8.trans hxd)
 have hAb9 := hAb.ext hxd
 have hx69 := hx7.trans (hx8.trans hxd)
 generalize World.drew1 w8 = w9 at *
 have hx9 := hx6.trans hx69
 have hM9 := hM6.ext hx69
 have hno : ∀ {w10 : World}, Ext w9 w10 → ¬ (clashP a bb ∧ BesP c (procOf c a.at_).toNat (procOf c bb.at_).toNat) → RD Tryz.prog (bin .add 3 (.tmp 0) (.const undef) (.int .i64 (j : Int)) (.int .i64 1)) w10 fun x27 => ∃ m', m' < mj ∧ ∃ k', k' + m' = T.length ∧ ∃ out F, [out6, x27] = [out, .int .i64 (k' : Int)] ∧ i ≤ k' ∧ k' ≤ T.length ∧ Ext wb w10 ∧ Mine F w10 out (canon (rcAll c T i ++ ((T.drop i).take (k' - i)).flatMap (rc1 c a))) ∧ ∀ b ∈ F, wb.heap.size ≤ b := fun hx10 hn => by
   refine rd_inc (by omega) ?_
   refine ⟨mj - 1, by omega, j + 1, by omega, out6, F6, rfl, by omega, by omega, hx9.trans hx10, ?_, hF6⟩
   rw [hfs]
   have : rc1 c a bb = [] := by unfold rc1; rw [if_neg hn]
   rw [this, List.append_nil]
   exact hM9.ext hx10
 refine rd_fld fd177_1 ?_
 refine rd_loadI ty3 (at_DTouch_1 hAa9) (Ext.refl _) fun hg1 => ?_
 refine rd_fld fd177_1 ?_
 refine rd_loadI ty3 (at_DTouch_1 hAb9) (Ext.refl _) fun _ => ?_
 refine rd_eql ?_
 refine br (fun hgl => ?_) (fun hgl => hno (Ext.refl _) fun h => hgl h.1.1)
 refine rd_fld fd177_2 ?_
 refine rd_loadB ty4 (at_DTouch_2 hAa9) (Ext.refl _) ?_
 refine gbr_key (Q := a.write = true ∨ bb.write = true) .inl (fun hwr => ?_) (fun key hf => ?_)
 case refine_2 =>
   refine rd_fld fd177_2 ?_
   refine rd_loadB ty4 (at_DTouch_2 hAb9) (Ext.refl _) ?_
   refine br_b (fun h => key (.inr h)) (fun h => hno (Ext.refl _) fun h2 => ?_)
   rcases h2.1.2.1 with h3 | h3
   · rw [h3] at hf; cases hf
   · rw [h3] at h; cases h
 obtain ⟨ma, hma⟩ := Int.eq_ofNat_of_zero_le hpa.h0
 obtain ⟨mb, hmb⟩ := Int.eq_ofNat_of_zero_le hpb.h0
 have h1a := hpa.h1
 have h1b := hpb.h1
 refine rd_fld fd177_3 ?_
 refine rd_loadI ty3 (at_DTouch_3 hAa9) (Ext.refl _) fun _ => ?_
 refine rd_fld fd177_3 ?_
 refine rd_loadI ty3 (at_DTouch_3 hAb9) (Ext.refl _) fun _ => ?_
 rw [hma, hmb]
 refine rd_and (m := ma) (n := mb) (by omega) (by omega) ?_
 refine rd_eql ?_
 have hcl : clashP a bb ↔ (a.global = bb.global ∧ (a.write = true ∨ bb.write = true) ∧ ma &&& mb = 0) := by
   unfold clashP
   rw [hma, hmb]
   simp only [Int.toNat_natCast]
   constructor
   · rintro ⟨h1, h2, _, _, h5⟩; exact ⟨h1, h2, h5⟩
   · rintro ⟨h1, h2, h5⟩; exact ⟨h1, h2, ⟨by omega, by omega⟩, ⟨by omega, by omega⟩, h5⟩
 refine br (fun hz => ?_) (fun hz => hno (Ext.refl _) fun h => hz (by rw [(hcl.1 h.1).2.2]; rfl))
 have hC : clashP a bb := hcl.2 ⟨hgl, hwr, by omega⟩
 refine rd_load ty35 hA (hx1b.trans hx9) fun v59 h59 => ?_
 refine rd_fld fd177_0 ?_
 refine rd_loadI ty3 (at_DTouch_0 hAa9) (Ext.refl _) fun hIa => ?_
 refine rd_load ty35 hA (hx1b.trans hx9) fun v65 h65 => ?_
 refine rd_fld fd177_0 ?_
 refine rd_loadI ty3 (at_DTouch_0 hAb9) (Ext.refl _) fun hIb => ?_
 refine (l08Proc_ok (a := a.at_) h59 (hx1b.trans hx9)).mono ?_
 rintro _ w10 ⟨hx10, rfl⟩
 refine ⟨hx10, ?_⟩
 obtain ⟨qa, hqa, hpqa, _⟩ := procOf_ex hc hpa.lt
 obtain ⟨qb, hqb, hpqb, _⟩ := procOf_ex hc hpb.lt
 have hpa' : procOf c a.at_ = (qa : Int) := by rw [hpa.at_, hpqa]
 have hpb' : procOf c bb.at_ = (qb : Int) := by rw [hpb.at_, hpqb]
 rw [hpa', hpb'] at hno
 simp only [Int.toNat_natCast] at hno
 rw [hpa']
 have hGl : (tabL c c.procs.length).length = c.procs.length := by simp [tabL]
 have hx10b := hx9.trans hx10
 refine rd_indexN u161 ty72 (i := qa) hGb (by rw [hGl]; exact hqa) fun b11 o11 hA11 => ?_
 rw [show (tabL c c.procs.length)[qa]'(by rw [hGl]; exact hqa) = setB c.procs.length (BesP c qa) by simp only [tabL, List.getElem_map, List.getElem_range]] at hA11
 refine rd_load ty72 hA11 hx10b fun v64 h64 => ?_
 refine (l08Proc_ok (a := bb.at_) h65 (hx1b.trans hx10b)).mono ?_
 rintro _ w11 ⟨hx11, rfl⟩
 refine ⟨hx11, ?_⟩
 rw [hpb']
 have hx11b := hx10b.trans hx11
 have hx911 := hx10.trans hx11
 have hmk := mkd_setB (n := c.procs.length) (p := BesP c qa) (i := qb)
 rw [mkd_get (by rw [setB_len]; exact hqb)] at hmk
 refine rd_indexN u72 ty4 (i := qb) h64 (by rw [setB_len]; exact hqb) fun b12 o12 hA12 => ?_
 refine rd_loadB ty4 hA12 hx11b ?_
 refine br_b (fun ht => ?_) (fun hf => hno hx911 fun h => by rw [hmk.2 ⟨hqb, h.2⟩] at hf; cases hf)
 have hB := (hmk.1 ht).2
 refine rd_fld fd177_1 ?_
 refine rd_loadI ty3 (at_DTouch_1 hAa9) hx911 fun _ => ?_
 refine rd_fld fd177_0 ?_
 refine rd_loadI ty3 (at_DTouch_0 hAa9) hx911 fun _ => ?_
 refine rd_fld fd177_0 ?_
 refine rd_loadI ty3 (at_DTouch_0 hAb9) hx911 fun _ => ?_
 refine rd_build (cells := #[.int .i64 a.global, .int .i64 a.at_, .int .i64 bb.at_]) (by kernel_rfl) ?_
 have hro : raceOf a bb = ⟨a.global, a.at_, bb.at_⟩ := by
   unfold raceOf
   rw [show min a.at_ bb.at_ = a.at_ by omega, show max a.at_ bb.at_ = bb.at_ by omega]
 have hIr : Is w11 (.agg #[.int .i64 a.global, .int .i64 a.at_, .int .i64 bb.at_]) (raceOf a bb) := by
   rw [hro]
   exact is_race.2 ⟨rfl, hg1, hIa, hIb⟩
 have hcn := canon_len (rcAll c T i ++ ((T.drop i).take (j - i)).flatMap (rc1 c a))
 rw [List.length_append] at hcn
 refine (l18PutB_ok (hM9.ext hx911) hIr (Ext.refl _) (by omega)).mono ?_
 rintro v80 w12 ⟨hx12, F12, hM12, hF12⟩
 refine rd_inc (by omega) ?_
 refine ⟨mj - 1, by omega, j + 1, by omega, v80, F12, rfl, by omega, by omega, hx11b.trans hx12, ?_, fun b hb => ?_⟩
 · rw [hfs]
   have : rc1 c a bb = [raceOf a bb] := by
     unfold rc1; rw [if_pos ⟨hC, by rw [hpa', hpb']; simpa using hB⟩]
   rw [this, ← List.append_assoc, canon_snoc]
   exact hM12
 · rcases hF12 b hb with h | h
   · exact hF6 b h
   · have := hx11b.size; omega
def F45 (a0 : Value) (w : World) (R : VW) : Prop :=
 OP tp (Instr.box 35 a0) w fun x1 w =>
 RD tp (Instr.loadAt 35 x1) w fun x6 =>
 CALL tp 64 [x6] w fun x7 w =>
 RD tp (Instr.extract x7 0) w fun x8 =>
 RD tp (Instr.extract x7 1) w fun x9 =>
 RD tp (Op.unary .not x9) w fun x11 =>
 BR x11
 (R (Value.slice none 0 0) w)
 (CALL tp 105 [x8] w fun x13 w =>
 R x13 w)
def cfg45 : Cfg := ⟨extL, [], [], [], [], [], []⟩
theorem F45_eq (a0 : Value) (w : World) (R : VW) : vcF Tryz.prog cfg45 Tryz.f45 [a0] w R = F45 a0 w R := by kernel_rfl
theorem F45_call {a0 : Value} {w : World} {R : VW} (h : F45 a0 w R) : CALL Tryz.prog 45 [a0] w R :=
 call_of (g := cfg45) ent mixed Tryz.func45 (Nat.le_of_ble_eq_true (by kernel_rfl)) (by kernel_rfl) (F45_eq a0 w R ▸ h)
def F44 (a0 : Value) (w : World) (R : VW) : Prop :=
 OP tp (Instr.box 35 a0) w fun x1 w =>
 RD tp (Instr.loadAt 35 x1) w fun x3 =>
 CALL tp 73 [x3] w fun x4 w =>
 RD tp (Op.unary .not x4) w fun x5 =>
 BR x5
 (OP tp (Instr.buildSlice 58 0 #[]) w fun x6 w =>
 R x6 w)
 (RD tp (Instr.loadAt 35 x1) w fun x7 =>
 CALL tp 104 [x7] w fun x8 w =>
 R x8 w)
def cfg44 : Cfg := ⟨extL, [], [], [], [], [], []⟩
theorem F44_eq (a0 : Value) (w : World) (R : VW) : vcF Tryz.prog cfg44 Tryz.f44 [a0] w R = F44 a0 w R := by kernel_rfl
theorem F44_call {a0 : Value} {w : World} {R : VW} (h : F44 a0 w R) : CALL Tryz.prog 44 [a0] w R :=
 call_of (g := cfg44) ent mixed Tryz.func44 (Nat.le_of_ble_eq_true (by kernel_rfl)) (by kernel_rfl) (F44_eq a0 w R ▸ h)
set_option linter.unusedVariables false
set_option linter.unusedSimpArgs false
open Rep (rep)
open Classical in
noncomputable def racesL (c : DCode) : List DRace := if CodeR c then canon (rcAll c (tchL c) (tchL c).length) else []
theorem racesL_len (c : DCode) : (racesL c).length ≤ 324000000 := by
 unfold racesL; split
 · rename_i h; exact Nat.le_trans (canon_len _) (rcAll_len (tchL_len h) (tchL_len h))
 · simp
theorem implRacesOf_ok {w W0 : World} {v0 : Value} {c : DCode} (h0 : Is W0 v0 c) (e0 : Ext W0 w) :
   CALL Tryz.prog 45 [v0] w fun r w' => Ext w w' ∧ Own w.heap.size w' r (racesL c) := by
 refine F45_call ?_
 unfold F45
 refine op_box h0 e0 fun w1 hx1 hA => ?_
 refine rd_load ty35 hA (Ext.refl _) fun v6 h6 => ?_
 refine (worldOf_ok h6 (Ext.refl _)).mono ?_
 rintro r7 w2 ⟨hx2, hr⟩
 have hs1 := hx1.size
 have hs2 := hx2.size
 rcases hr with ⟨hn, rfl⟩ | ⟨hc, b, rfl, hW⟩
 · refine rd_extract rfl ?_
   refine rd_extract rfl ?_
   refine rd_not ?_
   refine br_b (fun _ => ?_) (fun h => by cases h)
   refine ⟨hx1.trans hx2, ?_⟩
   unfold racesL; rw [if_neg hn]
   exact own_nil rfl
 refine rd_extract rfl ?_
 refine rd_extract rfl ?_
 refine rd_not ?_
 refine br_b (fun h => by cases h) (fun _ => ?_)
 refine (races_ok hW (Ext.refl _) hc).mono ?_
 rintro v13 w3 ⟨hx3, ho3⟩
 refine ⟨hx1.trans (hx2.trans hx3), ?_⟩
 unfold racesL; rw [if_pos hc]
 exact ho3.mono (by omega)
theorem specRacesOf_ok {w W0 : World} {v0 : Value} {c : DCode} (h0 : Is W0 v0 c) (e0 : Ext W0 w) :
   CALL Tryz.prog 44 [v0] w fun r w' => Ext w w' ∧ Own w.heap.size w' r (racesL c) := by
 refine F44_call ?_
 unfold F44
 refine op_box h0 e0 fun w1 hx1 hA => ?_
 refine rd_load ty35 hA (Ext.refl _) fun v3 h3 => ?_
 refine (specCodeOk_ok h3 (Ext.refl _)).mono ?_
 rintro _ w2 ⟨hx2, rfl⟩
 have hs1 := hx1.size
 have hs2 := hx2.size
 refine rd_nodec ?_
 refine br (fun hn => ?_) (fun hy => ?_)
 · refine op_build0I (α := DRace) u58 ty109 fun a8 w3 hx3 hr3 => ?_
   refine ⟨hx1.trans (hx2.trans hx3), ?_⟩
   unfold racesL; rw [if_neg hn]
   exact hr3.own.own.mono (by have := hx3.size; omega)
 have hc := Decidable.not_not.1 hy
 refine rd_load ty35 hA hx2 fun v7 h7 => ?_
 refine (l18All_ok h7 hx2 hc).mono ?_
 rintro v8 w3 ⟨hx3, ho3⟩
 refine ⟨hx1.trans (hx2.trans hx3), ?_⟩
 unfold racesL; rw [if_pos hc]
 exact ho3.mono (by omega)
end Go.Proofs.YtjgfldfbljmhhaaGreat
namespace Go.Sh
set_option linter.unusedVariables false
set_option linter.unusedSimpArgs false
open Rep (rep)
instance : Rep UInt8 where
 size := 1
 agg := false
 rep F _ cs x := F = [] ∧ cs = [.int .u8 (x.toNat : Int)]
 pos := by decide
 sz _ := rfl
 len := by rintro _ _ _ _ ⟨_, rfl⟩; rfl
 one := by rintro _ _ _ _ ⟨_, rfl⟩ v hv; simp at hv; subst hv; rfl
 keep := by rintro _ _ _ _ _ h _; exact h
 lt := by rintro _ _ _ _ ⟨rfl, _⟩ b hb; cases hb
instance : Flat UInt8 := ⟨fun h => h.1⟩
instance : RepZ UInt8 := ⟨0, [.int .u8 0], fun _ => ⟨rfl, rfl⟩⟩
section
variable {P : Program} {w w0 : World} {K : Value → Prop} {t : TypeId} {x y : Operand}
theorem mine_u8 {b : UInt8} : Mine [] w (.int .u8 (b.toNat : Int)) b := ⟨⟨_, ⟨rfl, rfl⟩, rfl⟩, List.nodup_nil, Wr.nil w⟩
theorem ownI_u8 {lo hi : Nat} {b : UInt8} : OwnI lo hi w (.int .u8 (b.toNat : Int)) b := ⟨[], mine_u8, by simp⟩
theorem rd_byte {src dst : TypeId} {n : Nat} (hs : (P.underlying src).isSome = true) (hd : P.underlying dst = some (.int .u8)) (hn : n < 256) (k : K (.int .u8 ((UInt8.ofNat n).toNat : Int))) : RD P (convert src dst (.int .i64 (n : Int))) w K := by
 refine rd_of (fun w' _ => ?_) k
 obtain ⟨d, hd'⟩ := Option.isSome_iff_exists.mp hs
 have h1 : IntKind.u8.wrap (n : Int) = n := by simp [IntKind.wrap, IntKind.signed, IntKind.bits]; omega
 have h2 : (UInt8.ofNat n).toNat = n := by simp; omega
 simp [convert, run_underlying hd', run_underlying hd, Conv.intToInt, h1]
 omega
theorem rd_bytesStr {src dst e : TypeId} {v : Value} {l : List UInt8} (hs : P.underlying src = some (.slice e)) (he : P.underlying e = some (.int .u8)) (hd : P.underlying dst = some .string) (h : Is w0 v l) (hx : Ext w0 w)
   (k : K (.string ⟨l.toArray⟩)) : RD P (convert src dst v) w K := by
 obtain ⟨a, cap, Fi, xs, rfl, h1, h2, hc, h4⟩ := is_list h
 have hcells : ∀ {l : List UInt8} {F : List Nat} {xs : List Value}, Cells F w0 xs l → xs = l.map fun b => Value.int .u8 (b.toNat : Int) := by
   intro l
   induction l with
   | nil => rintro _ _ ⟨_, rfl⟩; rfl
   | cons b l ih =>
     rintro _ _ ⟨F1, F2, c1, c2, _, rfl, ⟨_, rfl⟩, h⟩
     rw [ih h]; rfl
 have hxs := hcells hc
 refine rd_of (fun w' hx' => ?_) k
 rcases h4 with rfl | ⟨b, o, rfl, hr, hb⟩
 · cases a with
   | none => exact run_convert_bytes_nil w' src e hs he _ _ dst hd
   | some a =>
     rw [run_convert_bytes_string w' src dst e _ _ cap hs he hd]
     have := run_bytesToString (P := P) w' a 0 cap [] (by simp [loadCells, loadCellsFrom])
     exact this
 · have := run_convert_bytes_arg w' src e hs he b o l.length cap (l.map fun b => (b.toNat : Int)) (by simp) (fun i hi => by
     have hr' := rangeAt_ext (rangeAt_ext hr hx) hx'
     have := hr' i (.int .u8 (l[i].toNat : Int)) (by rw [hxs]; simp [hi])
     rw [this]
     simp [List.getD, hi]) dst hd
   rw [this]
   have e : strOfNums (l.map fun b => (b.toNat : Int)) = ⟨l.toArray⟩ := by
     unfold strOfNums
     congr 2
     rw [List.map_map]
     conv => rhs; rw [← List.map_id l]
     congr 1
     funext b
     simp
   rw [e]
theorem rd_addS {a b : ByteArray} (h : a.size + b.size ≤ 9223372036854775807) (k : K (.string (a ++ b))) : RD P (bin .add t x y (.string a) (.string b)) w K :=
 rd_of (fun w' _ => by
   have hh : ¬ (((a.size + b.size : Nat) : Int) > IntKind.i64.max) := by
     have : IntKind.i64.max = 9223372036854775807 := by decide
     omega
   show (do eqGuard .add t x y (.string a) (.string b); binOp .add t (.string a) (.string b) : Sem Value).run P w' = _
   simp only [eqGuard, binOp, Op.stringOp, hh, if_false]
   rfl) k
theorem rd_quo {a b : Int} (hb : b ≠ 0) (h : I64 (a.tdiv b)) (k : K (.int .i64 (a.tdiv b))) : RD P (bin .quo t x y (.int .i64 a) (.int .i64 b)) w K :=
 rd_of (fun w' _ => by simp [bin, eqGuard, binOp, Op.intDiv, hb, IntWalk.i64_in _ h]) k
end
end Go.Sh
namespace Go.Proofs.YtjgfldfbljmhhaaGreat
open Go Go.Sh Go.Proofs
set_option linter.unusedVariables false
set_option linter.unusedSimpArgs false
open Rep (rep)
def F141 (a0 : Value) (w : World) (R : VW) : Prop :=
 RD tp (bin .leq 3 T0 U0 a0 (Value.int .i64 0)) w fun x5 =>
 BR x5
 (R (Value.string (ByteArray.mk #[109, 48])) w)
 (LOOPI [0, 3] [a0, (Value.string (ByteArray.mk #[]))] w fun u4 w next4 =>
 RD tp (bin .gtr 3 T0 U0 (u4 0) (Value.int .i64 0)) w fun x7 =>
 BR x7
 (RD tp (bin .rem 3 T0 U0 (u4 0) (Value.int .i64 10)) w fun x9 =>
 RD tp (bin .add 3 U0 T0 (Value.int .i64 48) x9) w fun x10 =>
 RD tp (convert 3 5 x10) w fun x11 =>
 OP tp (Instr.buildSlice 210 1 #[(0, x11)]) w fun x12 w =>
 RD tp (convert 210 9 x12) w fun x13 =>
 RD tp (bin .add 9 T0 T0 x13 (u4 3)) w fun x15 =>
 RD tp (bin .quo 3 T0 U0 (u4 0) (Value.int .i64 10)) w fun x17 =>
 next4 [x17, x15] w)
 (RD tp (bin .add 9 U0 T0 (Value.string (ByteArray.mk #[109])) (u4 3)) w fun x19 =>
 R x19 w))
def cfg141 : Cfg := ⟨extL, [], [(4, 262089, [0, 3])], [], [], [], []⟩
theorem F141_eq (a0 : Value) (w : World) (R : VW) : vcF Tryz.prog cfg141 Tryz.f141 [a0] w R = F141 a0 w R := by kernel_rfl
theorem F141_call {a0 : Value} {w : World} {R : VW} (h : F141 a0 w R) : CALL Tryz.prog 141 [a0] w R :=
 call_of (g := cfg141) ent mixed Tryz.func141 (Nat.le_of_ble_eq_true (by kernel_rfl)) (by kernel_rfl) (F141_eq a0 w R ▸ h)
def F80 (a0 a1 : Value) (w : World) (R : VW) : Prop :=
 LOOPI [1, 5] [a1, (Value.int .i64 0)] w fun u2 w next2 =>
 RD tp (ln 22 3 a0) w fun x8 =>
 RD tp (bin .lss 3 T0 T0 (u2 5) x8) w fun x9 =>
 BR x9
 (CALL tp 141 [(u2 1)] w fun x15 w =>
 RD tp (Instr.indexAt 22 a0 (u2 5)) w fun x16 =>
 OPU tp (Instr.storeAt 9 x16 x15) w fun w =>
 RD tp (bin .add 3 T0 U0 (u2 1) (Value.int .i64 1)) w fun x18 =>
 RD tp (bin .add 3 T0 U0 (u2 5) (Value.int .i64 1)) w fun x11 =>
 next2 [x18, x11] w)
 (R (u2 1) w)
def cfg80 : Cfg := ⟨extL, [], [(2, 524258, [1, 5])], [], [], [], []⟩
theorem F80_eq (a0 a1 : Value) (w : World) (R : VW) : vcF Tryz.prog cfg80 Tryz.f80 [a0, a1] w R = F80 a0 a1 w R := by kernel_rfl
theorem F80_call {a0 a1 : Value} {w : World} {R : VW} (h : F80 a0 a1 w R) : CALL Tryz.prog 80 [a0, a1] w R :=
 call_of (g := cfg80) ent mixed Tryz.func80 (Nat.le_of_ble_eq_true (by kernel_rfl)) (by kernel_rfl) (F80_eq a0 a1 w R ▸ h)
def F142 (a0 a1 : Value) (w : World) (R : VW) : Prop :=
 LOOPI [1, 5] [a1, (Value.int .i64 0)] w fun u2 w next2 =>
 RD tp (ln 132 3 a0) w fun x8 =>
 RD tp (bin .lss 3 T0 T0 (u2 5) x8) w fun x9 =>
 BR x9
 (RD tp (Instr.indexAt 132 a0 (u2 5)) w fun x15 =>
 RD tp (Instr.fieldAt 134 x15 0) w fun x16 =>
 OPU tp (Instr.storeAt 3 x16 (u2 1)) w fun w =>
 RD tp (bin .add 3 T0 U0 (u2 1) (Value.int .i64 1)) w fun x18 =>
 RD tp (Instr.indexAt 132 a0 (u2 5)) w fun x22 =>
 RD tp (Instr.fieldAt 134 x22 1) w fun x23 =>
 OPU tp (Instr.storeAt 3 x23 x18) w fun w =>
 RD tp (bin .add 3 T0 U0 x18 (Value.int .i64 1)) w fun x25 =>
 CALL tp 141 [x25] w fun x29 w =>
 RD tp (Instr.indexAt 132 a0 (u2 5)) w fun x30 =>
 RD tp (Instr.fieldAt 134 x30 2) w fun x31 =>
 OPU tp (Instr.storeAt 9 x31 x29) w fun w =>
 RD tp (bin .add 3 T0 U0 x25 (Value.int .i64 1)) w fun x33 =>
 RD tp (Instr.indexAt 132 a0 (u2 5)) w fun x36 =>
 RD tp (Instr.fieldAt 134 x36 3) w fun x37 =>
 RD tp (Instr.loadAt 132 x37) w fun x38 =>
 CALL tp 142 [x38, x33] w fun x40 w =>
 RD tp (bin .add 3 T0 U0 (u2 5) (Value.int .i64 1)) w fun x11 =>
 next2 [x40, x11] w)
 (R (u2 1) w)
def cfg142 : Cfg := ⟨extL, [], [(2, 2199023255522, [1, 5])], [], [], [], []⟩
theorem F142_eq (a0 a1 : Value) (w : World) (R : VW) : vcF Tryz.prog cfg142 Tryz.f142 [a0, a1] w R = F142 a0 a1 w R := by kernel_rfl
theorem F142_call {a0 a1 : Value} {w : World} {R : VW} (h : F142 a0 a1 w R) : CALL Tryz.prog 142 [a0, a1] w R :=
 call_of (g := cfg142) ent mixed Tryz.func142 (Nat.le_of_ble_eq_true (by kernel_rfl)) (by kernel_rfl) (F142_eq a0 a1 w R ▸ h)
def F81 (a0 a1 : Value) (w : World) (R : VW) : Prop :=
 LOOPI [1, 5] [a1, (Value.int .i64 0)] w fun u2 w next2 =>
 RD tp (ln 33 3 a0) w fun x8 =>
 RD tp (bin .lss 3 T0 T0 (u2 5) x8) w fun x9 =>
 BR x9
 (RD tp (Instr.indexAt 33 a0 (u2 5)) w fun x15 =>
 RD tp (Instr.fieldAt 136 x15 0) w fun x16 =>
 OPU tp (Instr.storeAt 3 x16 (u2 1)) w fun w =>
 RD tp (bin .add 3 T0 U0 (u2 1) (Value.int .i64 1)) w fun x18 =>
 RD tp (Instr.indexAt 33 a0 (u2 5)) w fun x22 =>
 RD tp (Instr.fieldAt 136 x22 1) w fun x23 =>
 OPU tp (Instr.storeAt 3 x23 x18) w fun w =>
 RD tp (bin .add 3 T0 U0 x18 (Value.int .i64 1)) w fun x25 =>
 RD tp (Instr.indexAt 33 a0 (u2 5)) w fun x29 =>
 RD tp (Instr.fieldAt 136 x29 2) w fun x30 =>
 RD tp (Instr.fieldAt 134 x30 0) w fun x31 =>
 OPU tp (Instr.storeAt 3 x31 x25) w fun w =>
 RD tp (bin .add 3 T0 U0 x25 (Value.int .i64 1)) w fun x33 =>
 RD tp (Instr.indexAt 33 a0 (u2 5)) w fun x37 =>
 RD tp (Instr.fieldAt 136 x37 2) w fun x38 =>
 RD tp (Instr.fieldAt 134 x38 1) w fun x39 =>
 OPU tp (Instr.storeAt 3 x39 x33) w fun w =>
 RD tp (bin .add 3 T0 U0 x33 (Value.int .i64 1)) w fun x41 =>
 CALL tp 141 [x41] w fun x45 w =>
 RD tp (Instr.indexAt 33 a0 (u2 5)) w fun x46 =>
 RD tp (Instr.fieldAt 136 x46 2) w fun x47 =>
 RD tp (Instr.fieldAt 134 x47 2) w fun x48 =>
 OPU tp (Instr.storeAt 9 x48 x45) w fun w =>
 RD tp (bin .add 3 T0 U0 x41 (Value.int .i64 1)) w fun x50 =>
 RD tp (Instr.indexAt 33 a0 (u2 5)) w fun x53 =>
 RD tp (Instr.fieldAt 136 x53 2) w fun x54 =>
 RD tp (Instr.fieldAt 134 x54 3) w fun x55 =>
 RD tp (Instr.loadAt 132 x55) w fun x56 =>
 CALL tp 142 [x56, x50] w fun x58 w =>
 RD tp (Instr.indexAt 33 a0 (u2 5)) w fun x62 =>
 RD tp (Instr.fieldAt 136 x62 3) w fun x63 =>
 OPU tp (Instr.storeAt 3 x63 x58) w fun w =>
 RD tp (bin .add 3 T0 U0 x58 (Value.int .i64 1)) w fun x65 =>
 RD tp (bin .add 3 T0 U0 (u2 5) (Value.int .i64 1)) w fun x11 =>
 next2 [x65, x11] w)
 (R (u2 1) w)
def cfg81 : Cfg := ⟨extL, [], [(2, 73786976294838206434, [1, 5])], [], [], [], []⟩
theorem F81_eq (a0 a1 : Value) (w : World) (R : VW) : vcF Tryz.prog cfg81 Tryz.f81 [a0, a1] w R = F81 a0 a1 w R := by kernel_rfl
theorem F81_call {a0 a1 : Value} {w : World} {R : VW} (h : F81 a0 a1 w R) : CALL Tryz.prog 81 [a0, a1] w R :=
 call_of (g := cfg81) ent mixed Tryz.func81 (Nat.le_of_ble_eq_true (by kernel_rfl)) (by kernel_rfl) (F81_eq a0 a1 w R ▸ h)
def F24 (a0 a1 : Value) (w : World) (R : VW) : Prop :=
 OP tp (Instr.box 35 a0) w fun x2 w =>
 RD tp (Instr.fieldAt 35 x2 0) w fun x5 =>
 RD tp (Instr.loadAt 22 x5) w fun x6 =>
 CALL tp 80 [x6, a1] w fun x8 w =>
 RD tp (Instr.fieldAt 35 x2 1) w fun x9 =>
 RD tp (Instr.loadAt 22 x9) w fun x10 =>
 CALL tp 80 [x10, x8] w fun x12 w =>
 RD tp (Instr.fieldAt 35 x2 2) w fun x13 =>
 RD tp (Instr.loadAt 22 x13) w fun x14 =>
 CALL tp 80 [x14, x12] w fun x16 w =>
 RD tp (Instr.fieldAt 35 x2 3) w fun x17 =>
 RD tp (Instr.loadAt 23 x17) w fun x18 =>
 CALL tp 25 [x18, x16] w fun x20 w =>
 RD tp (Instr.fieldAt 35 x2 4) w fun x21 =>
 RD tp (Instr.loadAt 33 x21) w fun x22 =>
 CALL tp 81 [x22, x20] w fun x24 w =>
 R x24 w
def cfg24 : Cfg := ⟨extL, [], [], [], [], [], []⟩
theorem F24_eq (a0 a1 : Value) (w : World) (R : VW) : vcF Tryz.prog cfg24 Tryz.f24 [a0, a1] w R = F24 a0 a1 w R := by kernel_rfl
theorem F24_call {a0 a1 : Value} {w : World} {R : VW} (h : F24 a0 a1 w R) : CALL Tryz.prog 24 [a0, a1] w R :=
 call_of (g := cfg24) ent mixed Tryz.func24 (Nat.le_of_ble_eq_true (by kernel_rfl)) (by kernel_rfl) (F24_eq a0 a1 w R ▸ h)
set_option linter.unusedVariables false
set_option linter.unusedSimpArgs false
theorem markText_ok {w : World} {k : Int} (hk : k ≤ 4611686018427387904) :
   CALL Tryz.prog 141 [.int .i64 k] w fun r w' => Ext w w' ∧ ∃ s, r = .string s ∧ s.size ≤ maxLen := by
 refine F141_call ?_
 unfold F141
 refine rd_leq ?_
 refine br (fun h => ?_) (fun h => ?_)
 · exact ⟨Ext.refl w, _, rfl, by rw [maxLen_eq]; decide⟩
 · have hk19 : k < 10 ^ (19 - 0) := by
     have : (10 : Int) ^ (19 - 0) = 10000000000000000000 := by decide
     omega
   refine loopC 19 (fun j us w' => ∃ (q : Int) (s : ByteArray), us = [.int .i64 q, .string s] ∧ Ext w w' ∧ 0 ≤ q ∧ q < 10 ^ (19 - j) ∧ s.size = j) 0 (by omega) ⟨k, _, rfl, Ext.refl w, by omega, hk19, rfl⟩ ?_
   rintro j m u w2 hkm ⟨q, s, hu, hx2, hq0, hq1, hs⟩
   simp only [List.map_cons, List.map_nil, List.cons.injEq, and_true] at hu
   obtain ⟨hu1, hu2⟩ := hu
   rw [hu1, hu2]
   have hj : 0 < q → j < 19 := fun h => by
     rcases Nat.lt_or_ge j 19 with h' | h'
     · exact h'
     · rw [show 19 - j = 0 by omega] at hq1; simp at hq1; omega
   have hb : q < 10000000000000000000 := by
     have h2 : (10 : Int) ^ (19 - j) ≤ 10 ^ 19 := by
       have h3 : (10 : Nat) ^ (19 - j) ≤ 10 ^ 19 := Nat.pow_le_pow_right (by omega) (by omega)
       have h4 := Int.ofNat_le.2 h3
       simpa using h4
     have h3 : (10 : Int) ^ 19 = 10000000000000000000 := by decide
     omega
   refine rd_gtr ?_
   refine br (fun h1 => ?_) (fun h1 => ?_)
   · have hj := hj h1
     refine rd_rem (by omega) ?_
     have hm : q.tmod 10 = q % 10 := Int.tmod_eq_emod_of_nonneg hq0
     rw [hm]
     refine rd_add (by unfold I64; omega) ?_
     obtain ⟨n, hn⟩ : ∃ n : Nat, 48 + q % 10 = (n : Int) := ⟨(48 + q % 10).toNat, by omega⟩
     rw [hn]
     refine rd_byte (by kernel_rfl) u5 (by omega) ?_
     refine op_build1I (α := UInt8) u210 ty5 z5 (by decide) (ownI_u8 (lo := w2.heap.size) (hi := w2.heap.size)) (by omega) fun v3 w3 hx3 o3 => ?_
     refine rd_bytesStr u210 u5 u9 o3.is (Ext.refl w3) ?_
     have hone : ByteArray.size ⟨[UInt8.ofNat n].toArray⟩ = 1 := rfl
     refine rd_addS (by omega) ?_
     have hd : q.tdiv 10 = q / 10 := Int.tdiv_eq_ediv_of_nonneg hq0
     refine rd_quo (by omega) (by rw [hd]; unfold I64; omega) ?_
     rw [hd]
     refine ⟨m - 1, by omega, j + 1, by omega, q / 10, _, rfl, hx2.trans hx3, by omega, ?_, by rw [ByteArray.size_append]; omega⟩
     rw [show 19 - j = (19 - (j + 1)) + 1 by omega, Int.pow_succ] at hq1
     omega
   · refine rd_addS (by have : (ByteArray.mk #[109]).size = 1 := rfl
                        omega) ?_
     have hj19 : j ≤ 19 := by omega
     exact ⟨hx2, _, rfl, by rw [maxLen_eq, ByteArray.size_append]; have : (ByteArray.mk #[109]).size = 1 := rfl
                            omega⟩
theorem markStringS_ok {w : World} {F : List Nat} {v : Value} {l : List ByteArray} {k : Int} (h : Mine F w v l) (hn : l.length ≤ 1048576) (hk0 : 0 ≤ k) (hk1 : k ≤ 1152921504606846976) :
   CALL Tryz.prog 80 [v, .int .i64 k] w fun r w' => r = .int .i64 (k + l.length) ∧ Chg F w w' ∧ ∃ F', ∃ l' : List ByteArray, Mine F' w' v l' ∧ (∀ b ∈ F', b ∈ F) ∧ l'.length = l.length := by
 refine F80_call ?_
 unfold F80
 refine loopC l.length (fun i us w' => us = [.int .i64 (k + i), .int .i64 (i : Int)] ∧ Chg F w w' ∧ ∃ F', ∃ cur : List ByteArray, Mine F' w' v cur ∧ (∀ b ∈ F', b ∈ F) ∧ cur.length = l.length) 0 (Nat.zero_le _) ⟨by simp, Chg.refl _ _, F, l, h, fun _ h => h, rfl⟩ ?_
 rintro i m u w2 hkm ⟨hu, hc2, F', cur, hm2, hF', hlen⟩
 simp only [List.map_cons, List.map_nil, List.cons.injEq, and_true] at hu
 obtain ⟨hu1, hu2⟩ := hu
 rw [hu1, hu2]
 refine rd_len u22 hm2.is ?_
 rw [hlen]
 refine rd_lss ?_
 refine br (fun hlt => ?_) (fun hge => ?_)
 · have hi : i < l.length := by omega
   refine (markText_ok (by omega)).mono ?_
   rintro _ w3 ⟨hx3, s, rfl, hs⟩
   refine rd_focus u22 ty9 (hm2.ext hx3) (by omega) fun b o G hL => ?_
   refine opu_lensF ty9 hL (mine_str hs) fun w4 F4 hc4 hm4 hF4 => ?_
   refine rd_add (by unfold I64; omega) ?_
   refine rd_inc (by omega) ?_
   exact ⟨m - 1, by omega, i + 1, by omega, by simp [Int.add_assoc], (hc2.trans (hx3.chg F)).sub hc4 hF', F4, _, hm4, fun b hb => hF' b (hF4 b hb), by simp [hlen]⟩
 · have : i = l.length := by omega
   subst this
   exact ⟨rfl, hc2, F', cur, hm2, hF', hlen⟩
def MarkTS (l : List DTerm) : Prop := ∀ {w : World} {F : List Nat} {v : Value} {k : Int}, Mine F w v l → wTs l ≤ 1048576 → 0 ≤ k → k + 3 * wTs l ≤ 1152921504606846976 →
 CALL Tryz.prog 142 [v, .int .i64 k] w fun r w' => ∃ n : Int, r = .int .i64 n ∧ k ≤ n ∧ n ≤ k + 3 * wTs l ∧ Chg F w w' ∧ ∃ F', ∃ l' : List DTerm, Mine F' w' v l' ∧ (∀ b ∈ F', b ∈ F) ∧ l'.length = l.length
theorem markTS_step {l : List DTerm} (ih : ∀ t ∈ l, MarkTS t.kids) : MarkTS l := by
 intro w F v k h hn hk0 hk1
 rw [wTs_eq] at hn hk1 ⊢
 refine F142_call ?_
 unfold F142
 refine loopC l.length (fun i us w' => ∃ q : Int, us = [.int .i64 q, .int .i64 (i : Int)] ∧ Chg F w w' ∧ k ≤ q ∧ q ≤ k + 3 * (i + sm wT (l.take i) : Nat) ∧ ∃ F', ∃ cur : List DTerm, Mine F' w' v cur ∧ (∀ b ∈ F', b ∈ F) ∧ RestL i cur l) 0 (Nat.zero_le _) ⟨k, rfl, Chg.refl _ _, by omega, by simp [sm], F, l, h, fun _ h => h, rfl, fun _ _ => rfl⟩ ?_
 rintro i m u w2 hkm ⟨q, hu, hc2, hq0, hq1, F', cur, hm2, hF', hr⟩
 simp only [List.map_cons, List.map_nil, List.cons.injEq, and_true] at hu
 obtain ⟨hu1, hu2⟩ := hu
 rw [hu1, hu2]
 have hlen := hr.1
 refine rd_len u132 hm2.is ?_
 rw [hlen]
 refine rd_lss ?_
 refine br (fun hlt => ?_) (fun hge => ?_)
 · have hi : i < l.length := by omega
   have hsum := sm_take wT hi
   have hle : sm wT (l.take (i + 1)) ≤ sm wT l := by
     conv => rhs; rw [← List.take_append_drop (i + 1) l]
     unfold sm
     rw [List.map_append, List.sum_append]
     omega
   have hwi := wT_eq l[i]
   have hK := hr.keepF (f := DTerm.kids) hi
   refine st_fld (α := DTerm) (β := Int) (sel := DTerm.kind) (g := fun a y => .mk y a.num a.name a.kids) u132 ty134 fd134_0 ty3 (fun h => lens_DTerm_0 h) hm2 (by omega) (mine_int (by unfold I64; omega)) fun w3 F3 hc3 hm3 hF3 => ?_
   replace hK := hK.set (x := .mk q cur[i].num cur[i].name cur[i].kids) fun _ => rfl
   generalize hcur3 : cur.set i (.mk q cur[i].num cur[i].name cur[i].kids) = cur3 at hm3 hK
   clear hcur3
   refine rd_add (by unfold I64; omega) ?_
   refine st_fld (α := DTerm) (β := Int) (sel := DTerm.num) (g := fun a y => .mk a.kind y a.name a.kids) u132 ty134 fd134_1 ty3 (fun h => lens_DTerm_1 h) hm3 hK.2.1 (mine_int (by unfold I64; omega)) fun w4 F4 hc4 hm4 hF4 => ?_
   replace hK := hK.set (x := .mk (cur3[i]'hK.2.1).kind (q + 1) (cur3[i]'hK.2.1).name (cur3[i]'hK.2.1).kids) fun _ => rfl
   generalize hcur4 : cur3.set i _ = cur4 at hm4 hK
   clear hcur4
   refine rd_add (by unfold I64; omega) ?_
   refine (markText_ok (by omega)).mono ?_
   rintro _ w5 ⟨hx5, s, rfl, hs⟩
   refine st_fld (α := DTerm) (β := ByteArray) (sel := DTerm.name) (g := fun a y => .mk a.kind a.num y a.kids) u132 ty134 fd134_2 ty9 (fun h => lens_DTerm_2 h) (hm4.ext hx5) hK.2.1 (mine_str hs) fun w6 F6 hc6 hm6 hF6 => ?_
   replace hK := hK.set (x := .mk (cur4[i]'hK.2.1).kind (cur4[i]'hK.2.1).num s (cur4[i]'hK.2.1).kids) fun _ => rfl
   generalize hcur6 : cur4.set i _ = cur6 at hm6 hK
   clear hcur6
   refine rd_add (by unfold I64; omega) ?_
   refine rd_focus u132 ty134 hm6 hK.2.1 fun b o G hL => ?_
   refine rd_fld fd134_3 ?_
   obtain ⟨G1, hL1⟩ := lens_DTerm_3 hL
   refine rd_lens_row ty132 hL1 fun u7 hM7 hG7 hb7 => ?_
   obtain ⟨hR, hi6, _, hkids⟩ := hK
   rw [hkids] at hM7
   have hF26 : ∀ c ∈ F6, c ∈ F' := fun c hc => hF3 c (hF4 c (hF6 c hc))
   refine (ih l[i] (List.getElem_mem hi) hM7 (by omega) (by omega) (by omega)).mono ?_
   rintro _ w8 ⟨n, rfl, hn0, hn1, hc8, F8, l8, hm8, hF8, hl8⟩
   obtain ⟨F9, hm9, hF9⟩ := hb7 w8 F8 l8 hc8 hm8 fun c hc => .inl (hF8 c hc)
   refine rd_inc (by omega) ?_
   have hc26 : Chg F' w2 w6 := ((hc3.sub hc4 hF3).trans (hx5.chg F')).sub hc6 fun c hc => hF3 c (hF4 c hc)
   have hc28 : Chg F' w2 w8 := hc26.sub hc8 fun c hc => hF26 c (hG7 c hc)
   refine ⟨m - 1, by omega, i + 1, by omega, n, rfl, hc2.sub hc28 hF', by omega, by omega, F9, _, hm9, fun c hc => ?_, hR.set1 _⟩
   rcases hF9 c hc with h | h
   · exact hF' c (hF26 c h)
   · exact hF' c (hF26 c (hG7 c (hF8 c h)))
 · have : i = l.length := by omega
   subst this
   rw [List.take_length] at hq1
   exact ⟨q, rfl, hq0, by omega, hc2, F', cur, hm2, hF', hlen⟩
theorem markTS_ok (t : DTerm) : MarkTS t.kids := DTerm.ind (p := fun t => MarkTS t.kids) (fun t ih => markTS_step ih) t
theorem markTermS_ok (l : List DTerm) : MarkTS l := markTS_ok (.mk 0 0 ByteArray.empty l)
theorem markInsS_ok {w : World} {F : List Nat} {v : Value} {l : List DIns} {k : Int} (h : Mine F w v l) (hn : wIns l ≤ 1048576) (hk0 : 0 ≤ k) (hk1 : k ≤ 1000000000000000000) :
   CALL Tryz.prog 81 [v, .int .i64 k] w fun r w' => ∃ n : Int, r = .int .i64 n ∧ k ≤ n ∧ n ≤ k + 6 * wIns l ∧ Chg F w w' ∧ ∃ F', ∃ l' : List DIns, Mine F' w' v l' ∧ (∀ b ∈ F', b ∈ F) ∧ l'.length = l.length := by
 unfold wIns at hn ⊢
 refine F81_call ?_
 unfold F81
 refine loopC l.length (fun i us w' => ∃ q : Int, us = [.int .i64 q, .int .i64 (i : Int)] ∧ Chg F w w' ∧ k ≤ q ∧ q ≤ k + 6 * (i + sm (fun i => wT i.term) (l.take i) : Nat) ∧ ∃ F', ∃ cur : List DIns, Mine F' w' v cur ∧ (∀ b ∈ F', b ∈ F) ∧ RestL i cur l) 0 (Nat.zero_le _) ⟨k, rfl, Chg.refl _ _, by omega, by simp [sm], F, l, h, fun _ h => h, rfl, fun _ _ => rfl⟩ ?_
 rintro i m u w2 hkm ⟨q, hu, hc2, hq0, hq1, F', cur, hm2, hF', hr⟩
 simp only [List.map_cons, List.map_nil, List.cons.injEq, and_true] at hu
 obtain ⟨hu1, hu2⟩ := hu
 rw [hu1, hu2]
 have hlen := hr.1
 refine rd_len u33 hm2.is ?_
 rw [hlen]
 refine rd_lss ?_
 refine br (fun hlt => ?_) (fun hge => ?_)
 · have hi : i < l.length := by omega
   have hsum := sm_take (fun i : DIns => wT i.term) hi
   have hle : sm (fun i : DIns => wT i.term) (l.take (i + 1)) ≤ sm (fun i : DIns => wT i.term) l := by
     conv => rhs; rw [← List.take_append_drop (i + 1) l]
     unfold sm
     rw [List.map_append, List.sum_append]
     omega
   have hwi := wT_eq l[i].term
   have hK := hr.keepF (f := fun a : DIns => a.term.kids) hi
   refine st_fld (α := DIns) (β := Int) (sel := DIns.op) (g := fun a y => ⟨y, a.arg, a.term, a.to⟩) u33 ty136 fd136_0 ty3 (fun h => lens_DIns_0 h) hm2 hK.2.1 (mine_int (by unfold I64; omega)) fun w3 F3 hc3 hm3 hF3 => ?_
   replace hK := hK.set (x := ⟨q, (cur[i]'hK.2.1).arg, (cur[i]'hK.2.1).term, (cur[i]'hK.2.1).to⟩) fun _ => rfl
   generalize hcur3 : cur.set i _ = cur3 at hm3 hK
   clear hcur3
   refine rd_add (by unfold I64; omega) ?_
   refine st_fld (α := DIns) (β := Int) (sel := DIns.arg) (g := fun a y => ⟨a.op, y, a.term, a.to⟩) u33 ty136 fd136_1 ty3 (fun h => lens_DIns_1 h) hm3 hK.2.1 (mine_int (by unfold I64; omega)) fun w4 F4 hc4 hm4 hF4 => ?_
   replace hK := hK.set (x := ⟨(cur3[i]'hK.2.1).op, q + 1, (cur3[i]'hK.2.1).term, (cur3[i]'hK.2.1).to⟩) fun _ => rfl
   generalize hcur4 : cur3.set i _ = cur4 at hm4 hK
   clear hcur4
   refine rd_add (by unfold I64; omega) ?_
   refine st_fld2 (α := DIns) (β := Int) (sel := fun a => a.term.kind) (g := fun a y => ⟨a.op, a.arg, .mk y a.term.num a.term.name a.term.kids, a.to⟩) u33 ty136 fd136_2 fd134_0 ty3 (fun h => by obtain ⟨G1, h1⟩ := lens_DIns_2 h; exact lens_DTerm_0 h1) hm4 hK.2.1 (mine_int (by unfold I64; omega)) fun w5 F5 hc5 hm5 hF5 => ?_
   replace hK := hK.set (x := ⟨(cur4[i]'hK.2.1).op, (cur4[i]'hK.2.1).arg, .mk (q + 1 + 1) (cur4[i]'hK.2.1).term.num (cur4[i]'hK.2.1).term.name (cur4[i]'hK.2.1).term.kids, (cur4[i]'hK.2.1).to⟩) fun _ => rfl
   generalize hcur5 : cur4.set i _ = cur5 at hm5 hK
   clear hcur5
   refine rd_add (by unfold I64; omega) ?_
   refine st_fld2 (α := DIns) (β := Int) (sel := fun a => a.term.num) (g := fun a y => ⟨a.op, a.arg, .mk a.term.kind y a.term.name a.term.kids, a.to⟩) u33 ty136 fd136_2 fd134_1 ty3 (fun h => by obtain ⟨G1, h1⟩ := lens_DIns_2 h; exact lens_DTerm_1 h1) hm5 hK.2.1 (mine_int (by unfold I64; omega)) fun w6 F6 hc6 hm6 hF6 => ?_
   replace hK := hK.set (x := ⟨(cur5[i]'hK.2.1).op, (cur5[i]'hK.2.1).arg, .mk (cur5[i]'hK.2.1).term.kind (q + 1 + 1 + 1) (cur5[i]'hK.2.1).term.name (cur5[i]'hK.2.1).term.kids, (cur5[i]'hK.2.1).to⟩) fun _ => rfl
   generalize hcur6 : cur5.set i _ = cur6 at hm6 hK
   clear hcur6
   refine rd_add (by unfold I64; omega) ?_
   refine (markText_ok (by omega)).mono ?_
   rintro _ w7 ⟨hx7, s, rfl, hs⟩
   refine st_fld2 (α := DIns) (β := ByteArray) (sel := fun a => a.term.name) (g := fun a y => ⟨a.op, a.arg, .mk a.term.kind a.term.num y a.term.kids, a.to⟩) u33 ty136 fd136_2 fd134_2 ty9 (fun h => by obtain ⟨G1, h1⟩ := lens_DIns_2 h; exact lens_DTerm_2 h1) (hm6.ext hx7) hK.2.1 (mine_str hs) fun w8 F8 hc8 hm8 hF8 => ?_
   replace hK := hK.set (x := ⟨(cur6[i]'hK.2.1).op, (cur6[i]'hK.2.1).arg, .mk (cur6[i]'hK.2.1).term.kind (cur6[i]'hK.2.1).term.num s (cur6[i]'hK.2.1).term.kids, (cur6[i]'hK.2.1).to⟩) fun _ => rfl
   generalize hcur8 : cur6.set i _ = cur8 at hm8 hK
   clear hcur8
   refine rd_add (by unfold I64; omega) ?_
   refine rd_focus u33 ty136 hm8 hK.2.1 fun b o G hL => ?_
   refine rd_fld fd136_2 ?_
   refine rd_fld fd134_3 ?_
   obtain ⟨G0, hL0⟩ := lens_DIns_2 hL
   obtain ⟨G1, hL1⟩ := lens_DTerm_3 hL0
   refine rd_lens_row ty132 hL1 fun u9 hM9 hG9 hb9 => ?_
   obtain ⟨hR, hi8, _, hkids⟩ := hK
   have hkids' : (cur8[i]'hi8).term.kids = l[i].term.kids := hkids
   rw [hkids'] at hM9
   have hF28 : ∀ c ∈ F8, c ∈ F' := fun c hc => hF3 c (hF4 c (hF5 c (hF6 c (hF8 c hc))))
   refine (markTermS_ok _ hM9 (by omega) (by omega) (by omega)).mono ?_
   rintro _ w10 ⟨n, rfl, hn0, hn1, hc10, F10, l10, hm10, hF10, hl10⟩
   obtain ⟨F11, hm11, hF11⟩ := hb9 w10 F10 l10 hc10 hm10 fun c hc => .inl (hF10 c hc)
   have hF211 : ∀ c ∈ F11, c ∈ F' := fun c hc => by
     rcases hF11 c hc with h | h
     · exact hF28 c h
     · exact hF28 c (hG9 c (hF10 c h))
   replace hR := hR.set1 (⟨(cur8[i]'hi8).op, (cur8[i]'hi8).arg, .mk (cur8[i]'hi8).term.kind (cur8[i]'hi8).term.num (cur8[i]'hi8).term.name l10, (cur8[i]'hi8).to⟩ : DIns)
   have hi11 : i < (cur8.set i (⟨(cur8[i]'hi8).op, (cur8[i]'hi8).arg, .mk (cur8[i]'hi8).term.kind (cur8[i]'hi8).term.num (cur8[i]'hi8).term.name l10, (cur8[i]'hi8).to⟩ : DIns)).length := by simpa using hi8
   generalize hcur11 : cur8.set i _ = cur11 at hm11 hR hi11
   clear hcur11
   have hc28 : Chg F' w2 w8 := (((((hc3.sub hc4 hF3).sub hc5 fun c hc => hF3 c (hF4 c hc)).sub hc6 fun c hc => hF3 c (hF4 c (hF5 c hc)))).trans (hx7.chg F')).sub hc8 fun c hc => hF3 c (hF4 c (hF5 c (hF6 c hc)))
   have hc210 : Chg F' w2 w10 := hc28.sub hc10 fun c hc => hF28 c (hG9 c hc)
   refine st_fld (α := DIns) (β := Int) (sel := DIns.to) (g := fun a y => ⟨a.op, a.arg, a.term, y⟩) u33 ty136 fd136_3 ty3 (fun h => lens_DIns_3 h) hm11 hi11 (mine_int (by unfold I64; omega)) fun w12 F12 hc12 hm12 hF12 => ?_
   refine rd_add (by unfold I64; omega) ?_
   refine rd_inc (by omega) ?_
   exact ⟨m - 1, by omega, i + 1, by omega, n + 1, rfl, hc2.sub (hc210.sub hc12 hF211) hF', by omega, by omega, F12, _, hm12, fun c hc => hF' c (hF211 c (hF12 c hc)), hR.set1 _⟩
 · have : i = l.length := by omega
   subst this
   rw [List.take_length] at hq1
   exact ⟨q, rfl, hq0, by omega, hc2, F', cur, hm2, hF', hlen⟩
theorem mine_code {w : World} {F : List Nat} {v : Value} {c : DCode} (h : Mine F w v c) : ∃ (a0 a1 a2 a3 a4 : Value) (F0 F1 F2 F3 F4 : List Nat), v = .agg #[a0, a1, a2, a3, a4] ∧ F = F0 ++ (F1 ++ (F2 ++ (F3 ++ F4))) ∧ F.Nodup ∧
   Mine F0 w a0 c.globals ∧ Mine F1 w a1 c.locks ∧ Mine F2 w a2 c.procs ∧ Mine F3 w a3 c.entry ∧ Mine F4 w a4 c.ins := by
 obtain ⟨⟨cs, hr, rfl⟩, hn, hw⟩ := h
 obtain ⟨F0, c0, F1, c1, F2, c2, F3, c3, F4, c4, rfl, rfl, h0, h1, h2, h3, h4⟩ := inv_DCode hr
 have n0 := nodup_app hn
 have n1 := nodup_app n0.2.1
 have n2 := nodup_app n1.2.1
 have n3 := nodup_app n2.2.1
 obtain ⟨a0, rfl, m0⟩ := mine_of_rep h0 n0.1 (hw.sub (by simp +contextual))
 obtain ⟨a1, rfl, m1⟩ := mine_of_rep h1 n1.1 (hw.sub (by simp +contextual))
 obtain ⟨a2, rfl, m2⟩ := mine_of_rep h2 n2.1 (hw.sub (by simp +contextual))
 obtain ⟨a3, rfl, m3⟩ := mine_of_rep h3 n3.1 (hw.sub (by simp +contextual))
 obtain ⟨a4, rfl, m4⟩ := mine_of_rep h4 n3.2.1 (hw.sub (by simp +contextual))
 exact ⟨a0, a1, a2, a3, a4, F0, F1, F2, F3, F4, rfl, rfl, hn, m0, m1, m2, m3, m4⟩
theorem markCode_ok {w : World} {lo hi : Nat} {v : Value} {c : DCode} {k : Int} (h : OwnI lo hi w v c) (hn : wCode c ≤ 1048576) (hk0 : 0 ≤ k) (hk1 : k ≤ 100000000000000000) :
   CALL Tryz.prog 24 [v, .int .i64 k] w fun r w' => ∃ n : Int, r = .int .i64 n ∧ (k ≤ n ∧ n ≤ k + 8388608) ∧ ChgI lo hi w w' := by
 obtain ⟨F, hM, hF⟩ := h
 obtain ⟨a0, a1, a2, a3, a4, F0, F1, F2, F3, F4, rfl, rfl, hnd, m0, m1, m2, m3, m4⟩ := mine_code hM
 unfold wCode wStr at hn
 have d0 := nodup_app hnd
 have d1 := nodup_app d0.2.1
 have d2 := nodup_app d1.2.1
 have d3 := nodup_app d2.2.1
 refine F24_call ?_
 unfold F24
 refine op_boxB fun w1 hx1 hB1 => ?_
 have hg : ∀ b ∈ F0 ++ (F1 ++ (F2 ++ (F3 ++ F4))), b ≠ w.heap.size := fun b hb e => by have := hM.lt b hb; omega
 refine rd_fld fd35_0 ?_
 refine rd_blkV ty22 hB1 rfl ?_
 refine (markStringS_ok (m0.ext hx1) (by omega) (by omega) (by omega)).mono ?_
 rintro _ w2 ⟨rfl, hc2, _⟩
 have hB2 := hB1.chg hc2 fun hm => hg _ (by simp [hm]) rfl
 have m12 := (m1.ext hx1).chgD hc2 fun b hb h0 => d0.2.2 b h0 (by simp [hb])
 have m22 := (m2.ext hx1).chgD hc2 fun b hb h0 => d0.2.2 b h0 (by simp [hb])
 have m32 := (m3.ext hx1).chgD hc2 fun b hb h0 => d0.2.2 b h0 (by simp [hb])
 have m42 := (m4.ext hx1).chgD hc2 fun b hb h0 => d0.2.2 b h0 (by simp [hb])
 refine rd_fld fd35_1 ?_
 refine rd_blkV ty22 hB2 rfl ?_
 refine (markStringS_ok m12 (by omega) (by omega) (by omega)).mono ?_
 rintro _ w3 ⟨rfl, hc3, _⟩
 have hB3 := hB2.chg hc3 fun hm => hg _ (by simp [hm]) rfl
 have m23 := m22.chgD hc3 fun b hb h0 => d1.2.2 b h0 (by simp [hb])
 have m33 := m32.chgD hc3 fun b hb h0 => d1.2.2 b h0 (by simp [hb])
 have m43 := m42.chgD hc3 fun b hb h0 => d1.2.2 b h0 (by simp [hb])
 refine rd_fld fd35_2 ?_
 refine rd_blkV ty22 hB3 rfl ?_
 refine (markStringS_ok m23 (by omega) (by omega) (by omega)).mono ?_
 rintro _ w4 ⟨rfl, hc4, _⟩
 have hB4 := hB3.chg hc4 fun hm => hg _ (by simp [hm]) rfl
 have m34 := m33.chgD hc4 fun b hb h0 => d2.2.2 b h0 (by simp [hb])
 have m44 := m43.chgD hc4 fun b hb h0 => d2.2.2 b h0 (by simp [hb])
 refine rd_fld fd35_3 ?_
 refine rd_blkV ty23 hB4 rfl ?_
 refine (markIntS_ok m34 (by omega) (by omega) (by omega)).mono ?_
 rintro _ w5 ⟨rfl, hc5, _⟩
 have hB5 := hB4.chg hc5 fun hm => hg _ (by simp [hm]) rfl
 have m45 := m44.chgD hc5 fun b hb h0 => d3.2.2 b h0 hb
 refine rd_fld fd35_4 ?_
 refine rd_blkV ty33 hB5 rfl ?_
 refine (markInsS_ok m45 (by omega) (by omega) (by omega)).mono ?_
 rintro _ w6 ⟨n, rfl, hn0, hn1, hc6, _⟩
 refine ⟨n, rfl, by omega, ?_⟩
 have hc : Chg (F0 ++ (F1 ++ (F2 ++ (F3 ++ F4)))) w w6 := (((((hx1.chg _).sub hc2 (by simp +contextual)).sub hc3 (by simp +contextual)).sub hc4 (by simp +contextual)).sub hc5 (by simp +contextual)).sub hc6 (by simp +contextual)
 exact hc.toI hF
def F42 (a0 a1 : Value) (w : World) (R : VW) : Prop :=
 LOOPI [1, 5] [a1, (Value.int .i64 0)] w fun u2 w next2 =>
 RD tp (ln 58 3 a0) w fun x8 =>
 RD tp (bin .lss 3 T0 T0 (u2 5) x8) w fun x9 =>
 BR x9
 (RD tp (Instr.indexAt 58 a0 (u2 5)) w fun x15 =>
 RD tp (Instr.fieldAt 109 x15 0) w fun x16 =>
 OPU tp (Instr.storeAt 3 x16 (u2 1)) w fun w =>
 RD tp (bin .add 3 T0 U0 (u2 1) (Value.int .i64 1)) w fun x18 =>
 RD tp (Instr.indexAt 58 a0 (u2 5)) w fun x22 =>
 RD tp (Instr.fieldAt 109 x22 1) w fun x23 =>
 OPU tp (Instr.storeAt 3 x23 x18) w fun w =>
 RD tp (bin .add 3 T0 U0 x18 (Value.int .i64 1)) w fun x25 =>
 RD tp (Instr.indexAt 58 a0 (u2 5)) w fun x29 =>
 RD tp (Instr.fieldAt 109 x29 2) w fun x30 =>
 OPU tp (Instr.storeAt 3 x30 x25) w fun w =>
 RD tp (bin .add 3 T0 U0 x25 (Value.int .i64 1)) w fun x32 =>
 RD tp (bin .add 3 T0 U0 (u2 5) (Value.int .i64 1)) w fun x11 =>
 next2 [x32, x11] w)
 (R (u2 1) w)
def cfg42 : Cfg := ⟨extL, [], [(2, 8589934562, [1, 5])], [], [], [], []⟩
theorem F42_eq (a0 a1 : Value) (w : World) (R : VW) : vcF Tryz.prog cfg42 Tryz.f42 [a0, a1] w R = F42 a0 a1 w R := by kernel_rfl
theorem F42_call {a0 a1 : Value} {w : World} {R : VW} (h : F42 a0 a1 w R) : CALL Tryz.prog 42 [a0, a1] w R :=
 call_of (g := cfg42) ent mixed Tryz.func42 (Nat.le_of_ble_eq_true (by kernel_rfl)) (by kernel_rfl) (F42_eq a0 a1 w R ▸ h)
def F43 (a0 a1 : Value) (w : World) (R : VW) : Prop :=
 LOOPI [1, 5] [a1, (Value.int .i64 0)] w fun u2 w next2 =>
 RD tp (ln 58 3 a0) w fun x8 =>
 RD tp (bin .lss 3 T0 T0 (u2 5) x8) w fun x9 =>
 BR x9
 (RD tp (Instr.indexAt 58 a0 (u2 5)) w fun x14 =>
 RD tp (Instr.fieldAt 109 x14 0) w fun x15 =>
 RD tp (Instr.loadAt 3 x15) w fun x16 =>
 RD tp (bin .neq 3 T0 T0 x16 (u2 1)) w fun x18 =>
 BR x18
 (R (Value.int .i64 (-1)) w)
 (RD tp (bin .add 3 T0 U0 (u2 1) (Value.int .i64 1)) w fun x20 =>
 RD tp (Instr.indexAt 58 a0 (u2 5)) w fun x23 =>
 RD tp (Instr.fieldAt 109 x23 1) w fun x24 =>
 RD tp (Instr.loadAt 3 x24) w fun x25 =>
 RD tp (bin .neq 3 T0 T0 x25 x20) w fun x27 =>
 BR x27
 (R (Value.int .i64 (-1)) w)
 (RD tp (bin .add 3 T0 U0 x20 (Value.int .i64 1)) w fun x29 =>
 RD tp (Instr.indexAt 58 a0 (u2 5)) w fun x32 =>
 RD tp (Instr.fieldAt 109 x32 2) w fun x33 =>
 RD tp (Instr.loadAt 3 x33) w fun x34 =>
 RD tp (bin .neq 3 T0 T0 x34 x29) w fun x36 =>
 BR x36
 (R (Value.int .i64 (-1)) w)
 (RD tp (bin .add 3 T0 U0 x29 (Value.int .i64 1)) w fun x38 =>
 RD tp (bin .add 3 T0 U0 (u2 5) (Value.int .i64 1)) w fun x11 =>
 next2 [x38, x11] w))))
 (R (u2 1) w)
def cfg43 : Cfg := ⟨extL, [], [(2, 549755813874, [1, 5])], [], [], [], []⟩
theorem F43_eq (a0 a1 : Value) (w : World) (R : VW) : vcF Tryz.prog cfg43 Tryz.f43 [a0, a1] w R = F43 a0 a1 w R := by kernel_rfl
theorem F43_call {a0 a1 : Value} {w : World} {R : VW} (h : F43 a0 a1 w R) : CALL Tryz.prog 43 [a0, a1] w R :=
 call_of (g := cfg43) ent mixed Tryz.func43 (Nat.le_of_ble_eq_true (by kernel_rfl)) (by kernel_rfl) (F43_eq a0 a1 w R ▸ h)
set_option linter.unusedVariables false
set_option linter.unusedSimpArgs false
def mk1Race (k : Int) : DRace := ⟨k, k + 1, k + 1 + 1⟩
def mkLRace (k : Int) (n : Nat) : List DRace := (List.range n).map fun i : Nat => mk1Race (k + 3 * (i : Int))
theorem mkLRace_len (k : Int) (n : Nat) : (mkLRace k n).length = n := by simp [mkLRace]
theorem mkLRace_succ (k : Int) (n : Nat) : mkLRace k (n + 1) = mkLRace k n ++ [mk1Race (k + 3 * (n : Int))] := by simp [mkLRace, List.range_succ]
theorem mkLRace_get (k : Int) (n : Nat) {i : Nat} (hi : i < n) : (mkLRace k n)[i]'(by rw [mkLRace_len]; exact hi) = mk1Race (k + 3 * (i : Int)) := by simp [mkLRace]
theorem markRaceS_ok {w : World} {F : List Nat} {v : Value} {l : List DRace} {k : Int} (h : Mine F w v l) (hn : l.length ≤ 1073741824) (hk0 : 0 ≤ k) (hk1 : k ≤ 1000000000000000000) :
   CALL Tryz.prog 42 [v, .int .i64 k] w fun r w' => r = .int .i64 (k + 3 * (l.length : Int)) ∧ Chg F w w' ∧ OwnS F w' v (mkLRace k l.length) := by
 refine F42_call ?_
 unfold F42
 refine loopC l.length (fun i us w' => us = [.int .i64 (k + 3 * (i : Int)), .int .i64 (i : Int)] ∧ Chg F w w' ∧ OwnS F w' v (mkLRace k i ++ l.drop i)) 0 (Nat.zero_le _) ⟨by simp, Chg.refl _ _, by simpa [mkLRace] using h.toS⟩ ?_
 rintro i m u w0 hkm ⟨hu, hc, F', hm0, hF'⟩
 simp only [List.map_cons, List.map_nil, List.cons.injEq, and_true] at hu
 obtain ⟨hu1, hu2⟩ := hu
 rw [hu1, hu2]
 have hlen : (mkLRace k i ++ l.drop i).length = l.length := by rw [List.length_append, mkLRace_len, List.length_drop]; omega
 refine rd_len u58 hm0.is ?_
 rw [hlen]
 refine rd_lss ?_
 refine br (fun hlt => ?_) (fun hge => ?_)
 · have hi : i < l.length := by omega
   have hset : (mkLRace k i ++ l.drop i).set i (mk1Race (k + 3 * (i : Int))) = mkLRace k (i + 1) ++ l.drop (i + 1) := by
     rw [List.drop_eq_getElem_cons hi, List.set_append_right _ _ (by rw [mkLRace_len]; omega), mkLRace_len, Nat.sub_self, List.set_cons_zero, mkLRace_succ]
     simp only [List.append_assoc, List.cons_append, List.nil_append]
   generalize hL : mkLRace k i ++ l.drop i = L at hm0 hlen hset
   clear hL
   obtain ⟨q, hq⟩ : ∃ q, q = k + 3 * (i : Int) := ⟨_, rfl⟩
   rw [← hq] at hset ⊢
   refine st_fld (α := DRace) (β := Int) (sel := DRace.g) (g := fun a y => ⟨y, a.a, a.b⟩) u58 ty109 fd109_0 ty3 (fun h => lens_DRace_0 h) hm0 (by first | omega | (simp only [List.length_set]; omega)) (mine_int (by unfold I64; omega)) fun w1 F1 hc1 hm1 hF1 => ?_
   refine rd_add (by unfold I64; omega) ?_
   refine st_fld (α := DRace) (β := Int) (sel := DRace.a) (g := fun a y => ⟨a.g, y, a.b⟩) u58 ty109 fd109_1 ty3 (fun h => lens_DRace_1 h) hm1 (by first | omega | (simp only [List.length_set]; omega)) (mine_int (by unfold I64; omega)) fun w2 F2 hc2 hm2 hF2 => ?_
   refine rd_add (by unfold I64; omega) ?_
   refine st_fld (α := DRace) (β := Int) (sel := DRace.b) (g := fun a y => ⟨a.g, a.a, y⟩) u58 ty109 fd109_2 ty3 (fun h => lens_DRace_2 h) hm2 (by first | omega | (simp only [List.length_set]; omega)) (mine_int (by unfold I64; omega)) fun w3 F3 hc3 hm3 hF3 => ?_
   refine rd_add (by unfold I64; omega) ?_
   refine rd_inc (by omega) ?_
   simp only [List.set_set, List.getElem_set_self] at hm3
   have hcc : Chg F' w0 w3 := ((hc1).sub hc2 fun c hc => hF1 c hc).sub hc3 fun c hc => hF1 c (hF2 c hc)
   refine ⟨m - 1, by omega, i + 1, by omega, by rw [hq]; simp only [List.cons.injEq, Value.int.injEq, true_and, and_true, Int.natCast_add, Int.natCast_one]; omega, hc.sub hcc hF', F3, ?_, fun c hc => hF' c (hF1 c (hF2 c (hF3 c hc)))⟩
   rw [← hset]; exact hm3
 · have : i = l.length := by omega
   subst this
   rw [List.drop_length, List.append_nil] at hm0
   exact ⟨rfl, hc, F', hm0, hF'⟩
theorem markRaceS_I {w : World} {lo hi : Nat} {v : Value} {l : List DRace} {k : Int} (h : OwnI lo hi w v l) (hn : l.length ≤ 1073741824) (hk0 : 0 ≤ k) (hk1 : k ≤ 1000000000000000000) :
   CALL Tryz.prog 42 [v, .int .i64 k] w fun r w' => r = .int .i64 (k + 3 * (l.length : Int)) ∧ ChgI lo hi w w' ∧ OwnI lo hi w' v (mkLRace k l.length) := by
 obtain ⟨F, hM, hF⟩ := h
 exact (markRaceS_ok hM hn hk0 hk1).mono fun r w' ⟨h1, h2, h3⟩ => ⟨h1, h2.toI hF, h3.toI hF⟩
theorem heldRaceS_ok {w w0 : World} {v : Value} {n : Nat} {k : Int} (h : Is w0 v (mkLRace k n)) (hx : Ext w0 w) (hn : n ≤ 1073741824) (hk0 : 0 ≤ k) (hk1 : k ≤ 1000000000000000000) :
   CALL Tryz.prog 43 [v, .int .i64 k] w fun r w' => Ext w w' ∧ r = .int .i64 (k + 3 * (n : Int)) := by
 refine F43_call ?_
 unfold F43
 refine loopC n (fun i us w' => us = [.int .i64 (k + 3 * (i : Int)), .int .i64 (i : Int)] ∧ Ext w w') 0 (Nat.zero_le _) ⟨by simp, Ext.refl w⟩ ?_
 rintro i m u w2 hkm ⟨hu, hx2⟩
 simp only [List.map_cons, List.map_nil, List.cons.injEq, and_true] at hu
 obtain ⟨hu1, hu2⟩ := hu
 rw [hu1, hu2]
 refine rd_len u58 h ?_
 rw [mkLRace_len]
 refine rd_lss ?_
 refine br (fun hlt => ?_) (fun hge => ?_)
 · have hi : i < n := by omega
   have hg := mkLRace_get k n hi
   obtain ⟨q, hq⟩ : ∃ q, q = k + 3 * (i : Int) := ⟨_, rfl⟩
   rw [← hq] at hg ⊢
   refine rd_indexN u58 ty109 h (by rw [mkLRace_len]; exact hi) fun b0 o0 hA0 => ?_
   rw [hg] at hA0
   refine rd_fld fd109_0 ?_
   refine rd_loadI ty3 (at_DRace_0 hA0) (hx.trans hx2) fun _ => ?_
   refine rd_neq ?_
   refine br (fun h => absurd rfl h) (fun _ => ?_)
   refine rd_add (by unfold I64; omega) ?_
   refine rd_indexN u58 ty109 h (by rw [mkLRace_len]; exact hi) fun b1 o1 hA1 => ?_
   rw [hg] at hA1
   refine rd_fld fd109_1 ?_
   refine rd_loadI ty3 (at_DRace_1 hA1) (hx.trans hx2) fun _ => ?_
   refine rd_neq ?_
   refine br (fun h => absurd rfl h) (fun _ => ?_)
   refine rd_add (by unfold I64; omega) ?_
   refine rd_indexN u58 ty109 h (by rw [mkLRace_len]; exact hi) fun b2 o2 hA2 => ?_
   rw [hg] at hA2
   refine rd_fld fd109_2 ?_
   refine rd_loadI ty3 (at_DRace_2 hA2) (hx.trans hx2) fun _ => ?_
   refine rd_neq ?_
   refine br (fun h => absurd rfl h) (fun _ => ?_)
   refine rd_add (by unfold I64; omega) ?_
   refine rd_inc (by omega) ?_
   exact ⟨m - 1, by omega, i + 1, by omega, by rw [hq]; simp only [List.cons.injEq, Value.int.injEq, true_and, and_true, Int.natCast_add, Int.natCast_one]; omega, hx2⟩
 · have : i = n := by omega
   subst this
   exact ⟨hx2, rfl⟩
theorem cdOk_of16 {c : DCode} {n m : Int} (hm : m ≤ 1048576) (h : -1 ≤ n ∧ n ≤ m ∧ (0 ≤ n → n + wCode c ≤ m)) (hc : ¬ n < 0) : wCode c ≤ 1048576 := by
 have := h.2.2 (by omega); omega
def F9 (a0 : Value) (w : World) (R : VW) : Prop :=
 OP tp (Instr.box 26 a0) w fun x1 w =>
 RD tp (Instr.loadAt 26 x1) w fun x11 =>
 CALL tp 12 [x11, (Value.int .i64 1048576)] w fun x13 w =>
 RD tp (bin .lss 3 T0 U0 x13 (Value.int .i64 0)) w fun x15 =>
 BR x15
 (R (Value.bool true) w)
 (RD tp (Instr.loadAt 26 x1) w fun x16 =>
 CALL tp 15 [x16] w fun x17 w =>
 CALL tp 44 [x17] w fun x18 w =>
 RD tp (Instr.loadAt 26 x1) w fun x19 =>
 CALL tp 15 [x19] w fun x20 w =>
 OP tp (Instr.alloc 35 true (.tuple #[])) w fun x5 w =>
 OPU tp (Instr.storeAt 35 x5 x20) w fun w =>
 RD tp (Instr.loadAt 35 x5) w fun x21 =>
 CALL tp 45 [x21] w fun x22 w =>
 CALL tp 41 [x22, x18] w fun x25 w =>
 RD tp (Op.unary .not x25) w fun x26 =>
 BR x26
 (R (Value.bool false) w)
 ((fun w => RD tp (Instr.loadAt 35 x5) w fun x27 =>
 RD tp (Instr.loadAt 26 x1) w fun x28 =>
 (fun w_ => CALL tp 15 [x28] w_ fun x29 w =>
 Ext w_ w ∧
 CALL tp 18 [x27, x29] w fun x30 w =>
 RD tp (Op.unary .not x30) w fun x31 =>
 BR x31
 (R (Value.bool false) w)
 (RD tp (Instr.loadAt 35 x5) w fun x32 =>
 CALL tp 24 [x32, (Value.int .i64 1)] w fun x34 w =>
 RD tp (bin .lss 3 T0 U0 x34 (Value.int .i64 0)) w fun x36 =>
 BR x36
 (R (Value.bool false) w)
 (CALL tp 41 [x22, x18] w fun x40 w =>
 RD tp (Op.unary .not x40) w fun x41 =>
 BR x41
 (R (Value.bool false) w)
 (CALL tp 42 [x22, (Value.int .i64 1)] w fun x45 w =>
 CALL tp 43 [x22, (Value.int .i64 1)] w fun x48 w =>
 RD tp (bin .lss 3 T0 U0 x48 (Value.int .i64 0)) w fun x50 =>
 BR x50
 (R (Value.bool false) w)
 (RD tp (bin .neq 3 T0 T0 x48 x45) w fun x53 =>
 BR x53
 (R (Value.bool false) w)
 (RD tp (Instr.loadAt 26 x1) w fun x54 =>
 CALL tp 15 [x54] w fun x55 w =>
 CALL tp 45 [x55] w fun x56 w =>
 CALL tp 41 [x56, x18] w fun x59 w =>
 RD tp (Op.unary .not x59) w fun x60 =>
 BR x60
 (R (Value.bool false) w)
 (CALL tp 43 [x22, (Value.int .i64 1)] w fun x63 w =>
 RD tp (bin .lss 3 T0 U0 x63 (Value.int .i64 0)) w fun x65 =>
 BR x65
 (R (Value.bool false) w)
 (RD tp (bin .neq 3 T0 T0 x63 x45) w fun x68 =>
 BR x68
 (R (Value.bool false) w)
 (R (Value.bool true) w))))))))) w) (World.drew1 w)))
def cfg9 : Cfg := ⟨extL, [], [], [(10, [0, 1, 2, 3, 4], 4)], [], [], []⟩
theorem F9_eq (a0 : Value) (w : World) (R : VW) : vcF Tryz.prog cfg9 Tryz.f9 [a0] w R = F9 a0 w R := by kernel_rfl
theorem F9_call {a0 : Value} {w : World} {R : VW} (h : F9 a0 w R) : CALL Tryz.prog 9 [a0] w R :=
 call_of (g := cfg9) ent mixed Tryz.func9 (Nat.le_of_ble_eq_true (by kernel_rfl)) (by kernel_rfl) (F9_eq a0 w R ▸ h)
theorem lawRacesOf {w : World} {v0 : Value} {W0 : World} {c : DCode}  (h0 : Is W0 v0 c) (e0 : Ext W0 w)  :
   CALL Tryz.prog 9 [v0] w fun r w' => Ext w w' ∧ (r = .bool true) := by
 refine F9_call ?_
 unfold F9
 have hs_e0 := e0.size
 refine op_boxS ty26 rfl h0 e0 fun w1_ hx1_ hA1 hV1 => ?_
 have hs_hx1_ := hx1_.size
 refine rd_var hV1 (Ext.refl w1_) ?_
 refine (szCode_ok h0 (e0.trans hx1_) (by omega) (by omega)).mono ?_
 rintro _ w2_ ⟨hx2_, n13, rfl, hn13⟩
 have hs_hx2_ := hx2_.size
 refine rd_lss ?_
 refine br (fun c1 => ?_) (fun c1 => ?_)
 · refine ⟨(hx1_.trans hx2_), ?_⟩
   first | rfl | contradiction | (exfalso; omega)
 · have hcd := cdOk_of16 (by omega) hn13 c1
   have hlr := racesL_len c
   refine rd_var hV1 hx2_ ?_
   refine (toCode_ok (h0.ext (e0.trans (hx1_.trans hx2_))) (by omega)).mono ?_
   rintro r17 w3_ ⟨hx3_, o17⟩
   have o17 := o17.toI
   have hs_hx3_ := hx3_.size
   refine (specRacesOf_ok o17.is (Ext.refl w3_)).mono ?_
   rintro r18 w4_ ⟨hx4_, o18⟩
   have o18 := o18.toI
   have hs_hx4_ := hx4_.size
   refine rd_var hV1 (hx2_.trans (hx3_.trans hx4_)) ?_
   refine (toCode_ok (h0.ext (e0.trans (hx1_.trans (hx2_.trans (hx3_.trans hx4_))))) (by omega)).mono ?_
   rintro r20 w5_ ⟨hx5_, o20⟩
   have o20 := o20.toI
   have hs_hx5_ := hx5_.size
   refine op_var zl35 rfl ty35 rfl o20.is (Ext.refl w5_) fun w6_ hx6_ hA5 hV5 => ?_
   have hs_hx6_ := hx6_.size
   have hg5 := hV5.lt
   refine rd_var hV5 (Ext.refl w6_) ?_
   refine (implRacesOf_ok o20.is hx6_).mono ?_
   rintro r22 w7_ ⟨hx7_, o22⟩
   have o22 := o22.toI
   have hs_hx7_ := hx7_.size
   refine (eqRaceS_ok o22.is (Ext.refl w7_) o18.is (hx5_.trans (hx6_.trans hx7_))).mono ?_
   rintro _ w8_ ⟨hx8_, rfl⟩
   have hs_hx8_ := hx8_.size
   refine rd_nodec ?_
   refine br (fun c2 => ?_) (fun c2 => ?_)
   · refine ⟨(hx1_.trans (hx2_.trans (hx3_.trans (hx4_.trans (hx5_.trans (hx6_.trans (hx7_.trans hx8_))))))), ?_⟩
     first | rfl | contradiction | (exfalso; omega)
   · have hx9_ := ext_drew w8_
     have hs_hx9_ := hx9_.size
     refine rd_var hV5 (hx7_.trans (hx8_.trans hx9_)) ?_
     refine rd_var hV1 (hx2_.trans (hx3_.trans (hx4_.trans (hx5_.trans (hx6_.trans (hx7_.trans (hx8_.trans hx9_))))))) ?_
     refine (toCode_ok (h0.ext (e0.trans (hx1_.trans (hx2_.trans (hx3_.trans (hx4_.trans (hx5_.trans (hx6_.trans (hx7_.trans (hx8_.trans hx9_)))))))))) (by omega)).mono ?_
     rintro r29 w10_ ⟨hx10_, o29⟩
     have o29 := o29.toI
     have hs_hx10_ := hx10_.size
     refine ⟨hx10_, ?_⟩
     refine (eqCode_ok o20.is (hx6_.trans (hx7_.trans (hx8_.trans (hx9_.trans hx10_)))) o29.is (Ext.refl w10_)).mono ?_
     rintro _ w11_ ⟨hx11_, rfl⟩
     have hs_hx11_ := hx11_.size
     refine rd_nodec ?_
     refine br (fun c3 => ?_) (fun c3 => ?_)
     · refine ⟨(hx1_.trans (hx2_.trans (hx3_.trans (hx4_.trans (hx5_.trans (hx6_.trans (hx7_.trans (hx8_.trans (hx9_.trans (hx10_.trans hx11_)))))))))), ?_⟩
       first | rfl | contradiction | (exfalso; omega)
     · refine rd_var hV5 (hx7_.trans (hx8_.trans (hx9_.trans (hx10_.trans hx11_)))) ?_
       refine (markCode_ok (o20.ext (hx6_.trans (hx7_.trans (hx8_.trans (hx9_.trans (hx10_.trans hx11_)))))) (by omega) (by omega) (by omega)).mono ?_
       rintro _ w12_ ⟨n34, rfl, hn34, hc12_⟩
       have hs_hc12_ := hc12_.size
       have o17_c12 := (o17.ext (hx4_.trans (hx5_.trans (hx6_.trans (hx7_.trans (hx8_.trans (hx9_.trans (hx10_.trans hx11_)))))))).chg hc12_ (by omega)
       have o18_c12 := (o18.ext (hx5_.trans (hx6_.trans (hx7_.trans (hx8_.trans (hx9_.trans (hx10_.trans hx11_))))))).chg hc12_ (by omega)
       have hV5_c12 := (hV5.ext (hx7_.trans (hx8_.trans (hx9_.trans (hx10_.trans hx11_))))).chgI hc12_ (by omega)
       have o22_c12 := (o22.ext (hx8_.trans (hx9_.trans (hx10_.trans hx11_)))).chg hc12_ (by omega)
       have o29_c12 := (o29.ext hx11_).chg hc12_ (by omega)
       refine rd_lss ?_
       refine br (fun c4 => ?_) (fun c4 => ?_)
       · refine ⟨(Ext.chgI ((((((((((hx1_.trans hx2_).trans hx3_).trans hx4_).trans hx5_).trans hx6_).trans hx7_).trans hx8_).trans hx9_).trans hx10_).trans hx11_) hc12_ (by omega)), ?_⟩
         first | rfl | contradiction | (exfalso; omega)
       · refine (eqRaceS_ok o22_c12.is (Ext.refl w12_) o18_c12.is (Ext.refl w12_)).mono ?_
         rintro _ w13_ ⟨hx13_, rfl⟩
         have hs_hx13_ := hx13_.size
         refine rd_nodec ?_
         refine br (fun c5 => ?_) (fun c5 => ?_)
         · refine ⟨((Ext.chgI ((((((((((hx1_.trans hx2_).trans hx3_).trans hx4_).trans hx5_).trans hx6_).trans hx7_).trans hx8_).trans hx9_).trans hx10_).trans hx11_) hc12_ (by omega)).trans hx13_), ?_⟩
           first | rfl | contradiction | (exfalso; omega)
         · refine (markRaceS_I (o22_c12.ext hx13_) (by omega) (by omega) (by omega)).mono ?_
           rintro _ w14_ ⟨rfl, hc14_, o22_c14⟩
           have hs_hc14_ := hc14_.size
           have o17_c14 := (o17_c12.ext hx13_).chg hc14_ (by omega)
           have o18_c14 := (o18_c12.ext hx13_).chg hc14_ (by omega)
           have o29_c14 := (o29_c12.ext hx13_).chg hc14_ (by omega)
           refine (heldRaceS_ok o22_c14.is (Ext.refl w14_) (by omega) (by omega) (by omega)).mono ?_
           rintro _ w15_ ⟨hx15_, rfl⟩
           have hs_hx15_ := hx15_.size
           refine rd_lss ?_
           refine br (fun c6 => ?_) (fun c6 => ?_)
           · refine ⟨((Ext.chgI ((Ext.chgI ((((((((((hx1_.trans hx2_).trans hx3_).trans hx4_).trans hx5_).trans hx6_).trans hx7_).trans hx8_).trans hx9_).trans hx10_).trans hx11_) hc12_ (by omega)).trans hx13_) hc14_ (by omega)).trans hx15_), ?_⟩
             first | rfl | contradiction | (exfalso; omega)
           · refine rd_neq ?_
             refine br (fun c7 => ?_) (fun c7 => ?_)
             · refine ⟨((Ext.chgI ((Ext.chgI ((((((((((hx1_.trans hx2_).trans hx3_).trans hx4_).trans hx5_).trans hx6_).trans hx7_).trans hx8_).trans hx9_).trans hx10_).trans hx11_) hc12_ (by omega)).trans hx13_) hc14_ (by omega)).trans hx15_), ?_⟩
               first | rfl | contradiction | (exfalso; omega)
             · refine rd_var hV1 ((Ext.chgI ((Ext.chgI (((((((((hx2_.trans hx3_).trans hx4_).trans hx5_).trans hx6_).trans hx7_).trans hx8_).trans hx9_).trans hx10_).trans hx11_) hc12_ (by omega)).trans hx13_) hc14_ (by omega)).trans hx15_) ?_
               refine (toCode_ok (h0.ext ((Ext.chgI ((Ext.chgI (((((((((((e0.trans hx1_).trans hx2_).trans hx3_).trans hx4_).trans hx5_).trans hx6_).trans hx7_).trans hx8_).trans hx9_).trans hx10_).trans hx11_) hc12_ (by omega)).trans hx13_) hc14_ (by omega)).trans hx15_)) (by omega)).mono ?_
               rintro r55 w16_ ⟨hx16_, o55⟩
               have o55 := o55.toI
               have hs_hx16_ := hx16_.size
               refine (implRacesOf_ok o55.is (Ext.refl w16_)).mono ?_
               rintro r56 w17_ ⟨hx17_, o56⟩
               have o56 := o56.toI
               have hs_hx17_ := hx17_.size
               refine (eqRaceS_ok o56.is (Ext.refl w17_) o18_c14.is (hx15_.trans (hx16_.trans hx17_))).mono ?_
               rintro _ w18_ ⟨hx18_, rfl⟩
               have hs_hx18_ := hx18_.size
               refine rd_nodec ?_
               refine br (fun c8 => ?_) (fun c8 => ?_)
               · refine ⟨(((((Ext.chgI ((Ext.chgI ((((((((((hx1_.trans hx2_).trans hx3_).trans hx4_).trans hx5_).trans hx6_).trans hx7_).trans hx8_).trans hx9_).trans hx10_).trans hx11_) hc12_ (by omega)).trans hx13_) hc14_ (by omega)).trans hx15_).trans hx16_).trans hx17_).trans hx18_), ?_⟩
                 first | rfl | contradiction | (exfalso; omega)
               · refine (heldRaceS_ok o22_c14.is (hx15_.trans (hx16_.trans (hx17_.trans hx18_))) (by omega) (by omega) (by omega)).mono ?_
                 rintro _ w19_ ⟨hx19_, rfl⟩
                 have hs_hx19_ := hx19_.size
                 refine rd_lss ?_
                 refine br (fun c9 => ?_) (fun c9 => ?_)
                 · refine ⟨((((((Ext.chgI ((Ext.chgI ((((((((((hx1_.trans hx2_).trans hx3_).trans hx4_).trans hx5_).trans hx6_).trans hx7_).trans hx8_).trans hx9_).trans hx10_).trans hx11_) hc12_ (by omega)).trans hx13_) hc14_ (by omega)).trans hx15_).trans hx16_).trans hx17_).trans hx18_).trans hx19_), ?_⟩
                   first | rfl | contradiction | (exfalso; omega)
                 · refine rd_neq ?_
                   refine br (fun c10 => ?_) (fun c10 => ?_)
                   · refine ⟨((((((Ext.chgI ((Ext.chgI ((((((((((hx1_.trans hx2_).trans hx3_).trans hx4_).trans hx5_).trans hx6_).trans hx7_).trans hx8_).trans hx9_).trans hx10_).trans hx11_) hc12_ (by omega)).trans hx13_) hc14_ (by omega)).trans hx15_).trans hx16_).trans hx17_).trans hx18_).trans hx19_), ?_⟩
                     first | rfl | contradiction | (exfalso; omega)
                   · refine ⟨((((((Ext.chgI ((Ext.chgI ((((((((((hx1_.trans hx2_).trans hx3_).trans hx4_).trans hx5_).trans hx6_).trans hx7_).trans hx8_).trans hx9_).trans hx10_).trans hx11_) hc12_ (by omega)).trans hx13_) hc14_ (by omega)).trans hx15_).trans hx16_).trans hx17_).trans hx18_).trans hx19_), ?_⟩
                     first | rfl | contradiction | (exfalso; omega)
def F10 (a0 a1 : Value) (w : World) (R : VW) : Prop :=
 OP tp (Instr.box 26 a0) w fun x2 w =>
 RD tp (Instr.loadAt 26 x2) w fun x13 =>
 CALL tp 12 [x13, (Value.int .i64 1048576)] w fun x15 w =>
 RD tp (bin .lss 3 T0 U0 x15 (Value.int .i64 0)) w fun x17 =>
 BR x17
 (R (Value.bool true) w)
 (RD tp (Instr.loadAt 26 x2) w fun x18 =>
 CALL tp 15 [x18] w fun x19 w =>
 CALL tp 46 [x19, a1] w fun x21 w =>
 RD tp (Instr.loadAt 26 x2) w fun x22 =>
 CALL tp 15 [x22] w fun x23 w =>
 OP tp (Instr.alloc 35 true (.tuple #[])) w fun x7 w =>
 OPU tp (Instr.storeAt 35 x7 x23) w fun w =>
 RD tp (Instr.loadAt 35 x7) w fun x24 =>
 CALL tp 47 [x24, a1] w fun x26 w =>
 CALL tp 41 [x26, x21] w fun x29 w =>
 RD tp (Op.unary .not x29) w fun x30 =>
 BR x30
 (R (Value.bool false) w)
 ((fun w => RD tp (Instr.loadAt 35 x7) w fun x31 =>
 RD tp (Instr.loadAt 26 x2) w fun x32 =>
 (fun w_ => CALL tp 15 [x32] w_ fun x33 w =>
 Ext w_ w ∧
 CALL tp 18 [x31, x33] w fun x34 w =>
 RD tp (Op.unary .not x34) w fun x35 =>
 BR x35
 (R (Value.bool false) w)
 (RD tp (Instr.loadAt 35 x7) w fun x36 =>
 CALL tp 24 [x36, (Value.int .i64 1)] w fun x38 w =>
 RD tp (bin .lss 3 T0 U0 x38 (Value.int .i64 0)) w fun x40 =>
 BR x40
 (R (Value.bool false) w)
 (CALL tp 41 [x26, x21] w fun x44 w =>
 RD tp (Op.unary .not x44) w fun x45 =>
 BR x45
 (R (Value.bool false) w)
 (CALL tp 42 [x26, (Value.int .i64 1)] w fun x49 w =>
 CALL tp 43 [x26, (Value.int .i64 1)] w fun x52 w =>
 RD tp (bin .lss 3 T0 U0 x52 (Value.int .i64 0)) w fun x54 =>
 BR x54
 (R (Value.bool false) w)
 (RD tp (bin .neq 3 T0 T0 x52 x49) w fun x57 =>
 BR x57
 (R (Value.bool false) w)
 (RD tp (Instr.loadAt 26 x2) w fun x58 =>
 CALL tp 15 [x58] w fun x59 w =>
 CALL tp 47 [x59, a1] w fun x61 w =>
 CALL tp 41 [x61, x21] w fun x64 w =>
 RD tp (Op.unary .not x64) w fun x65 =>
 BR x65
 (R (Value.bool false) w)
 (CALL tp 43 [x26, (Value.int .i64 1)] w fun x68 w =>
 RD tp (bin .lss 3 T0 U0 x68 (Value.int .i64 0)) w fun x70 =>
 BR x70
 (R (Value.bool false) w)
 (RD tp (bin .neq 3 T0 T0 x68 x49) w fun x73 =>
 BR x73
 (R (Value.bool false) w)
 (R (Value.bool true) w))))))))) w) (World.drew1 w)))
theorem rdTerm : ∀ n, Reads Tryz.prog 123 DTerm n ∧ Reads Tryz.prog 121 (List DTerm) n
 | 0 => ⟨reads_zero, reads_zero⟩
 | n + 1 => ⟨reads_tup (reads_struct (α := Int × Int × ByteArray × List DTerm) us123 (by kernel_rfl)
     (.cons rfl (by kernel_rfl) (reads_int u3 n) (.cons rfl (by kernel_rfl) (reads_int u3 n) (.cons rfl (by kernel_rfl) (reads_str u9 n) (.one rfl (by kernel_rfl) (rdTerm n).2))))),
   reads_slice u121 (by kernel_rfl) (rdTerm n).1⟩
theorem rdStrs : ∀ n, Reads Tryz.prog 22 (List ByteArray) n := reads_all_slice u22 (by kernel_rfl) (reads_str u9)
theorem rdIns : ∀ n, Reads Tryz.prog 125 DIns n := fun n =>
 reads_via (g := fun p => ⟨p.1, p.2.1, p.2.2.1, p.2.2.2⟩) (fun _ => rfl) (reads_all_struct (α := Int × Int × DTerm × Int) us125 (by kernel_rfl)
   (fun n => .cons rfl (by kernel_rfl) (reads_int u3 n) (.cons rfl (by kernel_rfl) (reads_int u3 n) (.cons rfl (by kernel_rfl) (rdTerm n).1 (.one rfl (by kernel_rfl) (reads_int u3 n))))) n)
theorem rdInss : ∀ n, Reads Tryz.prog 24 (List DIns) n := reads_all_slice u24 (by kernel_rfl) rdIns
theorem rdIntsC : ∀ n, Reads Tryz.prog 23 (List Int) n := reads_all_slice u23 (by kernel_rfl) (reads_int u3)
theorem rdCode : ∀ n, Reads Tryz.prog 26 DCode n := fun n =>
 reads_via (g := fun p => ⟨p.1, p.2.1, p.2.2.1, p.2.2.2.1, p.2.2.2.2⟩) (fun _ => rfl) (reads_all_struct (α := List ByteArray × List ByteArray × List ByteArray × List Int × List DIns) us26 (by kernel_rfl)
   (fun n => .cons rfl (by kernel_rfl) (rdStrs n) (.cons rfl (by kernel_rfl) (rdStrs n) (.cons rfl (by kernel_rfl) (rdStrs n) (.cons rfl (by kernel_rfl) (rdIntsC n) (.one rfl (by kernel_rfl) (rdInss n)))))) n)
end Go.Proofs.YtjgfldfbljmhhaaGreat
namespace Go.Proofs.YtjgfldfbljmhhaaGreat
open Go
theorem and_tt {a b : Bool} (h : a = true) (k : b = true) : (a && b) = true := by rw [h, k]; rfl
theorem fa_laid : laidOutB Tryz.prog = true := by kernel_rfl
theorem fa_maps : mapsRowed Tryz.prog = true := by kernel_rfl
theorem fa_plain : (Rows.fnExactHeldRightRow.plainKeys == Tryz.prog.plainKeys) = true := by kernel_rfl
theorem fa_heard : Tryz.prog.stopsHeard = true := by kernel_rfl
theorem fa_may : Tryz.prog.mayEnter = true := by kernel_rfl
theorem fa_lift : (Rows.fnExactHeldRightRow.lifted == Tryz.prog.liftsFinal) = true := by kernel_rfl
theorem fa_make : (Tryz.prog.make == some Rows.fnExactHeldRightRow.make) = true := by kernel_rfl
end Go.Proofs.YtjgfldfbljmhhaaGreat
namespace Go.Proofs.YtjgfldfbljmhhaaGreat.fnExactRacesOf
open Go.ChangeShapes Go.WideShapes Go.ChangeAt Go.RowKit Go.Sh
set_option linter.unusedVariables false
theorem own : ownKnob Tryz.prog.godebug = none := by kernel_rfl
theorem laidOut : laidOutB Tryz.prog = true := by kernel_rfl
set_option maxRecDepth 100000 in
theorem lifted (os : Os) (started : os.Started) (H : Type) (enc : TypeId × Value → H) :
    ReturnsInHanded {} Tryz.checked os 9 .any (Rows.fnExactRacesOfSpec.pre6 enc Tryz.prog Tryz.f9 Rows.fnExactRacesOfRow.domain false) (Rows.fnExactRacesOfSpec.post enc Tryz.prog Tryz.f9 false true false false) := by
  refine returnsInHanded_of_change (C := Tryz.checked) own started (by kernel_rfl) Tryz.func9
    (ChangeSpec.witness6 (enc := enc) (C := Tryz.checked) false ⟨#[], #[.agg #[.slice none 0 0, .slice none 0 0, .slice none 0 0, .slice none 0 0, .slice none 0 0]], []⟩ 8 (by kernel_rfl) (by kernel_rfl) (by kernel_rfl) (by kernel_rfl)) ?_
  intro W base args ds gs before hval0 hW hcnd _
  have hval : ∀ (j : Nat) t v, Tryz.f9.params[j]? = some t → args[j]? = some v → Value.okWide Tryz.prog W .any base t v := hval0
  have hW' := hW
  obtain ⟨p, q, hA0, hV, rfl, hfz, hnd⟩ := hW
  have hA : DataW.TrodAll enc Tryz.prog W 0 (fun _ => true) true Tryz.f9.params.toList args.toList ds p := hA0
  rw [Tryz.params9] at hA hval
  obtain ⟨v0, vs0, d0, ds0, p0, q0, hargs, rfl, rfl, h0, r0⟩ := trodAll_cons hA
  obtain ⟨rfl, rfl, rfl⟩ := trodAll_nil r0
  obtain rfl : args = #[v0] := by cases args; simp_all
  obtain ⟨rfl, rfl⟩ := trodVars_none hV
  have lt0 : ∀ x ∈ p0, x.block < W.heap.size := by obtain ⟨m, hm⟩ := h0; exact DataW.trod_lt m _ _ _ hm
  obtain ⟨x0, i0⟩ := is_of_struct (α := DCode) us26 rfl rdCode (hval 0 26 v0 rfl rfl) h0
  clear hA0 hval0
  obtain ⟨hcall⟩ := lawRacesOf i0 (Ext.refl W)
  refine hcall.mono fun e W' ⟨v, he, bel, hv⟩ => ?_
  subst he hv
  exact ⟨_, rfl, _, _, _, [], _, [], hW', trodAll_mk1 (shut_bool Tryz.underlying4 _), (trodAll_cons_mk (Below.trod laidOut (by kernel_rfl) (of_decide_eq_true (by kernel_rfl)) h0 bel lt0) trodAll_mk0), rfl, bel.frame _, fun h => by cases h⟩
theorem j_inPlace : (Rows.fnExactRacesOfRow.inPlace == Tryz.prog.inPlace 9) = true := by kernel_rfl
theorem j_unfollowed : (Rows.fnExactRacesOfRow.unfollowed == Tryz.prog.unfollowed 9) = true := by kernel_rfl
theorem j_recurses : (Rows.fnExactRacesOfRow.recurses == Tryz.prog.recurses 9) = true := by kernel_rfl
theorem j_named : (Rows.fnExactRacesOfRow.named == Tryz.prog.varsNamed 9) = true := by kernel_rfl
theorem closed : joinedFacts Tryz.prog 9 Tryz.f9 Rows.fnExactRacesOfSpec Rows.fnExactRacesOfRow = true := by
 unfold joinedFacts
 exact (and_tt (and_tt (and_tt (and_tt (and_tt (and_tt (and_tt (and_tt (and_tt (and_tt (and_tt (and_tt (and_tt (and_tt (and_tt (and_tt (and_tt (and_tt (and_tt (and_tt (and_tt (and_tt (and_tt (and_tt (and_tt (and_tt (and_tt (and_tt (and_tt (and_tt (and_tt (by kernel_rfl) fa_laid) fa_maps) (by kernel_rfl)) (by kernel_rfl)) (by kernel_rfl)) (by kernel_rfl)) (by kernel_rfl)) (by kernel_rfl)) j_inPlace) j_unfollowed) j_recurses) j_named) (by kernel_rfl)) (by kernel_rfl)) (by kernel_rfl)) (by kernel_rfl)) (by kernel_rfl)) (by kernel_rfl)) (by kernel_rfl)) (by kernel_rfl)) (by kernel_rfl)) fa_plain) (by kernel_rfl)) fa_heard) fa_may) fa_lift) fa_make) (by kernel_rfl)) (by kernel_rfl)) (by kernel_rfl)) (by kernel_rfl))
theorem over : Rows.fnExactRacesOfRow.holds Tryz.pinned (OpenSpec.ofChange Rows.fnExactRacesOfSpec) :=
 OpenClaim.holds_of_wide 9 Tryz.f9 rfl rfl rfl rfl rfl rfl rfl ⟨rfl, rfl, rfl, rfl, rfl⟩ rfl rfl rfl rfl rfl (by kernel_rfl) Tryz.func9 closed
   (of_decide_eq_true (by kernel_rfl)) (by unfold Func.isWrapper; first | (rw [if_pos (by decide +kernel)]; kernel_rfl) | (rw [if_neg (by decide +kernel)]; exact ⟨rfl, rfl⟩))
   (fun os started H enc _ => lifted os started H enc)
theorem proved : Rows.FnExactRacesOfSaid := over
end Go.Proofs.YtjgfldfbljmhhaaGreat.fnExactRacesOf
