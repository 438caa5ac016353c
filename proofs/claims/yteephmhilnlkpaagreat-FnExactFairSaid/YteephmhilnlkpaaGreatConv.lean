/-
  The copies that the laws make of their arguments.
-/
import Derived.Test.YteephmhilnlkpaaGreatSmall
namespace Go.Proofs.YteephmhilnlkpaaGreat
open Go Go.Sh Go.Proofs
set_option linter.unusedVariables false
/-- laws.toIntSS -/
def F70 (a0 : Value) (w : World) (R : Value → World → Prop) : Prop :=
  RD Tryz.prog (Builtin.len_ #[27] 3 [a0].toArray) w fun x6 =>
  OP Tryz.prog (Instr.makeSlice 27 x6 x6) w fun x7 w =>
  LOOPI [4] [(Value.int .i64 0)] w fun u3 w next3 =>
   RD Tryz.prog (Builtin.len_ #[27] 3 [a0].toArray) w fun x10 =>
   RD Tryz.prog (bin .lss 3 (.tmp 0) (.tmp 0) (u3 4) x10) w fun x11 =>
   BR x11
    (RD Tryz.prog (Instr.indexAt 27 a0 (u3 4)) w fun x18 =>
    RD Tryz.prog (Instr.loadAt 23 x18) w fun x19 =>
    CALL Tryz.prog 42 [x19] w fun x20 w =>
    RD Tryz.prog (Instr.indexAt 27 x7 (u3 4)) w fun x21 =>
    OPU Tryz.prog (Instr.storeAt 23 x21 x20) w fun w =>
    RD Tryz.prog (bin .add 3 (.tmp 0) (.const undef) (u3 4) (Value.int .i64 1)) w fun x13 =>
    next3 [x13] w)
    (R x7 w)
def cfg70 : Cfg := { ext := extL, joins := [], loops := [(3, 4194064, [4])], draws := [], pars := [] }
theorem F70_eq (a0 : Value) (w : World) (R : Value → World → Prop) : vcF Tryz.prog cfg70 Tryz.f70 [a0] w R = F70 a0 w R := by kernel_rfl
theorem F70_call {a0 : Value} {w : World} {R : Value → World → Prop} (h : F70 a0 w R) : CALL Tryz.prog 70 [a0] w R :=
  call_of (g := cfg70) ent mixed Tryz.func70 (Nat.le_of_ble_eq_true (by kernel_rfl)) (by kernel_rfl) (F70_eq a0 w R ▸ h)

/-- laws.toState -/
def F18 (a0 : Value) (w : World) (R : Value → World → Prop) : Prop :=
  OP Tryz.prog (Instr.box 29 a0) w fun x1 w =>
  OP Tryz.prog (Instr.alloc 32 true (.tuple #[])) w fun x2 w =>
  OP Tryz.prog (Instr.alloc 32 true (.tuple #[])) w fun x3 w =>
  RD Tryz.prog (Instr.fieldAt 29 x1 0) w fun x4 =>
  RD Tryz.prog (Instr.loadAt 23 x4) w fun x5 =>
  CALL Tryz.prog 42 [x5] w fun x6 w =>
  RD Tryz.prog (Instr.fieldAt 32 x3 0) w fun x7 =>
  OPU Tryz.prog (Instr.storeAt 23 x7 x6) w fun w =>
  RD Tryz.prog (Instr.fieldAt 29 x1 1) w fun x8 =>
  RD Tryz.prog (Instr.loadAt 23 x8) w fun x9 =>
  CALL Tryz.prog 42 [x9] w fun x10 w =>
  RD Tryz.prog (Instr.fieldAt 32 x3 1) w fun x11 =>
  OPU Tryz.prog (Instr.storeAt 23 x11 x10) w fun w =>
  RD Tryz.prog (Instr.fieldAt 29 x1 2) w fun x12 =>
  RD Tryz.prog (Instr.loadAt 27 x12) w fun x13 =>
  CALL Tryz.prog 70 [x13] w fun x14 w =>
  RD Tryz.prog (Instr.fieldAt 32 x3 2) w fun x15 =>
  OPU Tryz.prog (Instr.storeAt 27 x15 x14) w fun w =>
  RD Tryz.prog (Instr.loadAt 32 x3) w fun x16 =>
  OPU Tryz.prog (Instr.storeAt 32 x2 x16) w fun w =>
  RD Tryz.prog (loadRes 32 x2) w fun r2 => R r2 w
def cfg18 : Cfg := { ext := extL, joins := [], loops := [], draws := [], pars := [] }
theorem F18_eq (a0 : Value) (w : World) (R : Value → World → Prop) : vcF Tryz.prog cfg18 Tryz.f18 [a0] w R = F18 a0 w R := by kernel_rfl
theorem F18_call {a0 : Value} {w : World} {R : Value → World → Prop} (h : F18 a0 w R) : CALL Tryz.prog 18 [a0] w R :=
  call_of (g := cfg18) ent mixed Tryz.func18 (Nat.le_of_ble_eq_true (by kernel_rfl)) (by kernel_rfl) (F18_eq a0 w R ▸ h)

set_option linter.unusedVariables false

theorem rep_int {w : World} {x : Int} (h : I64 x) : Rep.rep [] w [.int .i64 x] x := ⟨rfl, rfl, h⟩
theorem toIntSS_ok {w : World} {v : Value} {l : List (List Int)} (h : Is w v l) (hn : l.length ≤ 1048576) (hn2 : ∀ x ∈ l, x.length ≤ 1048576) :
    CALL Tryz.prog 70 [v] w fun r w' => Ext w w' ∧ Own w.heap.size w' r l := by
  refine F70_call ?_
  unfold F70
  refine rd_len u27 h ?_
  refine op_make (α := List Int) u27 ty23 z23 (by omega) (by omega) fun w1 hx1 hf => ?_
  refine loopC l.length (fun k us w' => us = [.int .i64 (k : Int)] ∧ Ext w w' ∧ ∃ Fi, Fill w.heap.size 23 l.length Fi w' (l.take k) ∧ ∀ b ∈ Fi, w.heap.size ≤ b) 0 (Nat.zero_le _) ⟨rfl, hx1, [], by simpa using hf, by simp⟩ ?_
  rintro k m u w2 hkm ⟨hu, hx2, Fi, hf2, hFl⟩
  simp only [List.map_cons, List.map_nil, List.cons.injEq, and_true] at hu
  rw [hu]
  refine rd_len u27 h ?_
  refine rd_lss ?_
  refine br (fun hlt => ?_) (fun hge => ?_)
  · have hk : k < l.length := by omega
    refine rd_indexN u27 ty23 h hk fun b o hA => ?_
    refine rd_load ty23 hA hx2 fun v19 h19 => ?_
    refine (toIntS_ok (h19.ext hx2) (hn2 _ (List.getElem_mem hk))).mono ?_
    rintro r20 w3 ⟨hx3, F20, hm20, hl20⟩
    refine rd_indexG u27 ty23 hk ?_
    have hlt2 := hf2.lt
    have hnd : (F20 ++ (w.heap.size :: Fi)).Nodup := by
      rw [List.nodup_append]
      refine ⟨hm20.nodup, by obtain ⟨_, _, _, _, _, hn, _⟩ := hf2; exact hn, fun a ha c hc e => ?_⟩
      subst e
      have := hl20 a ha
      have := hlt2 a hc
      omega
    refine opu_fill (α := List Int) ty23 (hf2.ext hx3) (by simp [Rep.size]; omega) (by simp; omega) hm20 hnd fun w4 hc4 hf4 => ?_
    refine rd_inc (by have := is_len h; omega) ?_
    refine ⟨m - 1, by omega, k + 1, by omega, rfl, (hx2.trans hx3).chg_trans hc4 (by simp), Fi ++ F20, ?_, ?_⟩
    · rw [List.take_succ_eq_append_getElem hk]
      exact hf4
    · intro b hb
      rcases List.mem_append.1 hb with hb | hb
      · exact hFl b hb
      · exact Nat.le_trans hx2.size (hl20 b hb)
  · have hk : k = l.length := by omega
    subst hk
    rw [List.take_length] at hf2
    exact ⟨hx2, _, hf2.own rfl (by rw [maxLen_eq]; omega), by simpa using hFl⟩

theorem zlState : zeroL Tryz.prog 32 = some [.slice none 0 0, .slice none 0 0, .slice none 0 0] := by kernel_rfl
/-- each list of a state has at most so many elements -/
def StOk (s : DState) : Prop := s.vars.length ≤ 1048576 ∧ s.owner.length ≤ 1048576 ∧ s.stacks.length ≤ 1048576 ∧ ∀ x ∈ s.stacks, x.length ≤ 1048576
theorem nodup_far {F G : List Nat} {m : Nat} (h1 : F.Nodup) (h2 : G.Nodup) (hF : ∀ b ∈ F, b < m) (hG : ∀ b ∈ G, m ≤ b) : (F ++ G).Nodup := by
  rw [List.nodup_append]
  refine ⟨h1, h2, fun a ha c hc e => ?_⟩
  subst e
  have := hF a ha
  have := hG a hc
  omega
theorem toState_ok {w : World} {v : Value} {s : DState} (h : Is w v s) (hn : StOk s) :
    CALL Tryz.prog 18 [v] w fun r w' => Ext w w' ∧ Own w.heap.size w' r s := by
  obtain ⟨hn1, hn2, hn3, hn4⟩ := hn
  refine F18_call ?_
  unfold F18
  refine op_box h (Ext.refl w) fun w1 hx1 hA => ?_
  refine op_alloc zlState fun w2 hx2 hB2 => ?_
  refine op_alloc zlState fun w3 hx3 hB3 => ?_
  have hx13 := hx2.trans hx3
  have hx03 := hx1.trans hx13
  have hg2 : w1.heap.size < w2.heap.size := hB2.lt
  refine rd_fld fd29_0 ?_
  refine rd_load ty23 (at_DState_0 hA) hx13 fun v5 h5 => ?_
  refine (toIntS_ok (h5.ext hx13) hn1).mono ?_
  rintro r6 w4 ⟨hx4, F6, hm6, hl6⟩
  refine rd_fld fd32_0 ?_
  have r6' := mine_cell rfl hm6.own
  refine opu_blk (α := List Int) ty23 (hB3.ext hx4) r6' rfl (by simp [Rep.size]) fun w5 hc5 hB5 => ?_
  have hx15 : Ext w1 w5 := (hx13.trans hx4).chg_trans hc5 (by simp; omega)
  have hm6' : Mine F6 w5 r6 s.vars := hm6.keep fun b hb => hc5.block b (hm6.lt b hb) (by simp; have := hl6 b hb; have := hB3.lt; omega)
  refine rd_fld fd29_1 ?_
  refine rd_load ty23 (at_DState_1 hA) hx15 fun v9 h9 => ?_
  refine (toIntS_ok (h9.ext hx15) hn2).mono ?_
  rintro r10 w6 ⟨hx6, F10, hm10, hl10⟩
  refine rd_fld fd32_1 ?_
  have r10' := mine_cell rfl hm10.own
  refine opu_blk (α := List Int) ty23 (hB5.ext hx6) r10' rfl (by simp [Rep.size]) fun w7 hc7 hB7 => ?_
  have hx17 : Ext w1 w7 := (hx15.trans hx6).chg_trans hc7 (by simp; omega)
  have hm6'' : Mine F6 w7 r6 s.vars := (hm6'.ext hx6).keep fun b hb => hc7.block b ((hm6'.ext hx6).lt b hb) (by simp; have := hl6 b hb; have := hB3.lt; omega)
  have hm10' : Mine F10 w7 r10 s.owner := hm10.keep fun b hb => hc7.block b (hm10.lt b hb) (by simp; have := hl10 b hb; have := hB5.lt; omega)
  refine rd_fld fd29_2 ?_
  refine rd_load ty27 (at_DState_2 hA) hx17 fun v13 h13 => ?_
  refine (toIntSS_ok (h13.ext hx17) hn3 hn4).mono ?_
  rintro r14 w8 ⟨hx8, F14, hm14, hl14⟩
  refine rd_fld fd32_2 ?_
  have r14' := mine_cell rfl hm14.own
  refine opu_blk (α := List (List Int)) ty27 (hB7.ext hx8) r14' rfl (by simp [Rep.size]) fun w9 hc9 hB9 => ?_
  have hx19 : Ext w1 w9 := (hx17.trans hx8).chg_trans hc9 (by simp; omega)
  have hm6e := (hm6''.ext hx8)
  have hm10e := (hm10'.ext hx8)
  have hm6f : Mine F6 w9 r6 s.vars := hm6e.keep fun b hb => hc9.block b (hm6e.lt b hb) (by simp; have := hl6 b hb; have := hB3.lt; omega)
  have hm10f : Mine F10 w9 r10 s.owner := hm10e.keep fun b hb => hc9.block b (hm10e.lt b hb) (by simp; have := hl10 b hb; have := hB5.lt; omega)
  have hm14f : Mine F14 w9 r14 s.stacks := hm14.keep fun b hb => hc9.block b (hm14.lt b hb) (by simp; have := hl14 b hb; have := hB7.lt; omega)
  have hnd : (F6 ++ (F10 ++ F14)).Nodup := by
    refine nodup_far (m := w5.heap.size) hm6.nodup (nodup_far (m := w7.heap.size) hm10.nodup hm14.nodup hm10'.lt hl14) hm6'.lt fun b hb => ?_
    rcases List.mem_append.1 hb with hb | hb
    · exact hl10 b hb
    · have := hl14 b hb; have := hx6.size; have := hc7.size; omega
  have hms := mine_state hm6f hm10f hm14f hnd
  obtain ⟨⟨cs, hr, hv⟩, _, hwr⟩ := hms
  have hcs : cs = [r6, r10, r14] := by
    have := mkv_cells hr
    rw [← hv] at this
    simpa [Value.cells] using this.symm
  subst hcs
  refine rd_loadE ty32 hr hB9.range ?_
  have hB29 : Blk w1.heap.size 32 w9 _ := ((((((hB2.ext hx3).ext hx4).chg hc5 (by simp; omega)).ext hx6).chg hc7 (by simp; omega)).ext hx8).chg hc9 (by simp; omega)
  refine opu_blk (α := DState) ty32 hB29 hr rfl (by simp [Rep.size]) fun w10 hc10 hB10 => ?_
  have hx010 : Ext w w10 := (hx1.trans hx19).chg_trans hc10 (by simp; exact hx1.size)
  have hlo : ∀ b ∈ F6 ++ (F10 ++ F14), w3.heap.size ≤ b := by
    intro b hb
    rcases List.mem_append.1 hb with hb | hb
    · exact hl6 b hb
    · rcases List.mem_append.1 hb with hb | hb
      · have := hl10 b hb; have := hx4.size; have := hc5.size; omega
      · have := hl14 b hb; have := hx4.size; have := hc5.size; have := hx6.size; have := hc7.size; omega
  have hkeep : ∀ b ∈ F6 ++ (F10 ++ F14), w10.heap[b]? = w9.heap[b]? := fun b hb => hc10.block b (hwr.lt b hb) (by simp; have := hlo b hb; have := hx3.size; omega)
  refine rd_loadRE ty32 (Rep.keep hr hkeep) hB10.range ?_
  exact ⟨hx010, _, ⟨⟨_, Rep.keep hr hkeep, rfl⟩, hnd, hwr.keep hkeep⟩, fun b hb => Nat.le_trans hx03.size (hlo b hb)⟩
end Go.Proofs.YteephmhilnlkpaaGreat
