/-
  The copies that the laws make of their arguments.
-/
import Derived.Test.YtokppocbfpjngaaSmall
namespace Go.Proofs.Ytokppocbfpjngaa
open Go Go.Sh Go.Proofs
set_option linter.unusedVariables false
/-- laws.toIntSS -/
def F64 (a0 : Value) (w : World) (R : Value → World → Prop) : Prop :=
  RD Try.prog (Builtin.len_ #[37] 3 [a0].toArray) w fun x6 =>
  OP Try.prog (Instr.makeSlice 37 x6 x6) w fun x7 w =>
  LOOPI [4] [(Value.int .i64 0)] w fun u3 w next3 =>
   RD Try.prog (Builtin.len_ #[37] 3 [a0].toArray) w fun x10 =>
   RD Try.prog (bin .lss 3 (.tmp 0) (.tmp 0) (u3 4) x10) w fun x11 =>
   BR x11
    (RD Try.prog (Instr.indexAt 37 a0 (u3 4)) w fun x18 =>
    RD Try.prog (Instr.loadAt 23 x18) w fun x19 =>
    CALL Try.prog 17 [x19] w fun x20 w =>
    RD Try.prog (Instr.indexAt 37 x7 (u3 4)) w fun x21 =>
    OPU Try.prog (Instr.storeAt 23 x21 x20) w fun w =>
    RD Try.prog (bin .add 3 (.tmp 0) (.const undef) (u3 4) (Value.int .i64 1)) w fun x13 =>
    next3 [x13] w)
    (R x7 w)
def cfg64 : Cfg := { ext := extL, joins := [], loops := [(3, 4194064, [4])], draws := [], pars := [] }
theorem F64_eq (a0 : Value) (w : World) (R : Value → World → Prop) : vcF Try.prog cfg64 Try.f64 [a0] w R = F64 a0 w R := by kernel_rfl
theorem F64_call {a0 : Value} {w : World} {R : Value → World → Prop} (h : F64 a0 w R) : CALL Try.prog 64 [a0] w R :=
  call_of (g := cfg64) ent mixed Try.func64 (Nat.le_of_ble_eq_true (by kernel_rfl)) (by kernel_rfl) (F64_eq a0 w R ▸ h)

/-- laws.toState -/
def F23 (a0 : Value) (w : World) (R : Value → World → Prop) : Prop :=
  OP Try.prog (Instr.box 39 a0) w fun x1 w =>
  OP Try.prog (Instr.alloc 42 true (.tuple #[])) w fun x2 w =>
  OP Try.prog (Instr.alloc 42 true (.tuple #[])) w fun x3 w =>
  RD Try.prog (Instr.fieldAt 39 x1 0) w fun x4 =>
  RD Try.prog (Instr.loadAt 23 x4) w fun x5 =>
  CALL Try.prog 17 [x5] w fun x6 w =>
  RD Try.prog (Instr.fieldAt 42 x3 0) w fun x7 =>
  OPU Try.prog (Instr.storeAt 23 x7 x6) w fun w =>
  RD Try.prog (Instr.fieldAt 39 x1 1) w fun x8 =>
  RD Try.prog (Instr.loadAt 23 x8) w fun x9 =>
  CALL Try.prog 17 [x9] w fun x10 w =>
  RD Try.prog (Instr.fieldAt 42 x3 1) w fun x11 =>
  OPU Try.prog (Instr.storeAt 23 x11 x10) w fun w =>
  RD Try.prog (Instr.fieldAt 39 x1 2) w fun x12 =>
  RD Try.prog (Instr.loadAt 37 x12) w fun x13 =>
  CALL Try.prog 64 [x13] w fun x14 w =>
  RD Try.prog (Instr.fieldAt 42 x3 2) w fun x15 =>
  OPU Try.prog (Instr.storeAt 37 x15 x14) w fun w =>
  RD Try.prog (Instr.loadAt 42 x3) w fun x16 =>
  OPU Try.prog (Instr.storeAt 42 x2 x16) w fun w =>
  RD Try.prog (loadRes 42 x2) w fun r2 => R r2 w
def cfg23 : Cfg := { ext := extL, joins := [], loops := [], draws := [], pars := [] }
theorem F23_eq (a0 : Value) (w : World) (R : Value → World → Prop) : vcF Try.prog cfg23 Try.f23 [a0] w R = F23 a0 w R := by kernel_rfl
theorem F23_call {a0 : Value} {w : World} {R : Value → World → Prop} (h : F23 a0 w R) : CALL Try.prog 23 [a0] w R :=
  call_of (g := cfg23) ent mixed Try.func23 (Nat.le_of_ble_eq_true (by kernel_rfl)) (by kernel_rfl) (F23_eq a0 w R ▸ h)

set_option linter.unusedVariables false

theorem rep_int {w : World} {x : Int} (h : I64 x) : Rep.rep [] w [.int .i64 x] x := ⟨rfl, rfl, h⟩
theorem toIntSS_ok {w : World} {v : Value} {l : List (List Int)} (h : Is w v l) (hn : l.length ≤ 1048576) (hn2 : ∀ x ∈ l, x.length ≤ 1048576) :
    CALL Try.prog 64 [v] w fun r w' => Ext w w' ∧ Own w.heap.size w' r l := by
  refine F64_call ?_
  unfold F64
  refine rd_len u37 h ?_
  refine op_make (α := List Int) u37 ty23 z23 (by omega) (by omega) fun w1 hx1 hf => ?_
  refine loopC l.length (fun k us w' => us = [.int .i64 (k : Int)] ∧ Ext w w' ∧ ∃ Fi, Fill w.heap.size 23 l.length Fi w' (l.take k) ∧ ∀ b ∈ Fi, w.heap.size ≤ b) 0 (Nat.zero_le _) ⟨rfl, hx1, [], by simpa using hf, by simp⟩ ?_
  rintro k m u w2 hkm ⟨hu, hx2, Fi, hf2, hFl⟩
  simp only [List.map_cons, List.map_nil, List.cons.injEq, and_true] at hu
  rw [hu]
  refine rd_len u37 h ?_
  refine rd_lss ?_
  refine br (fun hlt => ?_) (fun hge => ?_)
  · have hk : k < l.length := by omega
    refine rd_indexN u37 ty23 h hk fun b o hA => ?_
    refine rd_load ty23 hA hx2 fun v19 h19 => ?_
    refine (toIntS_ok (h19.ext hx2) (hn2 _ (List.getElem_mem hk))).mono ?_
    rintro r20 w3 ⟨hx3, F20, hm20, hl20⟩
    refine rd_indexG u37 ty23 hk ?_
    have hlt2 := hf2.lt
    have hnd : (F20 ++ (w.heap.size :: Fi)).Nodup := by
      rw [List.nodup_append]
      refine ⟨hm20.nodup, by obtain ⟨_, _, _, _, _, hn, _⟩ := hf2; exact hn, fun a ha c hc e => ?_⟩
      subst e
      have := hl20 a ha
      have := hlt2 a hc
      omega
    refine opu_fill (α := List Int) ty23 (hf2.ext hx3) (by simp [Rep.size]; omega) (by simp; omega) hm20 hnd fun w4 hc4 hf4 => ?_
    refine rd_inc (by have := is_len h; omega) ?_
    refine ⟨m - 1, by omega, k + 1, by omega, rfl, (hx2.trans hx3).chg_trans hc4 (by simp), Fi ++ F20, ?_, ?_⟩
    · rw [List.take_succ_eq_append_getElem hk]
      exact hf4
    · intro b hb
      rcases List.mem_append.1 hb with hb | hb
      · exact hFl b hb
      · exact Nat.le_trans hx2.size (hl20 b hb)
  · have hk : k = l.length := by omega
    subst hk
    rw [List.take_length] at hf2
    exact ⟨hx2, _, hf2.own rfl (by rw [maxLen_eq]; omega), by simpa using hFl⟩

theorem zlState : zeroL Try.prog 42 = some [.slice none 0 0, .slice none 0 0, .slice none 0 0] := by kernel_rfl
/-- each list of a state has at most so many elements -/
def StOk (s : DState) : Prop := s.vars.length ≤ 1048576 ∧ s.owner.length ≤ 1048576 ∧ s.stacks.length ≤ 1048576 ∧ ∀ x ∈ s.stacks, x.length ≤ 1048576
theorem nodup_far {F G : List Nat} {m : Nat} (h1 : F.Nodup) (h2 : G.Nodup) (hF : ∀ b ∈ F, b < m) (hG : ∀ b ∈ G, m ≤ b) : (F ++ G).Nodup := by
  rw [List.nodup_append]
  refine ⟨h1, h2, fun a ha c hc e => ?_⟩
  subst e
  have := hF a ha
  have := hG a hc
  omega
theorem toState_ok {w : World} {v : Value} {s : DState} (h : Is w v s) (hn : StOk s) :
    CALL Try.prog 23 [v] w fun r w' => Ext w w' ∧ Own w.heap.size w' r s := by
  obtain ⟨hn1, hn2, hn3, hn4⟩ := hn
  refine F23_call ?_
  unfold F23
  refine op_box h (Ext.refl w) fun w1 hx1 hA => ?_
  refine op_alloc zlState fun w2 hx2 hB2 => ?_
  refine op_alloc zlState fun w3 hx3 hB3 => ?_
  have hx13 := hx2.trans hx3
  have hx03 := hx1.trans hx13
  have hg2 : w1.heap.size < w2.heap.size := hB2.lt
  refine rd_fld fd39_0 ?_
  refine rd_load ty23 (at_DState_0 hA) hx13 fun v5 h5 => ?_
  refine (toIntS_ok (h5.ext hx13) hn1).mono ?_
  rintro r6 w4 ⟨hx4, F6, hm6, hl6⟩
  refine rd_fld fd42_0 ?_
  have r6' := mine_cell rfl hm6.own
  refine opu_blk (α := List Int) ty23 (hB3.ext hx4) r6' rfl (by simp [Rep.size]) fun w5 hc5 hB5 => ?_
  have hx15 : Ext w1 w5 := (hx13.trans hx4).chg_trans hc5 (by simp; omega)
  have hm6' : Mine F6 w5 r6 s.vars := hm6.keep fun b hb => hc5.block b (hm6.lt b hb) (by simp; have := hl6 b hb; have := hB3.lt; omega)
  refine rd_fld fd39_1 ?_
  refine rd_load ty23 (at_DState_1 hA) hx15 fun v9 h9 => ?_
  refine (toIntS_ok (h9.ext hx15) hn2).mono ?_
  rintro r10 w6 ⟨hx6, F10, hm10, hl10⟩
  refine rd_fld fd42_1 ?_
  have r10' := mine_cell rfl hm10.own
  refine opu_blk (α := List Int) ty23 (hB5.ext hx6) r10' rfl (by simp [Rep.size]) fun w7 hc7 hB7 => ?_
  have hx17 : Ext w1 w7 := (hx15.trans hx6).chg_trans hc7 (by simp; omega)
  have hm6'' : Mine F6 w7 r6 s.vars := (hm6'.ext hx6).keep fun b hb => hc7.block b ((hm6'.ext hx6).lt b hb) (by simp; have := hl6 b hb; have := hB3.lt; omega)
  have hm10' : Mine F10 w7 r10 s.owner := hm10.keep fun b hb => hc7.block b (hm10.lt b hb) (by simp; have := hl10 b hb; have := hB5.lt; omega)
  refine rd_fld fd39_2 ?_
  refine rd_load ty37 (at_DState_2 hA) hx17 fun v13 h13 => ?_
  refine (toIntSS_ok (h13.ext hx17) hn3 hn4).mono ?_
  rintro r14 w8 ⟨hx8, F14, hm14, hl14⟩
  refine rd_fld fd42_2 ?_
  have r14' := mine_cell rfl hm14.own
  refine opu_blk (α := List (List Int)) ty37 (hB7.ext hx8) r14' rfl (by simp [Rep.size]) fun w9 hc9 hB9 => ?_
  have hx19 : Ext w1 w9 := (hx17.trans hx8).chg_trans hc9 (by simp; omega)
  have hm6e := (hm6''.ext hx8)
  have hm10e := (hm10'.ext hx8)
  have hm6f : Mine F6 w9 r6 s.vars := hm6e.keep fun b hb => hc9.block b (hm6e.lt b hb) (by simp; have := hl6 b hb; have := hB3.lt; omega)
  have hm10f : Mine F10 w9 r10 s.owner := hm10e.keep fun b hb => hc9.block b (hm10e.lt b hb) (by simp; have := hl10 b hb; have := hB5.lt; omega)
  have hm14f : Mine F14 w9 r14 s.stacks := hm14.keep fun b hb => hc9.block b (hm14.lt b hb) (by simp; have := hl14 b hb; have := hB7.lt; omega)
  have hnd : (F6 ++ (F10 ++ F14)).Nodup := by
    refine nodup_far (m := w5.heap.size) hm6.nodup (nodup_far (m := w7.heap.size) hm10.nodup hm14.nodup hm10'.lt hl14) hm6'.lt fun b hb => ?_
    rcases List.mem_append.1 hb with hb | hb
    · exact hl10 b hb
    · have := hl14 b hb; have := hx6.size; have := hc7.size; omega
  have hms := mine_state hm6f hm10f hm14f hnd
  obtain ⟨⟨cs, hr, hv⟩, _, hwr⟩ := hms
  have hcs : cs = [r6, r10, r14] := by
    have := mkv_cells hr
    rw [← hv] at this
    simpa [Value.cells] using this.symm
  subst hcs
  refine rd_loadE ty42 hr hB9.range ?_
  have hB29 : Blk w1.heap.size 42 w9 _ := ((((((hB2.ext hx3).ext hx4).chg hc5 (by simp; omega)).ext hx6).chg hc7 (by simp; omega)).ext hx8).chg hc9 (by simp; omega)
  refine opu_blk (α := DState) ty42 hB29 hr rfl (by simp [Rep.size]) fun w10 hc10 hB10 => ?_
  have hx010 : Ext w w10 := (hx1.trans hx19).chg_trans hc10 (by simp; exact hx1.size)
  have hlo : ∀ b ∈ F6 ++ (F10 ++ F14), w3.heap.size ≤ b := by
    intro b hb
    rcases List.mem_append.1 hb with hb | hb
    · exact hl6 b hb
    · rcases List.mem_append.1 hb with hb | hb
      · have := hl10 b hb; have := hx4.size; have := hc5.size; omega
      · have := hl14 b hb; have := hx4.size; have := hc5.size; have := hx6.size; have := hc7.size; omega
  have hkeep : ∀ b ∈ F6 ++ (F10 ++ F14), w10.heap[b]? = w9.heap[b]? := fun b hb => hc10.block b (hwr.lt b hb) (by simp; have := hlo b hb; have := hx3.size; omega)
  refine rd_loadRE ty42 (Rep.keep hr hkeep) hB10.range ?_
  exact ⟨hx010, _, ⟨⟨_, Rep.keep hr hkeep, rfl⟩, hnd, hwr.keep hkeep⟩, fun b hb => Nat.le_trans hx03.size (hlo b hb)⟩
end Go.Proofs.Ytokppocbfpjngaa
