/-
  Lines: what is told of a round.
-/
import Derived.Test.YtokppocbfpjngaaState
import Derived.Test.YtokppocbfpjngaaBytes
namespace Go.Proofs.Ytokppocbfpjngaa
open Go Go.Sh Go.Proofs
set_option linter.unusedVariables false
set_option linter.unusedSimpArgs false

theorem name_size {s : ByteArray} (h : nameB s = true) : s.size ≤ 12 := by
  rcases Nat.lt_or_ge 12 s.size with h' | h'
  · simp [nameB, word_long h'] at h
  · exact h'
theorem NamesR.lock_size {c : DCode} (h : NamesR c) {i : Nat} (hi : i < c.locks.length) : c.locks[i].size ≤ 12 := by
  have h1 := h.2.1
  simp only [Bool.and_eq_true, List.all_eq_true] at h1
  exact name_size (h1.2 _ (List.getElem_mem hi))
theorem NamesR.global_size {c : DCode} (h : NamesR c) {i : Nat} (hi : i < c.globals.length) : c.globals[i].size ≤ 12 := by
  have h1 := h.1
  simp only [Bool.and_eq_true, List.all_eq_true] at h1
  exact name_size (h1.2 _ (List.getElem_mem hi))
theorem getD_get {α : Type} {l : List α} {i : Nat} {d : α} (h : i < l.length) : l.getD i d = l[i] := by rw [List.getD_eq_getElem?_getD, List.getElem?_eq_getElem h]; rfl
def roundS : ByteArray := ByteArray.mk #[114, 111, 117, 110, 100]
def blankS : ByteArray := ByteArray.mk #[32]
def lineS : ByteArray := ByteArray.mk #[10]
/-- the first k locks of a round -/
def lineTo (c : DCode) (part : List Int) : Nat → ByteArray
  | 0 => roundS
  | k + 1 => lineTo c part k ++ (blankS ++ c.locks.getD (part.getD k 0).toNat ByteArray.empty)
def partR (c : DCode) (part : List Int) : Prop := CodeR c ∧ part ≠ [] ∧ part.length ≤ 6 ∧ ∀ i ∈ part, 0 ≤ i ∧ i < c.locks.length
instance (c : DCode) (part : List Int) : Decidable (partR c part) := by unfold partR; infer_instance
def roundLine (c : DCode) (part : List Int) : ByteArray := if partR c part then lineTo c part part.length ++ lineS else ByteArray.mk #[]
theorem blank_size : (ByteArray.mk #[32]).size = 1 := rfl
theorem line_size : (ByteArray.mk #[10]).size = 1 := rfl
/-- impl.RoundLine -/
def F18 (a0 a1 : Value) (w : World) (R : Value → World → Prop) : Prop :=
  OP Try.prog (Instr.box 31 a0) w fun x2 w =>
  RD Try.prog (Builtin.len_ #[23] 3 [a1].toArray) w fun x9 =>
  RD Try.prog (bin .eql 3 (.tmp 0) (.const undef) x9 (Value.int .i64 0)) w fun x10 =>
  BR x10
  (R (Value.string (ByteArray.mk #[])) w)
  (RD Try.prog (Builtin.len_ #[23] 3 [a1].toArray) w fun x13 =>
  RD Try.prog (bin .gtr 3 (.tmp 0) (.const undef) x13 (Value.int .i64 6)) w fun x14 =>
  BR x14
  (R (Value.string (ByteArray.mk #[])) w)
  (RD Try.prog (Instr.loadAt 31 x2) w fun x17 =>
  CALL Try.prog 59 [x17] w fun x18 w =>
  RD Try.prog (Op.unary .not x18) w fun x19 =>
  BR x19
   (R (Value.string (ByteArray.mk #[])) w)
   (RD Try.prog (Builtin.len_ #[23] 3 [a1].toArray) w fun x22 =>
   LOOPI [5, 23] [(Value.string (ByteArray.mk #[114, 111, 117, 110, 100])), (Value.int .i64 0)] w fun u5 w next5 =>
    RD Try.prog (bin .lss 3 (.tmp 0) (.tmp 0) (u5 23) x22) w fun x24 =>
    BR x24
     (RD Try.prog (Instr.indexAt 23 a1 (u5 23)) w fun x25 =>
     RD Try.prog (Instr.loadAt 3 x25) w fun x26 =>
     RD Try.prog (bin .lss 3 (.tmp 0) (.const undef) x26 (Value.int .i64 0)) w fun x28 =>
     BR x28
     (R (Value.string (ByteArray.mk #[])) w)
     (RD Try.prog (Instr.fieldAt 31 x2 1) w fun x31 =>
     RD Try.prog (Instr.loadAt 22 x31) w fun x32 =>
     RD Try.prog (Builtin.len_ #[22] 3 [x32].toArray) w fun x33 =>
     RD Try.prog (bin .geq 3 (.tmp 0) (.tmp 0) x26 x33) w fun x34 =>
     BR x34
      (R (Value.string (ByteArray.mk #[])) w)
      (RD Try.prog (Instr.fieldAt 31 x2 1) w fun x37 =>
      RD Try.prog (Instr.loadAt 22 x37) w fun x38 =>
      RD Try.prog (Instr.indexAt 22 x38 x26) w fun x40 =>
      RD Try.prog (Instr.loadAt 9 x40) w fun x41 =>
      RD Try.prog (bin .add 9 (.const undef) (.tmp 0) (Value.string (ByteArray.mk #[32])) x41) w fun x42 =>
      RD Try.prog (bin .add 9 (.tmp 0) (.tmp 0) (u5 5) x42) w fun x43 =>
      RD Try.prog (bin .add 3 (.tmp 0) (.const undef) (u5 23) (Value.int .i64 1)) w fun x44 =>
      next5 [x43, x44] w)))
     (RD Try.prog (bin .add 9 (.tmp 0) (.const undef) (u5 5) (Value.string (ByteArray.mk #[10]))) w fun x46 =>
     R x46 w))))
def cfg18 : Cfg := { ext := extL, joins := [], loops := [(5, 35184363700400, [5, 23])], draws := [], pars := [] }
theorem F18_eq (a0 a1 : Value) (w : World) (R : Value → World → Prop) : vcF Try.prog cfg18 Try.f18 [a0, a1] w R = F18 a0 a1 w R := by kernel_rfl
theorem F18_call {a0 a1 : Value} {w : World} {R : Value → World → Prop} (h : F18 a0 a1 w R) : CALL Try.prog 18 [a0, a1] w R :=
  call_of (g := cfg18) ent mixed Try.func18 (Nat.le_of_ble_eq_true (by kernel_rfl)) (by kernel_rfl) (F18_eq a0 a1 w R ▸ h)


theorem implRoundLine_ok {w : World} {v0 : Value} {W0 : World} {c : DCode} {v1 : Value} {W1 : World} {part : (List Int)}  (h0 : Is W0 v0 c) (e0 : Ext W0 w) (h1 : Is W1 v1 part) (e1 : Ext W1 w)  :
    CALL Try.prog 18 [v0, v1] w fun r w' => Ext w w' ∧ (r = .string (roundLine c part)) := by
  refine F18_call ?_
  unfold F18
  refine op_boxS ty31 rfl h0 e0 fun w1_ hx1_ hA2 hV2 => ?_
  have hln9 := is_len h1
  refine rd_len u23 h1 ?_
  refine rd_eql ?_
  refine br (fun c1 => ?_) (fun c1 => ?_)
  · refine ⟨hx1_, ?_⟩
    have : ¬ partR c part := fun h => h.2.1 (List.eq_nil_of_length_eq_zero (by omega))
    rw [roundLine, if_neg this]
  · have hln13 := is_len h1
    refine rd_len u23 h1 ?_
    refine rd_gtr ?_
    refine br (fun c2 => ?_) (fun c2 => ?_)
    · refine ⟨hx1_, ?_⟩
      have : ¬ partR c part := fun h => by have := h.2.2.1; omega
      rw [roundLine, if_neg this]
    · refine rd_var hV2 (Ext.refl w1_) ?_
      refine (implCodeOk_ok h0 (e0.trans hx1_)).mono ?_
      rintro _ w2_ ⟨hx2_, rfl⟩
      refine rd_nodec ?_
      refine br (fun c3 => ?_) (fun c3 => ?_)
      · refine ⟨(hx1_.trans hx2_), ?_⟩
        have : ¬ partR c part := fun h => c3 h.1
        rw [roundLine, if_neg this]
      · have hln22 := is_len h1
        refine rd_len u23 h1 ?_
        refine loopC (part.length) (fun k us w' => us = [.string (lineTo c part k), .int .i64 (k : Int)] ∧ Ext w2_ w' ∧ ((lineTo c part k).size ≤ 5 + 13 * k ∧ ∀ i ∈ part.take k, 0 ≤ i ∧ i < c.locks.length)) (0) (by omega) ⟨rfl, Ext.refl w2_, by rw [lineTo]; decide, by simp⟩ ?_
        rintro k m5 uu5 w3_ hk5 ⟨hu, hx3_, hsz, hall⟩
        simp only [List.map_cons, List.map_nil, List.cons.injEq, and_true] at hu
        obtain ⟨hu0, hu1⟩ := hu
        try rw [hu0]
        try rw [hu1]
        try clear hu0 hu1
        refine rd_lss ?_
        refine br (fun c4 => ?_) (fun c4 => ?_)
        · refine rd_indexN u23 ty3 h1 (by omega) fun b25 o25 h25 => ?_
          refine rd_loadI ty3 h25 (e1.trans (hx1_.trans (hx2_.trans hx3_))) fun hI26 => ?_
          have hpk : part[k]'(by omega) = part.getD k 0 := by rw [List.getD_eq_getElem?_getD, List.getElem?_eq_getElem (by omega)]; rfl
          rw [hpk] at hI26 ⊢
          refine rd_lss ?_
          refine br (fun c5 => ?_) (fun c5 => ?_)
          · refine ⟨(hx1_.trans (hx2_.trans hx3_)), ?_⟩
            have : ¬ partR c part := fun h => by have := h.2.2.2 _ (List.getElem_mem (n := k) (by omega)); rw [hpk] at this; omega
            rw [roundLine, if_neg this]
          · refine rd_fld fd31_1 ?_
            refine rd_load ty22 (at_DCode_1 hA2) (hx2_.trans hx3_) fun v32 h32 => ?_
            have hln33 := is_len h32
            refine rd_len u22 h32 ?_
            refine rd_geq ?_
            refine br (fun c6 => ?_) (fun c6 => ?_)
            · refine ⟨(hx1_.trans (hx2_.trans hx3_)), ?_⟩
              have : ¬ partR c part := fun h => by have := h.2.2.2 _ (List.getElem_mem (n := k) (by omega)); rw [hpk] at this; omega
              rw [roundLine, if_neg this]
            · refine rd_fld fd31_1 ?_
              refine rd_load ty22 (at_DCode_1 hA2) (hx2_.trans hx3_) fun v38 h38 => ?_
              refine rd_index u22 ty9 h38 (by omega) (by omega) fun b40 o40 h40 => ?_
              refine rd_loadS ty9 h40 (hx2_.trans hx3_) fun hS41 => ?_
              have hls := (Decidable.not_not.1 c3).1.lock_size (i := (part.getD k 0).toNat) (by omega)
              have hgd : c.locks[(part.getD k 0).toNat]'(by omega) = c.locks.getD (part.getD k 0).toNat ByteArray.empty := (getD_get (by omega)).symm
              rw [hgd] at hls ⊢
              refine rd_addS (by rw [blank_size]; omega) ?_
              refine rd_addS (by rw [ByteArray.size_append, blank_size]; omega) ?_
              refine rd_inc (by omega) ?_
              refine ⟨m5 - 1, by omega, k + 1, by omega, by rw [lineTo]; rfl, hx3_, ?_⟩
              refine ⟨by rw [lineTo, ByteArray.size_append, ByteArray.size_append]; have : blankS.size = 1 := rfl; omega, ?_⟩
              exact mem_succ (by omega) hall (by rw [hpk]; omega)
        · refine rd_addS (by rw [line_size]; omega) ?_
          refine ⟨(hx1_.trans (hx2_.trans hx3_)), ?_⟩
          have : partR c part := ⟨Decidable.not_not.1 c3, fun e => c1 (by rw [e]; rfl), by omega, mem_all (by omega) hall⟩
          rw [roundLine, if_pos this, show k = part.length by omega]; rfl

/-- spec.RoundLine -/
def F15 (a0 a1 : Value) (w : World) (R : Value → World → Prop) : Prop :=
  OP Try.prog (Instr.box 31 a0) w fun x2 w =>
  RD Try.prog (Instr.loadAt 31 x2) w fun x7 =>
  CALL Try.prog 55 [x7] w fun x8 w =>
  RD Try.prog (Op.unary .not x8) w fun x9 =>
  BR x9
  (R (Value.string (ByteArray.mk #[])) w)
  (RD Try.prog (Builtin.len_ #[23] 3 [a1].toArray) w fun x12 =>
  RD Try.prog (bin .eql 3 (.tmp 0) (.const undef) x12 (Value.int .i64 0)) w fun x13 =>
  BR x13
  (R (Value.string (ByteArray.mk #[])) w)
  (RD Try.prog (Builtin.len_ #[23] 3 [a1].toArray) w fun x17 =>
  RD Try.prog (bin .gtr 3 (.tmp 0) (.const undef) x17 (Value.int .i64 6)) w fun x18 =>
  BR x18
   (R (Value.string (ByteArray.mk #[])) w)
   (LOOPI [5, 6] [(Value.string (ByteArray.mk #[114, 111, 117, 110, 100])), (Value.int .i64 0)] w fun u5 w next5 =>
    RD Try.prog (Builtin.len_ #[23] 3 [a1].toArray) w fun x22 =>
    RD Try.prog (bin .lss 3 (.tmp 0) (.tmp 0) (u5 6) x22) w fun x23 =>
    BR x23
     ((fun w => RD Try.prog (Instr.indexAt 23 a1 (u5 6)) w fun x28 =>
     RD Try.prog (Instr.loadAt 3 x28) w fun x29 =>
     RD Try.prog (Instr.fieldAt 31 x2 1) w fun x30 =>
     RD Try.prog (Instr.loadAt 22 x30) w fun x31 =>
     RD Try.prog (Builtin.len_ #[22] 3 [x31].toArray) w fun x32 =>
     RD Try.prog (bin .sub 3 (.tmp 0) (.const undef) x32 (Value.int .i64 1)) w fun x33 =>
     CALL Try.prog 56 [x29, (Value.int .i64 0), x33] w fun x34 w =>
     RD Try.prog (Op.unary .not x34) w fun x35 =>
     BR x35
      (R (Value.string (ByteArray.mk #[])) w)
      ((fun w => RD Try.prog (bin .add 9 (.tmp 0) (.const undef) (u5 5) (Value.string (ByteArray.mk #[32]))) w fun x37 =>
      RD Try.prog (Instr.fieldAt 31 x2 1) w fun x38 =>
      RD Try.prog (Instr.loadAt 22 x38) w fun x39 =>
      RD Try.prog (Instr.indexAt 23 a1 (u5 6)) w fun x42 =>
      RD Try.prog (Instr.loadAt 3 x42) w fun x43 =>
      RD Try.prog (Instr.indexAt 22 x39 x43) w fun x44 =>
      RD Try.prog (Instr.loadAt 9 x44) w fun x45 =>
      RD Try.prog (bin .add 9 (.tmp 0) (.tmp 0) x37 x45) w fun x46 =>
      RD Try.prog (bin .add 3 (.tmp 0) (.const undef) (u5 6) (Value.int .i64 1)) w fun x25 =>
      next5 [x46, x25] w) (World.drew1 w))) (World.drew1 w))
     (RD Try.prog (bin .add 9 (.tmp 0) (.const undef) (u5 5) (Value.string (ByteArray.mk #[10]))) w fun x48 =>
     R x48 w))))
def cfg15 : Cfg := { ext := extL, joins := [], loops := [(5, 140737487306864, [5, 6])], draws := [(7, [0, 1, 2, 3, 4, 5, 6, 7, 8, 9], 0), (9, [0, 1, 2, 3, 4, 5, 6, 7, 8, 9, 10, 11], 0)], pars := [] }
theorem F15_eq (a0 a1 : Value) (w : World) (R : Value → World → Prop) : vcF Try.prog cfg15 Try.f15 [a0, a1] w R = F15 a0 a1 w R := by kernel_rfl
theorem F15_call {a0 a1 : Value} {w : World} {R : Value → World → Prop} (h : F15 a0 a1 w R) : CALL Try.prog 15 [a0, a1] w R :=
  call_of (g := cfg15) ent mixed Try.func15 (Nat.le_of_ble_eq_true (by kernel_rfl)) (by kernel_rfl) (F15_eq a0 a1 w R ▸ h)


theorem specRoundLine_ok {w : World} {v0 : Value} {W0 : World} {c : DCode} {v1 : Value} {W1 : World} {part : (List Int)}  (h0 : Is W0 v0 c) (e0 : Ext W0 w) (h1 : Is W1 v1 part) (e1 : Ext W1 w)  :
    CALL Try.prog 15 [v0, v1] w fun r w' => Ext w w' ∧ (r = .string (roundLine c part)) := by
  refine F15_call ?_
  unfold F15
  have hplen := is_len h1
  refine op_boxS ty31 rfl h0 e0 fun w1_ hx1_ hA2 hV2 => ?_
  refine rd_var hV2 (Ext.refl w1_) ?_
  refine (specCodeOk_ok h0 (e0.trans hx1_)).mono ?_
  rintro _ w2_ ⟨hx2_, rfl⟩
  refine rd_nodec ?_
  refine br (fun c1 => ?_) (fun c1 => ?_)
  · refine ⟨(hx1_.trans hx2_), ?_⟩
    have : ¬ partR c part := fun h => c1 h.1
    rw [roundLine, if_neg this]
  · have hln12 := is_len h1
    refine rd_len u23 h1 ?_
    refine rd_eql ?_
    refine br (fun c2 => ?_) (fun c2 => ?_)
    · refine ⟨(hx1_.trans hx2_), ?_⟩
      have : ¬ partR c part := fun h => h.2.1 (List.eq_nil_of_length_eq_zero (by omega))
      rw [roundLine, if_neg this]
    · have hln17 := is_len h1
      refine rd_len u23 h1 ?_
      refine rd_gtr ?_
      refine br (fun c3 => ?_) (fun c3 => ?_)
      · refine ⟨(hx1_.trans hx2_), ?_⟩
        have : ¬ partR c part := fun h => by have := h.2.2.1; omega
        rw [roundLine, if_neg this]
      · refine loopC (part.length) (fun k us w' => us = [.string (lineTo c part k), .int .i64 (k : Int)] ∧ Ext w2_ w' ∧ ((lineTo c part k).size ≤ 5 + 13 * k ∧ ∀ i ∈ part.take k, 0 ≤ i ∧ i < c.locks.length)) (0) (by omega) ⟨rfl, Ext.refl w2_, by rw [lineTo]; decide, by simp⟩ ?_
        rintro k m5 uu5 w3_ hk5 ⟨hu, hx3_, hsz, hall⟩
        simp only [List.map_cons, List.map_nil, List.cons.injEq, and_true] at hu
        obtain ⟨hu0, hu1⟩ := hu
        try rw [hu0]
        try rw [hu1]
        try clear hu0 hu1
        have hln22 := is_len h1
        refine rd_len u23 h1 ?_
        refine rd_lss ?_
        refine br (fun c4 => ?_) (fun c4 => ?_)
        · have hx4_ := ext_drew w3_
          refine rd_indexN u23 ty3 h1 (by omega) fun b28 o28 h28 => ?_
          refine rd_loadI ty3 h28 (e1.trans (hx1_.trans (hx2_.trans (hx3_.trans hx4_)))) fun hI29 => ?_
          have hpk : part[k]'(by omega) = part.getD k 0 := (getD_get (by omega)).symm
          rw [hpk] at hI29 ⊢
          refine rd_fld fd31_1 ?_
          refine rd_load ty22 (at_DCode_1 hA2) (hx2_.trans (hx3_.trans hx4_)) fun v31 h31 => ?_
          have hln32 := is_len h31
          refine rd_len u22 h31 ?_
          refine rd_sub (by unfold I64; have := is_len h31; omega) ?_
          refine (l01In_ok ).mono ?_
          rintro _ w5_ ⟨hx5_, rfl⟩
          refine rd_nodec ?_
          refine br (fun c5 => ?_) (fun c5 => ?_)
          · refine ⟨(hx1_.trans (hx2_.trans (hx3_.trans (hx4_.trans hx5_)))), ?_⟩
            have : ¬ partR c part := fun h => by have := h.2.2.2 _ (List.getElem_mem (n := k) (by omega)); rw [hpk] at this; omega
            rw [roundLine, if_neg this]
          · have hx6_ := ext_drew w5_
            refine rd_addS (by rw [blank_size]; omega) ?_
            refine rd_fld fd31_1 ?_
            refine rd_load ty22 (at_DCode_1 hA2) (hx2_.trans (hx3_.trans (hx4_.trans (hx5_.trans hx6_)))) fun v39 h39 => ?_
            refine rd_indexN u23 ty3 h1 (by omega) fun b42 o42 h42 => ?_
            refine rd_loadI ty3 h42 (e1.trans (hx1_.trans (hx2_.trans (hx3_.trans (hx4_.trans (hx5_.trans hx6_)))))) fun hI43 => ?_
            rw [hpk] at hI43 ⊢
            refine rd_index u22 ty9 h39 (by omega) (by omega) fun b44 o44 h44 => ?_
            refine rd_loadS ty9 h44 (hx2_.trans (hx3_.trans (hx4_.trans (hx5_.trans hx6_)))) fun hS45 => ?_
            have hls := (Decidable.not_not.1 c1).1.lock_size (i := (part.getD k 0).toNat) (by omega)
            have hgd : c.locks[(part.getD k 0).toNat]'(by omega) = c.locks.getD (part.getD k 0).toNat ByteArray.empty := (getD_get (by omega)).symm
            rw [hgd] at hls ⊢
            refine rd_addS (by rw [ByteArray.size_append, blank_size]; omega) ?_
            refine rd_inc (by omega) ?_
            refine ⟨m5 - 1, by omega, k + 1, by omega, by rw [lineTo, ← ByteArray.append_assoc]; rfl, (hx3_.trans (hx4_.trans (hx5_.trans hx6_))), ?_⟩
            refine ⟨by rw [lineTo, ByteArray.size_append, ByteArray.size_append]; have : blankS.size = 1 := rfl; omega, ?_⟩
            exact mem_succ (by omega) hall (by rw [hpk]; omega)
        · refine rd_addS (by rw [line_size]; omega) ?_
          refine ⟨(hx1_.trans (hx2_.trans hx3_)), ?_⟩
          have : partR c part := ⟨Decidable.not_not.1 c1, fun e => c2 (by rw [e]; rfl), by omega, mem_all (by omega) hall⟩
          rw [roundLine, if_pos this, show k = part.length by omega]; rfl

end Go.Proofs.Ytokppocbfpjngaa
