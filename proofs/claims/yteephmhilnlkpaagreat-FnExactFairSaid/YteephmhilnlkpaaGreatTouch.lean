/-
  Touches: what a place reads and writes.
-/
import Derived.Test.YteephmhilnlkpaaGreatState
import Derived.Test.YteephmhilnlkpaaGreatMake
namespace Go.Proofs.YteephmhilnlkpaaGreat
open Go Go.Sh Go.Proofs
set_option linter.unusedVariables false
set_option linter.unusedSimpArgs false

theorem own_touch {lo hi : Nat} {w : World} {x : DTouch} (h1 : I64 x.at_) (h2 : I64 x.global) (h3 : I64 x.held) : OwnI lo hi w (.agg #[.int .i64 x.at_, .int .i64 x.global, .bool x.write, .int .i64 x.held]) x :=
  ⟨[], mk_DTouch h1 h2 h3, by simp⟩
/-- what a place reads and writes, of the first k globals -/
def touchTo (c : DCode) (a : Int) (held : Int) (i : DIns) : Nat → List DTouch
  | 0 => []
  | k + 1 => touchTo c a held i k ++ (if c.globals.getD k ByteArray.empty ∈ readsOf i.term then [⟨a, k, false, held⟩] else []) ++ (if i.op = 1 ∧ i.arg = k then [⟨a, k, true, held⟩] else [])
def touchAt (c : DCode) (a : Int) (held : Int) : List DTouch :=
  if (insAt c a.toNat).op = 1 ∨ (insAt c a.toNat).op = 2 then touchTo c a held (insAt c a.toNat) c.globals.length else []
theorem touchTo_len (c : DCode) (a held : Int) (i : DIns) : ∀ k, (touchTo c a held i k).length ≤ 2 * k
  | 0 => by simp [touchTo]
  | k + 1 => by
    have := touchTo_len c a held i k
    rw [touchTo, List.length_append, List.length_append]
    split <;> split <;> simp <;> omega
theorem touchAt_len (c : DCode) (a held : Int) : (touchAt c a held).length ≤ 2 * c.globals.length := by
  unfold touchAt
  split
  · exact touchTo_len _ _ _ _ _
  · simp
/-- impl.touchesIn -/
def F173 (a0 a1 a2 : Value) (w : World) (R : Value → World → Prop) : Prop :=
  OP Tryz.prog (Instr.box 37 a0) w fun x3 w =>
  RD Tryz.prog (Instr.fieldAt 37 x3 4) w fun x12 =>
  RD Tryz.prog (Instr.loadAt 35 x12) w fun x13 =>
  RD Tryz.prog (Instr.indexAt 35 x13 a1) w fun x15 =>
  RD Tryz.prog (Instr.loadAt 135 x15) w fun x16 =>
  OP Tryz.prog (Instr.alloc 135 true (.tuple #[])) w fun x7 w =>
  OPU Tryz.prog (Instr.storeAt 135 x7 x16) w fun w =>
  JOIN [] (fun J4 =>
   RD Tryz.prog (Instr.fieldAt 135 x7 0) w fun x17 =>
   RD Tryz.prog (Instr.loadAt 3 x17) w fun x18 =>
   RD Tryz.prog (bin .neq 3 (.tmp 0) (.const undef) x18 (Value.int .i64 1)) w fun x19 =>
   BR x19
   (RD Tryz.prog (Instr.fieldAt 135 x7 0) w fun x21 =>
   RD Tryz.prog (Instr.loadAt 3 x21) w fun x22 =>
   RD Tryz.prog (bin .neq 3 (.tmp 0) (.const undef) x22 (Value.int .i64 2)) w fun x23 =>
   BR x23
    (R (Value.slice none 0 0) w)
    (J4 [] w))
   (J4 [] w)) (fun u4 w =>
   RD Tryz.prog (Instr.fieldAt 135 x7 2) w fun x25 =>
   RD Tryz.prog (Instr.loadAt 133 x25) w fun x26 =>
   CALL Tryz.prog 211 [x26] w fun x27 w =>
   RD Tryz.prog (Instr.fieldAt 37 x3 0) w fun x28 =>
   RD Tryz.prog (Instr.loadAt 22 x28) w fun x29 =>
   RD Tryz.prog (Builtin.len_ #[22] 3 [x29].toArray) w fun x30 =>
   LOOPI [9, 31] [(Value.slice none 0 0), (Value.int .i64 0)] w fun u7 w next7 =>
    RD Tryz.prog (bin .lss 3 (.tmp 0) (.tmp 0) (u7 31) x30) w fun x32 =>
    BR x32
     (RD Tryz.prog (Instr.indexAt 22 x29 (u7 31)) w fun x34 =>
     RD Tryz.prog (Instr.loadAt 9 x34) w fun x35 =>
     JOIN [9] (fun J11 =>
      CALL Tryz.prog 208 [x27, x35] w fun x38 w =>
      BR x38
       (RD Tryz.prog (Instr.build 171 #[(0, a1), (1, (u7 31)), (3, a2)]) w fun x43 =>
       OP Tryz.prog (Instr.buildSlice 168 1 #[(0, x43)]) w fun x44 w =>
       OP Tryz.prog (Builtin.append_ #[168, 168] 168 [(u7 9), x44].toArray) w fun x45 w =>
       J11 [x45] w)
       (J11 [(u7 9)] w)) (fun u11 w =>
      RD Tryz.prog (Instr.fieldAt 135 x7 0) w fun x46 =>
      RD Tryz.prog (Instr.loadAt 3 x46) w fun x47 =>
      RD Tryz.prog (bin .eql 3 (.tmp 0) (.const undef) x47 (Value.int .i64 1)) w fun x48 =>
      BR x48
      (RD Tryz.prog (Instr.fieldAt 135 x7 1) w fun x50 =>
      RD Tryz.prog (Instr.loadAt 3 x50) w fun x51 =>
      RD Tryz.prog (bin .eql 3 (.tmp 0) (.tmp 0) x51 (u7 31)) w fun x53 =>
      BR x53
       (RD Tryz.prog (Instr.build 171 #[(0, a1), (1, (u7 31)), (2, (Value.bool true)), (3, a2)]) w fun x59 =>
       OP Tryz.prog (Instr.buildSlice 168 1 #[(0, x59)]) w fun x60 w =>
       OP Tryz.prog (Builtin.append_ #[168, 168] 168 [(u11 9), x60].toArray) w fun x61 w =>
       RD Tryz.prog (bin .add 3 (.tmp 0) (.const undef) (u7 31) (Value.int .i64 1)) w fun x62 =>
       next7 [x61, x62] w)
       (RD Tryz.prog (bin .add 3 (.tmp 0) (.const undef) (u7 31) (Value.int .i64 1)) w fun x62 =>
       next7 [(u11 9), x62] w))
      (RD Tryz.prog (bin .add 3 (.tmp 0) (.const undef) (u7 31) (Value.int .i64 1)) w fun x62 =>
       next7 [(u11 9), x62] w)))
     (R (u7 9) w))
def cfg173 : Cfg := { ext := extL, joins := [(4, 33423424, []), (11, 70300024701440, [9])], loops := [(7, 9223372034707295744, [9, 31])], draws := [], pars := [] }
theorem F173_eq (a0 a1 a2 : Value) (w : World) (R : Value → World → Prop) : vcF Tryz.prog cfg173 Tryz.f173 [a0, a1, a2] w R = F173 a0 a1 a2 w R := by kernel_rfl
theorem F173_call {a0 a1 a2 : Value} {w : World} {R : Value → World → Prop} (h : F173 a0 a1 a2 w R) : CALL Tryz.prog 173 [a0, a1, a2] w R :=
  call_of (g := cfg173) ent mixed Tryz.func173 (Nat.le_of_ble_eq_true (by kernel_rfl)) (by kernel_rfl) (F173_eq a0 a1 a2 w R ▸ h)


theorem touchesIn_ok {w : World} {v0 : Value} {W0 : World} {c : DCode} {a : Int} {held : Int}  (h0 : Is W0 v0 c) (e0 : Ext W0 w) (hc : CodeR c) (ha : 0 ≤ a) (ha2 : a < c.ins.length) (hh : I64 held) :
    CALL Tryz.prog 173 [v0, .int .i64 a, .int .i64 held] w fun r w' => Ext w w' ∧ (Own w.heap.size w' r (touchAt c a held)) := by
  refine F173_call ?_
  unfold F173
  have hil := hc.f.ins
  have hg6 : c.globals.length ≤ 6 := by have h1 := hc.1.1; simp only [Bool.and_eq_true, decide_eq_true_eq] at h1; omega
  have hs_e0 := e0.size
  refine op_boxS ty37 rfl h0 e0 fun w1_ hx1_ hA3 hV3 => ?_
  have hs_hx1_ := hx1_.size
  refine rd_fld fd37_4 ?_
  refine rd_load ty35 (at_DCode_4 hA3) (Ext.refl w1_) fun v13 h13 => ?_
  refine rd_index u35 ty135 h13 (by omega) (by omega) fun b15 o15 h15 => ?_
  rw [insAt_get] at h15
  obtain ⟨i, hi⟩ : ∃ i, i = insAt c a.toNat := ⟨_, rfl⟩
  rw [← hi] at h15
  refine rd_load ty135 h15 (Ext.refl w1_) fun v16 h16 => ?_
  refine op_var zl135 rfl ty135 rfl h16 (Ext.refl w1_) fun w2_ hx2_ hA7 hV7 => ?_
  have hs_hx2_ := hx2_.size
  have hg7 := hV7.lt
  refine JOIN.mk (fun us w' => us = [] ∧ Ext w2_ w' ∧ (i.op = 1 ∨ i.op = 2)) ?_ ?_
  · refine rd_fld fd135_0 ?_
    refine rd_loadI ty3 (at_DIns_0 hA7) (Ext.refl w2_) fun hI18 => ?_
    refine rd_neq ?_
    refine br (fun c1 => ?_) (fun c1 => ?_)
    · refine rd_fld fd135_0 ?_
      refine rd_loadI ty3 (at_DIns_0 hA7) (Ext.refl w2_) fun hI22 => ?_
      refine rd_neq ?_
      refine br (fun c2 => ?_) (fun c2 => ?_)
      · refine ⟨(hx1_.trans hx2_), ?_⟩
        unfold touchAt
        rw [← hi, if_neg (by omega)]
        exact own_nil rfl
      · refine ⟨by simp, Ext.refl w2_, ?_⟩
        omega
    · refine ⟨by simp, Ext.refl w2_, ?_⟩
      omega
  · rintro uj4 w3_ ⟨hu, hx3_, hop⟩
    have hs_hx3_ := hx3_.size
    simp only [List.map_cons, List.map_nil, List.cons.injEq, and_true] at hu
    clear hu
    refine rd_fld fd135_2 ?_
    refine rd_load ty133 (at_DIns_2 hA7) hx3_ fun v26 h26 => ?_
    refine (implReadsOf_ok h26 hx3_).mono ?_
    rintro r27 w4_ ⟨hx4_, h27⟩
    have hs_hx4_ := hx4_.size
    refine rd_fld fd37_0 ?_
    refine rd_load ty22 (at_DCode_0 hA3) (hx2_.trans (hx3_.trans hx4_)) fun v29 h29 => ?_
    have hln30 := is_len h29
    refine rd_len u22 h29 ?_
    refine loopC (c.globals.length) (fun k us w' => ∃ v : Value, us = [v, .int .i64 (k : Int)] ∧ Ext w4_ w' ∧ (RowI w4_.heap.size w'.heap.size 171 w' v (touchTo c a held i k))) (0) (by omega) ⟨_, rfl, Ext.refl w4_, rowI_nil _ _ _ _⟩ ?_
    rintro k m7 uu7 w5_ hk7 ⟨v9, hu, hx5_, hrow⟩
    have hs_hx5_ := hx5_.size
    simp only [List.map_cons, List.map_nil, List.cons.injEq, and_true] at hu
    obtain ⟨hu0, hu1⟩ := hu
    try rw [hu0]
    try rw [hu1]
    try clear hu0 hu1
    have hrl := touchTo_len c a held i k
    refine rd_lss ?_
    refine br (fun c3 => ?_) (fun c3 => ?_)
    · refine rd_indexN u22 ty9 h29 (by omega) fun b34 o34 h34 => ?_
      refine rd_loadS ty9 h34 (hx2_.trans (hx3_.trans (hx4_.trans hx5_))) fun hS35 => ?_
      refine JOIN.mk (fun us w' => ∃ v : Value, us = [v] ∧ Ext w4_ w' ∧ (RowI w4_.heap.size w'.heap.size 171 w' v (touchTo c a held i k ++ (if c.globals.getD k ByteArray.empty ∈ readsOf i.term then [⟨a, k, false, held⟩] else [])))) ?_ ?_
      · have hgk : c.globals[k]'(by omega) = c.globals.getD k ByteArray.empty := by rw [List.getD_eq_getElem?_getD, List.getElem?_eq_getElem (by omega)]; rfl
        refine (containsStr_ok h27 hx5_).mono ?_
        rintro _ w7_ ⟨hx7_, rfl⟩
        have hs_hx7_ := hx7_.size
        refine br (fun c4 => ?_) (fun c4 => ?_)
        · refine rd_build (cells := #[.int .i64 a, .int .i64 (k : Int), .bool false, .int .i64 held]) (by kernel_rfl) ?_
          have o43 : OwnI w7_.heap.size w7_.heap.size w7_ (.agg #[.int .i64 a, .int .i64 (k : Int), .bool false, .int .i64 held]) (⟨a, k, false, held⟩ : DTouch) := own_touch (x := ⟨a, k, false, held⟩) (by show I64 a; unfold I64; omega) (by show I64 (k : Int); unfold I64; omega) hh
          refine op_push (α := DTouch) u168 ty171 z171 zc171 (by decide) (hrow.ext hx7_) (by omega) (o43.ext (Ext.refl w7_)) (by omega) (by omega) (by rw [maxLen_eq]; omega) (by omega) fun v45 w8_ hc8_ o45 => ?_
          have hs_hc8_ := hc8_.size
          have o43_c8 := (o43.ext (Ext.refl w7_)).chg hc8_ (by omega)
          refine ⟨_, rfl, (Ext.chgI (hx5_.trans hx7_) hc8_ (by omega)), ?_⟩
          rw [if_pos (by rw [← hgk]; exact c4)]; exact o45
        · refine ⟨_, rfl, (hx5_.trans hx7_), ?_⟩
          rw [if_neg (by rw [← hgk]; exact c4), List.append_nil]; exact (hrow.ext hx7_).mono (by omega) (by omega)
      · rintro uj11 w6_ ⟨v11, hu, hx8_, hrow2⟩
        have hs_hx8_ := hx8_.size
        simp only [List.map_cons, List.map_nil, List.cons.injEq, and_true] at hu
        try rw [hu]
        try clear hu
        refine rd_fld fd135_0 ?_
        refine rd_loadI ty3 (at_DIns_0 hA7) (hx3_.trans (hx4_.trans hx8_)) fun hI47 => ?_
        refine rd_eql ?_
        refine br (fun c5 => ?_) (fun c5 => ?_)
        · refine rd_fld fd135_1 ?_
          refine rd_loadI ty3 (at_DIns_1 hA7) (hx3_.trans (hx4_.trans hx8_)) fun hI51 => ?_
          refine rd_eql ?_
          refine br (fun c6 => ?_) (fun c6 => ?_)
          · refine rd_build (cells := #[.int .i64 a, .int .i64 (k : Int), .bool true, .int .i64 held]) (by kernel_rfl) ?_
            have o59 : OwnI w6_.heap.size w6_.heap.size w6_ (.agg #[.int .i64 a, .int .i64 (k : Int), .bool true, .int .i64 held]) (⟨a, k, true, held⟩ : DTouch) := own_touch (x := ⟨a, k, true, held⟩) (by show I64 a; unfold I64; omega) (by show I64 (k : Int); unfold I64; omega) hh
            refine op_push (α := DTouch) u168 ty171 z171 zc171 (by decide) (hrow2.ext (Ext.refl w6_)) (by omega) (o59.ext (Ext.refl w6_)) (by omega) (by omega) (by rw [maxLen_eq, List.length_append]; split <;> simp <;> omega) (by rw [List.length_append]; split <;> simp <;> omega) fun v61 w9_ hc9_ o61 => ?_
            have hs_hc9_ := hc9_.size
            have o59_c9 := (o59.ext (Ext.refl w6_)).chg hc9_ (by omega)
            refine rd_inc (by omega) ?_
            refine ⟨m7 - 1, by omega, k + 1, by omega, _, rfl, (Ext.chgI hx8_ hc9_ (by omega)), ?_⟩
            rw [touchTo, if_pos (c := i.op = 1 ∧ i.arg = k) ⟨by omega, by omega⟩]; exact o61
          · refine rd_inc (by omega) ?_
            refine ⟨m7 - 1, by omega, k + 1, by omega, _, rfl, hx8_, ?_⟩
            rw [touchTo, if_neg (c := i.op = 1 ∧ i.arg = k) (fun h => c6 h.2), List.append_nil]; exact (hrow2.ext (Ext.refl w6_)).mono (by omega) (by omega)
        · refine rd_inc (by omega) ?_
          refine ⟨m7 - 1, by omega, k + 1, by omega, _, rfl, hx8_, ?_⟩
          rw [touchTo, if_neg (c := i.op = 1 ∧ i.arg = k) (fun h => c5 h.1), List.append_nil]; exact (hrow2.ext (Ext.refl w6_)).mono (by omega) (by omega)
    · refine ⟨(hx1_.trans (hx2_.trans (hx3_.trans (hx4_.trans hx5_)))), ?_⟩
      unfold touchAt
      rw [← hi, if_pos hop, ← show k = c.globals.length by omega]
      exact hrow.own.own.mono (by omega)

/-- spec.l17At -/
def F169 (a0 a1 a2 : Value) (w : World) (R : Value → World → Prop) : Prop :=
  OP Tryz.prog (Instr.box 37 a0) w fun x3 w =>
  OP Tryz.prog (Instr.buildSlice 168 0 #[]) w fun x11 w =>
  RD Tryz.prog (Instr.fieldAt 37 x3 4) w fun x12 =>
  RD Tryz.prog (Instr.loadAt 35 x12) w fun x13 =>
  RD Tryz.prog (Instr.indexAt 35 x13 a1) w fun x15 =>
  RD Tryz.prog (Instr.loadAt 135 x15) w fun x16 =>
  OP Tryz.prog (Instr.alloc 135 true (.tuple #[])) w fun x8 w =>
  OPU Tryz.prog (Instr.storeAt 135 x8 x16) w fun w =>
  JOIN [] (fun J5 =>
   RD Tryz.prog (Instr.fieldAt 135 x8 0) w fun x17 =>
   RD Tryz.prog (Instr.loadAt 3 x17) w fun x18 =>
   RD Tryz.prog (bin .neq 3 (.tmp 0) (.const undef) x18 (Value.int .i64 1)) w fun x19 =>
   BR x19
   (RD Tryz.prog (Instr.fieldAt 135 x8 0) w fun x21 =>
   RD Tryz.prog (Instr.loadAt 3 x21) w fun x22 =>
   RD Tryz.prog (bin .neq 3 (.tmp 0) (.const undef) x22 (Value.int .i64 2)) w fun x23 =>
   BR x23
    (R x11 w)
    (J5 [] w))
   (J5 [] w)) (fun u5 w =>
   RD Tryz.prog (Instr.fieldAt 135 x8 2) w fun x26 =>
   RD Tryz.prog (Instr.loadAt 133 x26) w fun x27 =>
   CALL Tryz.prog 203 [x27] w fun x28 w =>
   LOOPI [7, 10] [x11, (Value.int .i64 0)] w fun u7 w next7 =>
    RD Tryz.prog (Instr.fieldAt 37 x3 0) w fun x30 =>
    RD Tryz.prog (Instr.loadAt 22 x30) w fun x31 =>
    RD Tryz.prog (Builtin.len_ #[22] 3 [x31].toArray) w fun x32 =>
    RD Tryz.prog (bin .lss 3 (.tmp 0) (.tmp 0) (u7 10) x32) w fun x33 =>
    BR x33
     (JOIN [7] (fun J11 =>
      RD Tryz.prog (Instr.fieldAt 37 x3 0) w fun x37 =>
      RD Tryz.prog (Instr.loadAt 22 x37) w fun x38 =>
      RD Tryz.prog (Instr.indexAt 22 x38 (u7 10)) w fun x40 =>
      RD Tryz.prog (Instr.loadAt 9 x40) w fun x41 =>
      CALL Tryz.prog 232 [x28, x41] w fun x42 w =>
      BR x42
       (RD Tryz.prog (Instr.build 171 #[(0, a1), (1, (u7 10)), (3, a2)]) w fun x47 =>
       OP Tryz.prog (Instr.buildSlice 168 1 #[(0, x47)]) w fun x48 w =>
       OP Tryz.prog (Builtin.append_ #[168, 168] 168 [(u7 7), x48].toArray) w fun x49 w =>
       J11 [x49] w)
       (J11 [(u7 7)] w)) (fun u11 w =>
      RD Tryz.prog (Instr.fieldAt 135 x8 0) w fun x50 =>
      RD Tryz.prog (Instr.loadAt 3 x50) w fun x51 =>
      RD Tryz.prog (bin .eql 3 (.tmp 0) (.const undef) x51 (Value.int .i64 1)) w fun x52 =>
      BR x52
      (RD Tryz.prog (Instr.fieldAt 135 x8 1) w fun x54 =>
      RD Tryz.prog (Instr.loadAt 3 x54) w fun x55 =>
      RD Tryz.prog (bin .eql 3 (.tmp 0) (.tmp 0) x55 (u7 10)) w fun x57 =>
      BR x57
       (RD Tryz.prog (Instr.build 171 #[(0, a1), (1, (u7 10)), (2, (Value.bool true)), (3, a2)]) w fun x63 =>
       OP Tryz.prog (Instr.buildSlice 168 1 #[(0, x63)]) w fun x64 w =>
       OP Tryz.prog (Builtin.append_ #[168, 168] 168 [(u11 7), x64].toArray) w fun x65 w =>
       RD Tryz.prog (bin .add 3 (.tmp 0) (.const undef) (u7 10) (Value.int .i64 1)) w fun x35 =>
       next7 [x65, x35] w)
       (RD Tryz.prog (bin .add 3 (.tmp 0) (.const undef) (u7 10) (Value.int .i64 1)) w fun x35 =>
       next7 [(u11 7), x35] w))
      (RD Tryz.prog (bin .add 3 (.tmp 0) (.const undef) (u7 10) (Value.int .i64 1)) w fun x35 =>
       next7 [(u11 7), x35] w)))
     (R (u7 7) w))
def cfg169 : Cfg := { ext := extL, joins := [(5, 66977856, []), (11, 1125831187366016, [7])], loops := [(7, 73786976294301336704, [7, 10])], draws := [], pars := [] }
theorem F169_eq (a0 a1 a2 : Value) (w : World) (R : Value → World → Prop) : vcF Tryz.prog cfg169 Tryz.f169 [a0, a1, a2] w R = F169 a0 a1 a2 w R := by kernel_rfl
theorem F169_call {a0 a1 a2 : Value} {w : World} {R : Value → World → Prop} (h : F169 a0 a1 a2 w R) : CALL Tryz.prog 169 [a0, a1, a2] w R :=
  call_of (g := cfg169) ent mixed Tryz.func169 (Nat.le_of_ble_eq_true (by kernel_rfl)) (by kernel_rfl) (F169_eq a0 a1 a2 w R ▸ h)


theorem l17At_ok {w : World} {v0 : Value} {W0 : World} {c : DCode} {a : Int} {held : Int}  (h0 : Is W0 v0 c) (e0 : Ext W0 w) (hc : CodeR c) (ha : 0 ≤ a) (ha2 : a < c.ins.length) (hh : I64 held) :
    CALL Tryz.prog 169 [v0, .int .i64 a, .int .i64 held] w fun r w' => Ext w w' ∧ (Own w.heap.size w' r (touchAt c a held)) := by
  refine F169_call ?_
  unfold F169
  have hil := hc.f.ins
  have hg6 : c.globals.length ≤ 6 := by have h1 := hc.1.1; simp only [Bool.and_eq_true, decide_eq_true_eq] at h1; omega
  have hs_e0 := e0.size
  refine op_boxS ty37 rfl h0 e0 fun w1_ hx1_ hA3 hV3 => ?_
  have hs_hx1_ := hx1_.size
  refine op_build0I (α := DTouch) u168 ty171 fun v11 w2_ hx2_ o11 => ?_
  have hs_hx2_ := hx2_.size
  refine rd_fld fd37_4 ?_
  refine rd_load ty35 (at_DCode_4 hA3) hx2_ fun v13 h13 => ?_
  refine rd_index u35 ty135 h13 (by omega) (by omega) fun b15 o15 h15 => ?_
  rw [insAt_get] at h15
  obtain ⟨i, hi⟩ : ∃ i, i = insAt c a.toNat := ⟨_, rfl⟩
  rw [← hi] at h15
  refine rd_load ty135 h15 hx2_ fun v16 h16 => ?_
  refine op_var zl135 rfl ty135 rfl h16 hx2_ fun w3_ hx3_ hA8 hV8 => ?_
  have hs_hx3_ := hx3_.size
  have hg8 := hV8.lt
  refine JOIN.mk (fun us w' => us = [] ∧ Ext w3_ w' ∧ (i.op = 1 ∨ i.op = 2)) ?_ ?_
  · refine rd_fld fd135_0 ?_
    refine rd_loadI ty3 (at_DIns_0 hA8) (Ext.refl w3_) fun hI18 => ?_
    refine rd_neq ?_
    refine br (fun c1 => ?_) (fun c1 => ?_)
    · refine rd_fld fd135_0 ?_
      refine rd_loadI ty3 (at_DIns_0 hA8) (Ext.refl w3_) fun hI22 => ?_
      refine rd_neq ?_
      refine br (fun c2 => ?_) (fun c2 => ?_)
      · refine ⟨(hx1_.trans (hx2_.trans hx3_)), ?_⟩
        unfold touchAt
        rw [← hi, if_neg (by omega)]
        exact (o11.ext hx3_).own.own.mono (by omega)
      · refine ⟨by simp, Ext.refl w3_, ?_⟩
        omega
    · refine ⟨by simp, Ext.refl w3_, ?_⟩
      omega
  · rintro uj5 w4_ ⟨hu, hx4_, hop⟩
    have hs_hx4_ := hx4_.size
    simp only [List.map_cons, List.map_nil, List.cons.injEq, and_true] at hu
    clear hu
    refine rd_fld fd135_2 ?_
    refine rd_load ty133 (at_DIns_2 hA8) hx4_ fun v27 h27 => ?_
    refine (specReadsOf_ok h27 hx4_).mono ?_
    rintro r28 w5_ ⟨hx5_, h28⟩
    have hs_hx5_ := hx5_.size
    refine loopC (c.globals.length) (fun k us w' => ∃ v : Value, us = [v, .int .i64 (k : Int)] ∧ Ext w5_ w' ∧ (RowI w5_.heap.size w'.heap.size 171 w' v (touchTo c a held i k))) (0) (by omega) ⟨_, rfl, Ext.refl w5_, rowI_zcap _ _ _ _ _⟩ ?_
    rintro k m7 uu7 w6_ hk7 ⟨v7, hu, hx6_, hrow⟩
    have hs_hx6_ := hx6_.size
    simp only [List.map_cons, List.map_nil, List.cons.injEq, and_true] at hu
    obtain ⟨hu0, hu1⟩ := hu
    try rw [hu0]
    try rw [hu1]
    try clear hu0 hu1
    have hrl := touchTo_len c a held i k
    refine rd_fld fd37_0 ?_
    refine rd_load ty22 (at_DCode_0 hA3) (hx2_.trans (hx3_.trans (hx4_.trans (hx5_.trans hx6_)))) fun v31 h31 => ?_
    have hln32 := is_len h31
    refine rd_len u22 h31 ?_
    refine rd_lss ?_
    refine br (fun c3 => ?_) (fun c3 => ?_)
    · refine JOIN.mk (fun us w' => ∃ v : Value, us = [v] ∧ Ext w5_ w' ∧ (RowI w5_.heap.size w'.heap.size 171 w' v (touchTo c a held i k ++ (if c.globals.getD k ByteArray.empty ∈ readsOf i.term then [⟨a, k, false, held⟩] else [])))) ?_ ?_
      · refine rd_fld fd37_0 ?_
        refine rd_load ty22 (at_DCode_0 hA3) (hx2_.trans (hx3_.trans (hx4_.trans (hx5_.trans hx6_)))) fun v38 h38 => ?_
        refine rd_indexN u22 ty9 h38 (by omega) fun b40 o40 h40 => ?_
        refine rd_loadS ty9 h40 (hx2_.trans (hx3_.trans (hx4_.trans (hx5_.trans hx6_)))) fun hS41 => ?_
        have hgk : c.globals[k]'(by omega) = c.globals.getD k ByteArray.empty := by rw [List.getD_eq_getElem?_getD, List.getElem?_eq_getElem (by omega)]; rfl
        refine (l04Has_ok h28 hx6_).mono ?_
        rintro _ w8_ ⟨hx8_, rfl⟩
        have hs_hx8_ := hx8_.size
        refine br (fun c4 => ?_) (fun c4 => ?_)
        · refine rd_build (cells := #[.int .i64 a, .int .i64 (k : Int), .bool false, .int .i64 held]) (by kernel_rfl) ?_
          have o47 : OwnI w8_.heap.size w8_.heap.size w8_ (.agg #[.int .i64 a, .int .i64 (k : Int), .bool false, .int .i64 held]) (⟨a, k, false, held⟩ : DTouch) := own_touch (x := ⟨a, k, false, held⟩) (by show I64 a; unfold I64; omega) (by show I64 (k : Int); unfold I64; omega) hh
          refine op_push (α := DTouch) u168 ty171 z171 zc171 (by decide) (hrow.ext hx8_) (by omega) (o47.ext (Ext.refl w8_)) (by omega) (by omega) (by rw [maxLen_eq]; omega) (by omega) fun v49 w9_ hc9_ o49 => ?_
          have hs_hc9_ := hc9_.size
          have o11_c9 := (o11.ext (hx3_.trans (hx4_.trans (hx5_.trans (hx6_.trans hx8_))))).chg hc9_ (by omega)
          have o47_c9 := (o47.ext (Ext.refl w8_)).chg hc9_ (by omega)
          refine ⟨_, rfl, (Ext.chgI (hx6_.trans hx8_) hc9_ (by omega)), ?_⟩
          rw [if_pos (by rw [← hgk]; exact c4)]; exact o49
        · refine ⟨_, rfl, (hx6_.trans hx8_), ?_⟩
          rw [if_neg (by rw [← hgk]; exact c4), List.append_nil]; exact (hrow.ext hx8_).mono (by omega) (by omega)
      · rintro uj11 w7_ ⟨v11, hu, hx9_, hrow2⟩
        have hs_hx9_ := hx9_.size
        simp only [List.map_cons, List.map_nil, List.cons.injEq, and_true] at hu
        try rw [hu]
        try clear hu
        refine rd_fld fd135_0 ?_
        refine rd_loadI ty3 (at_DIns_0 hA8) (hx4_.trans (hx5_.trans hx9_)) fun hI51 => ?_
        refine rd_eql ?_
        refine br (fun c5 => ?_) (fun c5 => ?_)
        · refine rd_fld fd135_1 ?_
          refine rd_loadI ty3 (at_DIns_1 hA8) (hx4_.trans (hx5_.trans hx9_)) fun hI55 => ?_
          refine rd_eql ?_
          refine br (fun c6 => ?_) (fun c6 => ?_)
          · refine rd_build (cells := #[.int .i64 a, .int .i64 (k : Int), .bool true, .int .i64 held]) (by kernel_rfl) ?_
            have o63 : OwnI w7_.heap.size w7_.heap.size w7_ (.agg #[.int .i64 a, .int .i64 (k : Int), .bool true, .int .i64 held]) (⟨a, k, true, held⟩ : DTouch) := own_touch (x := ⟨a, k, true, held⟩) (by show I64 a; unfold I64; omega) (by show I64 (k : Int); unfold I64; omega) hh
            refine op_push (α := DTouch) u168 ty171 z171 zc171 (by decide) (hrow2.ext (Ext.refl w7_)) (by omega) (o63.ext (Ext.refl w7_)) (by omega) (by omega) (by rw [maxLen_eq, List.length_append]; split <;> simp <;> omega) (by rw [List.length_append]; split <;> simp <;> omega) fun v65 w10_ hc10_ o65 => ?_
            have hs_hc10_ := hc10_.size
            have o11_c10 := (o11.ext (hx3_.trans (hx4_.trans (hx5_.trans hx9_)))).chg hc10_ (by omega)
            have o63_c10 := (o63.ext (Ext.refl w7_)).chg hc10_ (by omega)
            refine rd_inc (by omega) ?_
            refine ⟨m7 - 1, by omega, k + 1, by omega, _, rfl, (Ext.chgI hx9_ hc10_ (by omega)), ?_⟩
            rw [touchTo, if_pos (c := i.op = 1 ∧ i.arg = k) ⟨by omega, by omega⟩]; exact o65
          · refine rd_inc (by omega) ?_
            refine ⟨m7 - 1, by omega, k + 1, by omega, _, rfl, hx9_, ?_⟩
            rw [touchTo, if_neg (c := i.op = 1 ∧ i.arg = k) (fun h => c6 h.2), List.append_nil]; exact (hrow2.ext (Ext.refl w7_)).mono (by omega) (by omega)
        · refine rd_inc (by omega) ?_
          refine ⟨m7 - 1, by omega, k + 1, by omega, _, rfl, hx9_, ?_⟩
          rw [touchTo, if_neg (c := i.op = 1 ∧ i.arg = k) (fun h => c5 h.1), List.append_nil]; exact (hrow2.ext (Ext.refl w7_)).mono (by omega) (by omega)
    · refine ⟨(hx1_.trans (hx2_.trans (hx3_.trans (hx4_.trans (hx5_.trans hx6_))))), ?_⟩
      unfold touchAt
      rw [← hi, if_pos hop, ← show k = c.globals.length by omega]
      exact hrow.own.own.mono (by omega)

def touchedAt (c : DCode) (a : Int) : List DTouch := if CodeR c ∧ 0 ≤ a ∧ a < c.ins.length then touchAt c a 0 else []
end Go.Proofs.YteephmhilnlkpaaGreat
