/-
  The law FnExactHeldRight of the given program returns true for every input, and its arguments read afterwards as before: the given statement Rows.FnExactHeldRightSaid.
-/
import Derived.Test.YtjgfldfbljmhhaaGreatPHeldRight6
namespace Go.Proofs.YtjgfldfbljmhhaaGreat
open Go Go.Sh Go.Proofs
set_option linter.unusedVariables false
theorem stOk_of12 {s : DState} {n m : Int} (hm : m ≤ 1048576) (h : -1 ≤ n ∧ n ≤ m ∧ (0 ≤ n → (s.vars.length : Int) ≤ m ∧ (s.owner.length : Int) ≤ m ∧ (s.stacks.length : Int) ≤ m ∧ (∀ x ∈ s.stacks, (x.length : Int) ≤ m) ∧ n + s.vars.length + s.owner.length + s.stacks.length + nLL s.stacks ≤ m)) (c : ¬ n < 0) : StOk s := by
  obtain ⟨h1, h2, h3⟩ := h
  obtain ⟨h4, h5, h6, h7, h8⟩ := h3 (by omega)
  exact ⟨by omega, by omega, by omega, fun x hx => by have := h7 x hx; omega⟩
theorem cdOk_of12 {c : DCode} {n m : Int} (hm : m ≤ 1048576) (h : -1 ≤ n ∧ n ≤ m ∧ (0 ≤ n → n + wCode c ≤ m)) (hc : ¬ n < 0) : wCode c ≤ 1048576 := by
  have := h.2.2 (by omega); omega
/-- laws.FnExactHeldRight -/
def F3 (a0 a1 : Value) (w : World) (R : Value → World → Prop) : Prop :=
  OP Tryz.prog (Instr.box 26 a0) w fun x2 w =>
  OP Tryz.prog (Instr.box 29 a1) w fun x3 w =>
  RD Tryz.prog (Instr.loadAt 26 x2) w fun x10 =>
  CALL Tryz.prog 12 [x10, (Value.int .i64 1048576)] w fun x12 w =>
  RD Tryz.prog (bin .lss 3 (.tmp 0) (.const undef) x12 (Value.int .i64 0)) w fun x14 =>
  BR x14
   (R (Value.bool true) w)
   (RD Tryz.prog (Instr.loadAt 29 x3) w fun x15 =>
   CALL Tryz.prog 13 [x15, x12] w fun x17 w =>
   RD Tryz.prog (bin .lss 3 (.tmp 0) (.const undef) x17 (Value.int .i64 0)) w fun x19 =>
   BR x19
    (R (Value.bool true) w)
    ((fun w => RD Tryz.prog (Instr.loadAt 26 x2) w fun x20 =>
    RD Tryz.prog (Instr.loadAt 29 x3) w fun x22 =>
    (fun w_ => CALL Tryz.prog 15 [x20] w_ fun x21 w =>
    Ext w_ w ∧
    CALL Tryz.prog 16 [x22] w fun x23 w =>
    CALL Tryz.prog 14 [x21, x23] w fun x24 w =>
    RD Tryz.prog (Instr.loadAt 26 x2) w fun x25 =>
    CALL Tryz.prog 15 [x25] w fun x26 w =>
    OP Tryz.prog (Instr.alloc 35 true (.tuple #[])) w fun x7 w =>
    OPU Tryz.prog (Instr.storeAt 35 x7 x26) w fun w =>
    RD Tryz.prog (Instr.loadAt 29 x3) w fun x27 =>
    CALL Tryz.prog 16 [x27] w fun x28 w =>
    OP Tryz.prog (Instr.alloc 37 true (.tuple #[])) w fun x8 w =>
    OPU Tryz.prog (Instr.storeAt 37 x8 x28) w fun w =>
    RD Tryz.prog (Instr.loadAt 35 x7) w fun x29 =>
    RD Tryz.prog (Instr.loadAt 37 x8) w fun x30 =>
    CALL Tryz.prog 17 [x29, x30] w fun x31 w =>
    RD Tryz.prog (bin .neq 4 (.tmp 0) (.tmp 0) x31 x24) w fun x34 =>
    BR x34
     (R (Value.bool false) w)
     ((fun w => RD Tryz.prog (Instr.loadAt 35 x7) w fun x35 =>
     RD Tryz.prog (Instr.loadAt 26 x2) w fun x36 =>
     (fun w_ => CALL Tryz.prog 15 [x36] w_ fun x37 w =>
     Ext w_ w ∧
     CALL Tryz.prog 18 [x35, x37] w fun x38 w =>
     RD Tryz.prog (Op.unary .not x38) w fun x39 =>
     BR x39
      (R (Value.bool false) w)
      ((fun w => RD Tryz.prog (Instr.loadAt 37 x8) w fun x40 =>
      RD Tryz.prog (Instr.loadAt 29 x3) w fun x41 =>
      (fun w_ => CALL Tryz.prog 16 [x41] w_ fun x42 w =>
      Ext w_ w ∧
      CALL Tryz.prog 19 [x40, x42] w fun x43 w =>
      RD Tryz.prog (Op.unary .not x43) w fun x44 =>
      BR x44
       (R (Value.bool false) w)
       (R (Value.bool true) w)) w) (World.drew1 w))) w) (World.drew1 w))) w) (World.drew1 w)))
def cfg3 : Cfg := { ext := extL, joins := [], loops := [], draws := [(8, [0, 2, 1, 3, 4, 5], 2), (14, [0, 1, 2, 3, 4], 4), (16, [0, 1, 2, 3, 4], 4)], pars := [] }
theorem F3_eq (a0 a1 : Value) (w : World) (R : Value → World → Prop) : vcF Tryz.prog cfg3 Tryz.f3 [a0, a1] w R = F3 a0 a1 w R := by kernel_rfl
theorem F3_call {a0 a1 : Value} {w : World} {R : Value → World → Prop} (h : F3 a0 a1 w R) : CALL Tryz.prog 3 [a0, a1] w R :=
  call_of (g := cfg3) ent mixed Tryz.func3 (Nat.le_of_ble_eq_true (by kernel_rfl)) (by kernel_rfl) (F3_eq a0 a1 w R ▸ h)
theorem lawHeldRight {w : World} {v0 : Value} {W0 : World} {c : DCode} {v1 : Value} {W1 : World} {s : DState}  (h0 : Is W0 v0 c) (e0 : Ext W0 w) (h1 : Is W1 v1 s) (e1 : Ext W1 w)  :
    CALL Tryz.prog 3 [v0, v1] w fun r w' => Ext w w' ∧ (r = .bool true) := by
  refine F3_call ?_
  unfold F3
  refine op_boxS ty26 rfl h0 e0 fun w1_ hx1_ hA2 hV2 => ?_
  refine op_boxS ty29 rfl h1 (e1.trans hx1_) fun w2_ hx2_ hA3 hV3 => ?_
  refine rd_var hV2 hx2_ ?_
  refine (szCode_ok h0 (e0.trans (hx1_.trans hx2_)) (by omega) (by omega)).mono ?_
  rintro _ w3_ ⟨hx3_, n12, rfl, hn12⟩
  refine rd_lss ?_
  refine br (fun c1 => ?_) (fun c1 => ?_)
  · refine ⟨(hx1_.trans (hx2_.trans hx3_)), ?_⟩
    first | rfl | contradiction
  · refine rd_var hV3 hx3_ ?_
    refine (szState_ok h1 (e1.trans (hx1_.trans (hx2_.trans hx3_))) (by omega) (by omega)).mono ?_
    rintro _ w4_ ⟨hx4_, n17, rfl, hn17⟩
    refine rd_lss ?_
    refine br (fun c2 => ?_) (fun c2 => ?_)
    · refine ⟨(hx1_.trans (hx2_.trans (hx3_.trans hx4_))), ?_⟩
      first | rfl | contradiction
    · have hx5_ := ext_drew w4_
      refine rd_var hV2 (hx2_.trans (hx3_.trans (hx4_.trans hx5_))) ?_
      refine rd_var hV3 (hx3_.trans (hx4_.trans hx5_)) ?_
      have hcd := cdOk_of12 (by omega) hn12 c1
      have hst := stOk_of12 (by omega) hn17 c2
      refine (toCode_ok (h0.ext (e0.trans (hx1_.trans (hx2_.trans (hx3_.trans (hx4_.trans hx5_)))))) (by omega)).mono ?_
      rintro r21 w6_ ⟨hx6_, o21⟩
      refine ⟨hx6_, ?_⟩
      refine (toState_ok (h1.ext (e1.trans (hx1_.trans (hx2_.trans (hx3_.trans (hx4_.trans (hx5_.trans hx6_))))))) (by assumption)).mono ?_
      rintro r23 w7_ ⟨hx7_, o23⟩
      refine (specHeldRight_ok o21.is hx7_ o23.is (Ext.refl w7_)).mono ?_
      rintro _ w8_ ⟨hx8_, rfl⟩
      refine rd_var hV2 (hx2_.trans (hx3_.trans (hx4_.trans (hx5_.trans (hx6_.trans (hx7_.trans hx8_)))))) ?_
      refine (toCode_ok (h0.ext (e0.trans (hx1_.trans (hx2_.trans (hx3_.trans (hx4_.trans (hx5_.trans (hx6_.trans (hx7_.trans hx8_))))))))) (by omega)).mono ?_
      rintro r26 w9_ ⟨hx9_, o26⟩
      refine op_var zl35 rfl ty35 rfl o26.is (Ext.refl w9_) fun w10_ hx10_ hA7 hV7 => ?_
      refine rd_var hV3 (hx3_.trans (hx4_.trans (hx5_.trans (hx6_.trans (hx7_.trans (hx8_.trans (hx9_.trans hx10_))))))) ?_
      refine (toState_ok (h1.ext (e1.trans (hx1_.trans (hx2_.trans (hx3_.trans (hx4_.trans (hx5_.trans (hx6_.trans (hx7_.trans (hx8_.trans (hx9_.trans hx10_))))))))))) (by assumption)).mono ?_
      rintro r28 w11_ ⟨hx11_, o28⟩
      refine op_var zl37 rfl ty37 rfl o28.is (Ext.refl w11_) fun w12_ hx12_ hA8 hV8 => ?_
      refine rd_var hV7 (hx11_.trans hx12_) ?_
      refine rd_var hV8 (Ext.refl w12_) ?_
      refine (implHeldRight_ok o26.is (hx10_.trans (hx11_.trans hx12_)) o28.is hx12_).mono ?_
      rintro _ w13_ ⟨hx13_, rfl⟩
      refine rd_neqB u4 ?_
      refine br (fun c3 => ?_) (fun c3 => ?_)
      · refine ⟨(hx1_.trans (hx2_.trans (hx3_.trans (hx4_.trans (hx5_.trans (hx6_.trans (hx7_.trans (hx8_.trans (hx9_.trans (hx10_.trans (hx11_.trans (hx12_.trans hx13_)))))))))))), ?_⟩
        first | rfl | contradiction
      · have hx14_ := ext_drew w13_
        refine rd_var hV7 (hx11_.trans (hx12_.trans (hx13_.trans hx14_))) ?_
        refine rd_var hV2 (hx2_.trans (hx3_.trans (hx4_.trans (hx5_.trans (hx6_.trans (hx7_.trans (hx8_.trans (hx9_.trans (hx10_.trans (hx11_.trans (hx12_.trans (hx13_.trans hx14_)))))))))))) ?_
        refine (toCode_ok (h0.ext (e0.trans (hx1_.trans (hx2_.trans (hx3_.trans (hx4_.trans (hx5_.trans (hx6_.trans (hx7_.trans (hx8_.trans (hx9_.trans (hx10_.trans (hx11_.trans (hx12_.trans (hx13_.trans hx14_))))))))))))))) (by omega)).mono ?_
        rintro r37 w15_ ⟨hx15_, o37⟩
        refine ⟨hx15_, ?_⟩
        refine (eqCode_ok o26.is (hx10_.trans (hx11_.trans (hx12_.trans (hx13_.trans (hx14_.trans hx15_))))) o37.is (Ext.refl w15_)).mono ?_
        rintro _ w16_ ⟨hx16_, rfl⟩
        refine rd_nodec ?_
        refine br (fun c4 => ?_) (fun c4 => ?_)
        · refine ⟨(hx1_.trans (hx2_.trans (hx3_.trans (hx4_.trans (hx5_.trans (hx6_.trans (hx7_.trans (hx8_.trans (hx9_.trans (hx10_.trans (hx11_.trans (hx12_.trans (hx13_.trans (hx14_.trans (hx15_.trans hx16_))))))))))))))), ?_⟩
          first | rfl | contradiction
        · have hx17_ := ext_drew w16_
          refine rd_var hV8 (hx13_.trans (hx14_.trans (hx15_.trans (hx16_.trans hx17_)))) ?_
          refine rd_var hV3 (hx3_.trans (hx4_.trans (hx5_.trans (hx6_.trans (hx7_.trans (hx8_.trans (hx9_.trans (hx10_.trans (hx11_.trans (hx12_.trans (hx13_.trans (hx14_.trans (hx15_.trans (hx16_.trans hx17_)))))))))))))) ?_
          refine (toState_ok (h1.ext (e1.trans (hx1_.trans (hx2_.trans (hx3_.trans (hx4_.trans (hx5_.trans (hx6_.trans (hx7_.trans (hx8_.trans (hx9_.trans (hx10_.trans (hx11_.trans (hx12_.trans (hx13_.trans (hx14_.trans (hx15_.trans (hx16_.trans hx17_)))))))))))))))))) (by assumption)).mono ?_
          rintro r42 w18_ ⟨hx18_, o42⟩
          refine ⟨hx18_, ?_⟩
          refine (eqState_ok o28.is (hx12_.trans (hx13_.trans (hx14_.trans (hx15_.trans (hx16_.trans (hx17_.trans hx18_)))))) o42.is (Ext.refl w18_)).mono ?_
          rintro _ w19_ ⟨hx19_, rfl⟩
          refine rd_nodec ?_
          refine br (fun c5 => ?_) (fun c5 => ?_)
          · refine ⟨(hx1_.trans (hx2_.trans (hx3_.trans (hx4_.trans (hx5_.trans (hx6_.trans (hx7_.trans (hx8_.trans (hx9_.trans (hx10_.trans (hx11_.trans (hx12_.trans (hx13_.trans (hx14_.trans (hx15_.trans (hx16_.trans (hx17_.trans (hx18_.trans hx19_)))))))))))))))))), ?_⟩
            first | rfl | contradiction
          · refine ⟨(hx1_.trans (hx2_.trans (hx3_.trans (hx4_.trans (hx5_.trans (hx6_.trans (hx7_.trans (hx8_.trans (hx9_.trans (hx10_.trans (hx11_.trans (hx12_.trans (hx13_.trans (hx14_.trans (hx15_.trans (hx16_.trans (hx17_.trans (hx18_.trans hx19_)))))))))))))))))), ?_⟩
            first | rfl | contradiction
end Go.Proofs.YtjgfldfbljmhhaaGreat
namespace Go.Proofs.YtjgfldfbljmhhaaGreat
open Go Go.Sh Go.Proofs
theorem rdInts : ∀ n, Reads Tryz.prog 23 (List Int) n := reads_all_slice u23 (by kernel_rfl) (reads_int u3)
theorem rdIntss : ∀ n, Reads Tryz.prog 27 (List (List Int)) n := reads_all_slice u27 (by kernel_rfl) rdInts
theorem rdState : ∀ n, Reads Tryz.prog 29 DState n := fun n =>
  reads_via (g := fun p => ⟨p.1, p.2.1, p.2.2⟩) (fun _ => rfl) (reads_all_struct (α := List Int × List Int × List (List Int)) us29 (by kernel_rfl)
    (fun n => .cons rfl (by kernel_rfl) (rdInts n) (.cons rfl (by kernel_rfl) (rdInts n) (.one rfl (by kernel_rfl) (rdIntss n)))) n)
end Go.Proofs.YtjgfldfbljmhhaaGreat
namespace Go.Proofs.YtjgfldfbljmhhaaGreat
open Go Go.Sh Go.Proofs
theorem rdTerm : ∀ n, Reads Tryz.prog 123 DTerm n ∧ Reads Tryz.prog 121 (List DTerm) n
  | 0 => ⟨reads_zero, reads_zero⟩
  | n + 1 => ⟨reads_tup (reads_struct (α := Int × Int × ByteArray × List DTerm) us123 (by kernel_rfl)
      (.cons rfl (by kernel_rfl) (reads_int u3 n) (.cons rfl (by kernel_rfl) (reads_int u3 n) (.cons rfl (by kernel_rfl) (reads_str u9 n) (.one rfl (by kernel_rfl) (rdTerm n).2))))),
    reads_slice u121 (by kernel_rfl) (rdTerm n).1⟩
theorem rdStrs : ∀ n, Reads Tryz.prog 22 (List ByteArray) n := reads_all_slice u22 (by kernel_rfl) (reads_str u9)
theorem rdIns : ∀ n, Reads Tryz.prog 125 DIns n := fun n =>
  reads_via (g := fun p => ⟨p.1, p.2.1, p.2.2.1, p.2.2.2⟩) (fun _ => rfl) (reads_all_struct (α := Int × Int × DTerm × Int) us125 (by kernel_rfl)
    (fun n => .cons rfl (by kernel_rfl) (reads_int u3 n) (.cons rfl (by kernel_rfl) (reads_int u3 n) (.cons rfl (by kernel_rfl) (rdTerm n).1 (.one rfl (by kernel_rfl) (reads_int u3 n))))) n)
theorem rdInss : ∀ n, Reads Tryz.prog 24 (List DIns) n := reads_all_slice u24 (by kernel_rfl) rdIns
theorem rdIntsC : ∀ n, Reads Tryz.prog 23 (List Int) n := reads_all_slice u23 (by kernel_rfl) (reads_int u3)
theorem rdCode : ∀ n, Reads Tryz.prog 26 DCode n := fun n =>
  reads_via (g := fun p => ⟨p.1, p.2.1, p.2.2.1, p.2.2.2.1, p.2.2.2.2⟩) (fun _ => rfl) (reads_all_struct (α := List ByteArray × List ByteArray × List ByteArray × List Int × List DIns) us26 (by kernel_rfl)
    (fun n => .cons rfl (by kernel_rfl) (rdStrs n) (.cons rfl (by kernel_rfl) (rdStrs n) (.cons rfl (by kernel_rfl) (rdStrs n) (.cons rfl (by kernel_rfl) (rdIntsC n) (.one rfl (by kernel_rfl) (rdInss n)))))) n)
end Go.Proofs.YtjgfldfbljmhhaaGreat
namespace Go.Proofs.YtjgfldfbljmhhaaGreat
open Go
theorem and_tt {a b : Bool} (h : a = true) (k : b = true) : (a && b) = true := by rw [h, k]; rfl
theorem fa_laid : laidOutB Tryz.prog = true := by kernel_rfl
theorem fa_maps : mapsRowed Tryz.prog = true := by kernel_rfl
theorem fa_plain : (Rows.fnExactHeldRightRow.plainKeys == Tryz.prog.plainKeys) = true := by kernel_rfl
theorem fa_heard : Tryz.prog.stopsHeard = true := by kernel_rfl
theorem fa_may : Tryz.prog.mayEnter = true := by kernel_rfl
theorem fa_lift : (Rows.fnExactHeldRightRow.lifted == Tryz.prog.liftsFinal) = true := by kernel_rfl
theorem fa_make : (Tryz.prog.make == some Rows.fnExactHeldRightRow.make) = true := by kernel_rfl
end Go.Proofs.YtjgfldfbljmhhaaGreat
namespace Go.Proofs.YtjgfldfbljmhhaaGreat.fnExactHeldRight
open Go.ChangeShapes Go.WideShapes Go.ChangeAt Go.RowKit Go.Sh
set_option linter.unusedVariables false
theorem own : ownKnob Tryz.prog.godebug = none := by kernel_rfl
theorem laidOut : laidOutB Tryz.prog = true := by kernel_rfl
set_option maxRecDepth 100000 in
theorem lifted (os : Os) (started : os.Started) (H : Type) (enc : TypeId × Value → H) :
    ReturnsInHanded {} Tryz.checked os 3 .any (Rows.fnExactHeldRightSpec.pre6 enc Tryz.prog Tryz.f3 Rows.fnExactHeldRightRow.domain false) (Rows.fnExactHeldRightSpec.post enc Tryz.prog Tryz.f3 false true false false) := by
  refine returnsInHanded_of_change (C := Tryz.checked) own started (by kernel_rfl) Tryz.func3
    (ChangeSpec.witness6 (enc := enc) (C := Tryz.checked) false ⟨#[], #[.agg #[.slice none 0 0, .slice none 0 0, .slice none 0 0, .slice none 0 0, .slice none 0 0], .agg #[.slice none 0 0, .slice none 0 0, .slice none 0 0]], []⟩ 8 (by kernel_rfl) (by kernel_rfl) (by kernel_rfl) (by kernel_rfl)) ?_
  intro W base args ds gs before hval0 hW hcnd _
  have hval : ∀ (j : Nat) t v, Tryz.f3.params[j]? = some t → args[j]? = some v → Value.okWide Tryz.prog W .any base t v := hval0
  have hW' := hW
  obtain ⟨p, q, hA0, hV, rfl, hfz, hnd⟩ := hW
  have hA : DataW.TrodAll enc Tryz.prog W 0 (fun _ => true) true Tryz.f3.params.toList args.toList ds p := hA0
  rw [Tryz.params3] at hA hval
  obtain ⟨v0, vs0, d0, ds0, p0, q0, hargs, rfl, rfl, h0, r0⟩ := trodAll_cons hA
  obtain ⟨v1, vs1, d1, ds1, p1, q1, rfl, rfl, rfl, h1, r1⟩ := trodAll_cons r0
  obtain ⟨rfl, rfl, rfl⟩ := trodAll_nil r1
  obtain rfl : args = #[v0, v1] := by cases args; simp_all
  obtain ⟨rfl, rfl⟩ := trodVars_none hV
  have lt0 : ∀ x ∈ p0, x.block < W.heap.size := by obtain ⟨m, hm⟩ := h0; exact DataW.trod_lt m _ _ _ hm
  obtain ⟨x0, i0⟩ := is_of_struct (α := DCode) us26 rfl rdCode (hval 0 26 v0 rfl rfl) h0
  have lt1 : ∀ x ∈ p1, x.block < W.heap.size := by obtain ⟨m, hm⟩ := h1; exact DataW.trod_lt m _ _ _ hm
  obtain ⟨x1, i1⟩ := is_of_struct (α := DState) us29 rfl rdState (hval 1 29 v1 rfl rfl) h1
  clear hA0 hval0
  obtain ⟨hcall⟩ := lawHeldRight i0 (Ext.refl W) i1 (Ext.refl W)
  refine hcall.mono fun e W' ⟨v, he, bel, hv⟩ => ?_
  subst he hv
  exact ⟨_, rfl, _, _, _, [], _, [], hW', trodAll_mk1 (shut_bool Tryz.underlying4 _), (trodAll_cons_mk (Below.trod laidOut (by kernel_rfl) (of_decide_eq_true (by kernel_rfl)) h0 bel lt0) (trodAll_cons_mk (Below.trod laidOut (by kernel_rfl) (of_decide_eq_true (by kernel_rfl)) h1 bel lt1) trodAll_mk0)), rfl, bel.frame _, fun h => by cases h⟩
theorem j_inPlace : (Rows.fnExactHeldRightRow.inPlace == Tryz.prog.inPlace 3) = true := by kernel_rfl
theorem j_unfollowed : (Rows.fnExactHeldRightRow.unfollowed == Tryz.prog.unfollowed 3) = true := by kernel_rfl
theorem j_recurses : (Rows.fnExactHeldRightRow.recurses == Tryz.prog.recurses 3) = true := by kernel_rfl
theorem j_named : (Rows.fnExactHeldRightRow.named == Tryz.prog.varsNamed 3) = true := by kernel_rfl
theorem closed : joinedFacts Tryz.prog 3 Tryz.f3 Rows.fnExactHeldRightSpec Rows.fnExactHeldRightRow = true := by
  unfold joinedFacts
  exact (and_tt (and_tt (and_tt (and_tt (and_tt (and_tt (and_tt (and_tt (and_tt (and_tt (and_tt (and_tt (and_tt (and_tt (and_tt (and_tt (and_tt (and_tt (and_tt (and_tt (and_tt (and_tt (and_tt (and_tt (and_tt (and_tt (and_tt (and_tt (and_tt (and_tt (and_tt (by kernel_rfl) fa_laid) fa_maps) (by kernel_rfl)) (by kernel_rfl)) (by kernel_rfl)) (by kernel_rfl)) (by kernel_rfl)) (by kernel_rfl)) j_inPlace) j_unfollowed) j_recurses) j_named) (by kernel_rfl)) (by kernel_rfl)) (by kernel_rfl)) (by kernel_rfl)) (by kernel_rfl)) (by kernel_rfl)) (by kernel_rfl)) (by kernel_rfl)) (by kernel_rfl)) fa_plain) (by kernel_rfl)) fa_heard) fa_may) fa_lift) fa_make) (by kernel_rfl)) (by kernel_rfl)) (by kernel_rfl)) (by kernel_rfl))
theorem over : Rows.fnExactHeldRightRow.holds Tryz.pinned (OpenSpec.ofChange Rows.fnExactHeldRightSpec) :=
  OpenClaim.holds_of_wide 3 Tryz.f3 rfl rfl rfl rfl rfl rfl rfl ⟨rfl, rfl, rfl, rfl, rfl⟩ rfl rfl rfl rfl rfl (by kernel_rfl) Tryz.func3 closed
    (of_decide_eq_true (by kernel_rfl)) (by unfold Func.isWrapper; first | (rw [if_pos (by decide +kernel)]; kernel_rfl) | (rw [if_neg (by decide +kernel)]; exact ⟨rfl, rfl⟩))
    (fun os started H enc _ => lifted os started H enc)
theorem proved : Rows.FnExactHeldRightSaid := over
end Go.Proofs.YtjgfldfbljmhhaaGreat.fnExactHeldRight
