/-
  All states of a program: the reference's search.
-/
import Derived.Test.YteephmhilnlkpaaGreatSearch
namespace Go.Proofs.YteephmhilnlkpaaGreat
open Go Go.Sh Go.Proofs
set_option linter.unusedVariables false
/-- spec.l23All -/
def F80 (a0 a1 : Value) (w : World) (R : Value → World → Prop) : Prop :=
  OP Tryz.prog (Instr.box 37 a0) w fun x2 w =>
  CALL Tryz.prog 133 [a1, (Value.int .i64 1), (Value.int .i64 150)] w fun x10 w =>
  RD Tryz.prog (Instr.loadAt 37 x2) w fun x11 =>
  CALL Tryz.prog 134 [x11] w fun x12 w =>
  OP Tryz.prog (Instr.buildSlice 45 1 #[(0, x12)]) w fun x13 w =>
  OP Tryz.prog (Instr.buildSlice 23 1 #[(0, (Value.int .i64 (-1)))]) w fun x14 w =>
  OP Tryz.prog (Instr.buildSlice 23 1 #[(0, (Value.int .i64 (-1)))]) w fun x15 w =>
  RD Tryz.prog (Instr.build 89 #[(0, x13), (1, x14), (2, x15), (3, (Value.bool true))]) w fun x16 =>
  OP Tryz.prog (Instr.box 89 x16) w fun x17 w =>
  LOOPI [6] [(Value.int .i64 0)] w fun u4 w next4 =>
   NIL x17 <|
   RD Tryz.prog (Instr.fieldAt 89 x17 0) w fun x21 =>
   RD Tryz.prog (Instr.loadAt 45 x21) w fun x22 =>
   RD Tryz.prog (Builtin.len_ #[45] 3 [x22].toArray) w fun x23 =>
   RD Tryz.prog (bin .lss 3 (.tmp 0) (.tmp 0) (u4 6) x23) w fun x24 =>
   BR x24
    (LOOPI [7] [(Value.int .i64 0)] w fun u7 w next7 =>
     NIL x17 <|
     RD Tryz.prog (Instr.fieldAt 89 x17 0) w fun x30 =>
     RD Tryz.prog (Instr.loadAt 45 x30) w fun x31 =>
     RD Tryz.prog (Instr.indexAt 45 x31 (u4 6)) w fun x33 =>
     RD Tryz.prog (Instr.fieldAt 32 x33 2) w fun x34 =>
     RD Tryz.prog (Instr.loadAt 27 x34) w fun x35 =>
     RD Tryz.prog (Builtin.len_ #[27] 3 [x35].toArray) w fun x36 =>
     RD Tryz.prog (bin .lss 3 (.tmp 0) (.tmp 0) (u7 7) x36) w fun x37 =>
     BR x37
      ((fun w => RD Tryz.prog (Instr.loadAt 37 x2) w fun x40 =>
      NIL x17 <|
      RD Tryz.prog (Instr.fieldAt 89 x17 0) w fun x43 =>
      RD Tryz.prog (Instr.loadAt 45 x43) w fun x44 =>
      RD Tryz.prog (Instr.indexAt 45 x44 (u4 6)) w fun x46 =>
      RD Tryz.prog (Instr.loadAt 32 x46) w fun x47 =>
      CALL Tryz.prog 121 [x40, x47, (u7 7)] w fun x49 w =>
      RD Tryz.prog (Op.unary .not x49) w fun x50 =>
      BR x50
       (RD Tryz.prog (bin .add 3 (.tmp 0) (.const undef) (u7 7) (Value.int .i64 1)) w fun x39 =>
       next7 [x39] w)
       ((fun w0 => PAR w0 [[(0, 51)], [(1, 52)], [(2, 53), (1, 52)], [(3, 54), (2, 53)], [(4, 55), (3, 54)], [(5, 56)], [(6, 57), (4, 55), (5, 56)], [(7, 58), (6, 57)], [(8, 59)], [(9, 60), (0, 51), (7, 58), (8, 59)], [(10, 8)]] (fun Q =>
        (∀ (u10 : Env) (T : Nat → Nat × Nat) (w : World), Ext w0 w → Apart [] w0.heap.size w.heap.size T → (True) → (fun w1 => RD Tryz.prog (Instr.loadAt 37 x2) w fun x51 =>
       Ext w1 w ∧ Q 0 (upd u10 51 x51) (updT T 0 (w1.heap.size, w.heap.size)) w) w) ∧
        (∀ (u10 : Env) (T : Nat → Nat × Nat) (w : World), Ext w0 w → Apart [] w0.heap.size w.heap.size T → (True) → (fun w1 => Ext w1 w ∧ Q 1 (upd u10 52 x17) (updT T 1 (w1.heap.size, w.heap.size)) w) w) ∧
        (∀ (u10 : Env) (T : Nat → Nat × Nat) (w : World), Ext w0 w → Apart [1] w0.heap.size w.heap.size T → (Q 1 u10 T w ∧ True) → (fun w1 => NIL (u10 52) <|
       Ext w1 w ∧ Q 2 (upd u10 53 (u10 52)) (updT T 2 (w1.heap.size, w.heap.size)) w) w) ∧
        (∀ (u10 : Env) (T : Nat → Nat × Nat) (w : World), Ext w0 w → Apart [2] w0.heap.size w.heap.size T → (Q 2 u10 T w ∧ True) → (fun w1 => RD Tryz.prog (Instr.fieldAt 89 (u10 53) 0) w fun x54 =>
       Ext w1 w ∧ Q 3 (upd u10 54 x54) (updT T 3 (w1.heap.size, w.heap.size)) w) w) ∧
        (∀ (u10 : Env) (T : Nat → Nat × Nat) (w : World), Ext w0 w → Apart [3] w0.heap.size w.heap.size T → (Q 3 u10 T w ∧ True) → (fun w1 => RD Tryz.prog (Instr.loadAt 45 (u10 54)) w fun x55 =>
       Ext w1 w ∧ Q 4 (upd u10 55 x55) (updT T 4 (w1.heap.size, w.heap.size)) w) w) ∧
        (∀ (u10 : Env) (T : Nat → Nat × Nat) (w : World), Ext w0 w → Apart [] w0.heap.size w.heap.size T → (True) → (fun w1 => Ext w1 w ∧ Q 5 (upd u10 56 (u4 6)) (updT T 5 (w1.heap.size, w.heap.size)) w) w) ∧
        (∀ (u10 : Env) (T : Nat → Nat × Nat) (w : World), Ext w0 w → Apart [4, 5] w0.heap.size w.heap.size T → (Q 4 u10 T w ∧ Q 5 u10 T w ∧ True) → (fun w1 => RD Tryz.prog (Instr.indexAt 45 (u10 55) (u10 56)) w fun x57 =>
       Ext w1 w ∧ Q 6 (upd u10 57 x57) (updT T 6 (w1.heap.size, w.heap.size)) w) w) ∧
        (∀ (u10 : Env) (T : Nat → Nat × Nat) (w : World), Ext w0 w → Apart [6] w0.heap.size w.heap.size T → (Q 6 u10 T w ∧ True) → (fun w1 => RD Tryz.prog (Instr.loadAt 32 (u10 57)) w fun x58 =>
       Ext w1 w ∧ Q 7 (upd u10 58 x58) (updT T 7 (w1.heap.size, w.heap.size)) w) w) ∧
        (∀ (u10 : Env) (T : Nat → Nat × Nat) (w : World), Ext w0 w → Apart [] w0.heap.size w.heap.size T → (True) → (fun w1 => Ext w1 w ∧ Q 8 (upd u10 59 (u7 7)) (updT T 8 (w1.heap.size, w.heap.size)) w) w) ∧
        (∀ (u10 : Env) (T : Nat → Nat × Nat) (w : World), Ext w0 w → Apart [0, 7, 8] w0.heap.size w.heap.size T → (Q 0 u10 T w ∧ Q 7 u10 T w ∧ Q 8 u10 T w ∧ True) → (fun w1 => CALL Tryz.prog 67 [(u10 51), (u10 58), (u10 59)] w fun x60 w =>
       Ext w1 w ∧ Q 9 (upd u10 60 x60) (updT T 9 (w1.heap.size, w.heap.size)) w) w) ∧
        (∀ (u10 : Env) (T : Nat → Nat × Nat) (w : World), Ext w0 w → Apart [] w0.heap.size w.heap.size T → (True) → (fun w1 => OP Tryz.prog (Instr.alloc 32 true (.tuple #[])) w fun x8 w =>
       Ext w1 w ∧ Q 10 (upd u10 8 x8) (updT T 10 (w1.heap.size, w.heap.size)) w) w) ∧
        True)
        (fun Q => ∀ (u10 : Env) (T : Nat → Nat × Nat) (w : World), Ext w0 w → Apart [0, 1, 2, 3, 4, 5, 6, 7, 8, 9, 10] w0.heap.size w.heap.size T → (Q 0 u10 T w ∧ Q 1 u10 T w ∧ Q 2 u10 T w ∧ Q 3 u10 T w ∧ Q 4 u10 T w ∧ Q 5 u10 T w ∧ Q 6 u10 T w ∧ Q 7 u10 T w ∧ Q 8 u10 T w ∧ Q 9 u10 T w ∧ Q 10 u10 T w ∧ True) →
        OPU Tryz.prog (Instr.storeAt 32 (u10 8) (u10 60)) w fun w =>
       (fun w => NIL x17 <|
       RD Tryz.prog (Instr.fieldAt 89 x17 0) w fun x63 =>
       RD Tryz.prog (Instr.loadAt 45 x63) w fun x64 =>
       RD Tryz.prog (Instr.loadAt 32 (u10 8)) w fun x65 =>
       CALL Tryz.prog 83 [x64, x65] w fun x66 w =>
       RD Tryz.prog (bin .geq 3 (.tmp 0) (.const undef) x66 (Value.int .i64 0)) w fun x67 =>
       BR x67
        (RD Tryz.prog (bin .add 3 (.tmp 0) (.const undef) (u7 7) (Value.int .i64 1)) w fun x39 =>
        next7 [x39] w)
        (NIL x17 <|
        RD Tryz.prog (Instr.fieldAt 89 x17 0) w fun x70 =>
        RD Tryz.prog (Instr.loadAt 45 x70) w fun x71 =>
        RD Tryz.prog (Builtin.len_ #[45] 3 [x71].toArray) w fun x72 =>
        RD Tryz.prog (bin .eql 3 (.tmp 0) (.tmp 0) x72 x10) w fun x74 =>
        BR x74
         (NIL x17 <|
         RD Tryz.prog (Instr.fieldAt 89 x17 3) w fun x77 =>
         OPU Tryz.prog (Instr.storeAt 4 x77 (Value.bool false)) w fun w =>
         R x17 w)
         ((fun w => XR fun X => NIL x17 <|
         RDX Tryz.prog X (Instr.fieldAt 89 x17 0) w fun x82 =>
         RDX Tryz.prog X (Instr.loadAt 45 x82) w fun x83 =>
         RDX Tryz.prog X (Instr.loadAt 32 (u10 8)) w fun x84 =>
         (fun w_ => OP Tryz.prog (Instr.buildSlice 45 1 #[(0, x84)]) w_ fun x85 w =>
         ExtX X w_ w ∧
         ((fun w_ => OP Tryz.prog (Builtin.append_ #[45, 45] 45 [x83, x85].toArray) w_ fun x86 w =>
         ExtX X w_ w ∧
         (NIL x17 <|
         RDX Tryz.prog X (Instr.fieldAt 89 x17 0) w fun x88 =>
         OPU Tryz.prog (Instr.storeAt 45 x88 x86) w fun w =>
         NIL x17 <|
         RD Tryz.prog (Instr.fieldAt 89 x17 1) w fun x92 =>
         RD Tryz.prog (Instr.loadAt 23 x92) w fun x93 =>
         OP Tryz.prog (Instr.buildSlice 23 1 #[(0, (u4 6))]) w fun x95 w =>
         OP Tryz.prog (Builtin.append_ #[23, 23] 23 [x93, x95].toArray) w fun x96 w =>
         NIL x17 <|
         RD Tryz.prog (Instr.fieldAt 89 x17 1) w fun x98 =>
         OPU Tryz.prog (Instr.storeAt 23 x98 x96) w fun w =>
         NIL x17 <|
         RD Tryz.prog (Instr.fieldAt 89 x17 2) w fun x102 =>
         RD Tryz.prog (Instr.loadAt 23 x102) w fun x103 =>
         OP Tryz.prog (Instr.buildSlice 23 1 #[(0, (u7 7))]) w fun x105 w =>
         OP Tryz.prog (Builtin.append_ #[23, 23] 23 [x103, x105].toArray) w fun x106 w =>
         NIL x17 <|
         RD Tryz.prog (Instr.fieldAt 89 x17 2) w fun x108 =>
         OPU Tryz.prog (Instr.storeAt 23 x108 x106) w fun w =>
         RD Tryz.prog (bin .add 3 (.tmp 0) (.const undef) (u7 7) (Value.int .i64 1)) w fun x39 =>
         next7 [x39] w)) w)) w) (World.drew1 w)))) (World.drew1 w))) (World.drew1 w))) (World.drew1 w))
      (RD Tryz.prog (bin .add 3 (.tmp 0) (.const undef) (u4 6) (Value.int .i64 1)) w fun x26 =>
      next4 [x26] w))
    (R x17 w)
def cfg80 : Cfg := { ext := extL, joins := [], loops := [(4, 649037107316853453566312040890832, [6]), (7, 649037107316853453566311906935184, [7])], draws := [(9, [0, 1, 2, 3, 4, 5, 6, 7, 8, 9, 10], 0), (11, [0, 1, 2, 3, 4, 5, 6], 0), (15, [0, 1, 2, 3, 4, 5, 6, 7, 8, 9, 10], 192)], pars := [(10, 2303591209400008960, 11)], xs := [15] }
theorem F80_eq (a0 a1 : Value) (w : World) (R : Value → World → Prop) : vcF Tryz.prog cfg80 Tryz.f80 [a0, a1] w R = F80 a0 a1 w R := by kernel_rfl
theorem F80_call {a0 a1 : Value} {w : World} {R : Value → World → Prop} (h : F80 a0 a1 w R) : CALL Tryz.prog 80 [a0, a1] w R :=
  call_of (g := cfg80) ent mixed Tryz.func80 (Nat.le_of_ble_eq_true (by kernel_rfl)) (by kernel_rfl) (F80_eq a0 a1 w R ▸ h)

set_option linter.unusedVariables false
set_option linter.unusedSimpArgs false

/-- the same, the reference's -/
def slQ (c : DCode) (z : DTrail) (g : Nat) (i t : Nat) (w0 : World) : ParQ := fun j u T w => match j with
  | 0 => Is w0 (u 51) c
  | 1 => u 52 = .pointer (some ⟨g, 0, none⟩)
  | 2 => u 53 = .pointer (some ⟨g, 0, none⟩)
  | 3 => u 54 = .pointer (some ⟨g, 0 + 0, none⟩)
  | 4 => u 55 = z.states.v
  | 5 => u 56 = .int .i64 (i : Int)
  | 6 => ∃ b o, u 57 = .pointer (some ⟨b, o, none⟩) ∧ At w0 b o (stAt z.er i)
  | 7 => Is w0 (u 58) (stAt z.er i)
  | 8 => u 59 = .int .i64 (t : Int)
  | 9 => OwnI (T 9).1 (T 9).2 w (u 60) (stepD c (stAt z.er i) t)
  | 10 => ∃ gg, u 8 = .pointer (some ⟨gg, 0, none⟩) ∧ (T 10).1 ≤ gg ∧ gg < (T 10).2 ∧ Blk gg 32 w [.slice none 0 0, .slice none 0 0, .slice none 0 0]
  | _ => True
theorem l23All_ok {w W0 : World} {v0 : Value} {c : DCode} {m : Int} (h0 : Is W0 v0 c) (e0 : Ext W0 w) (hw : wCode c ≤ 1048576) (hc : CodeR c) :
    CALL Tryz.prog 80 [v0, .int .i64 m] w fun r w' => Ext w w' ∧ ∃ (g : Nat) (z : DTrail), r = .pointer (some ⟨g, 0, none⟩) ∧ w.heap.size ≤ g ∧ VarI w.heap.size w'.heap.size w' g z ∧ z.er = lookD c (brought m 1 150).toNat ∧ TrOk c (brought m 1 150).toNat z.er := by
  refine F80_call ?_
  unfold F80
  refine op_box h0 e0 fun w1 hx1 hA => ?_
  have hs1 := hx1.size
  refine specBrought_ok.mono ?_
  rintro _ w3 ⟨hx3, rfl⟩
  have hs3 := hx3.size
  have hMi := brought_in m
  obtain ⟨M, hM, hM1, hM2⟩ : ∃ M : Nat, brought m 1 150 = (M : Int) ∧ 1 ≤ M ∧ M ≤ 150 := ⟨(brought m 1 150).toNat, by omega, by omega, by omega⟩
  rw [hM]
  have hMt : ((M : Nat) : Int).toNat = M := by omega
  rw [hMt]
  refine rd_load ty37 hA hx3 fun v11 h11 => ?_
  refine (specStartOf_ok h11 hx3 hw).mono ?_
  rintro r12 w4 ⟨hx4, o12⟩
  rw [show startOf c = startD c from if_pos hc] at o12
  have o12 := o12.toI
  have hs4 := hx4.size
  refine op_buildR (β := DState) u45 ty32 z32 (by decide) o12 (by omega) fun v13 w5 hx5 r13 => ?_
  have hs5 := hx5.size
  refine op_buildR (β := Int) (lo2 := w5.heap.size) (hi2 := w5.heap.size) u23 ty3 z3 (by decide) (ownI_int (x := -1) (by unfold I64; omega)) (by omega) fun v14 w6 hx6 r14 => ?_
  have hs6 := hx6.size
  refine op_buildR (β := Int) (lo2 := w6.heap.size) (hi2 := w6.heap.size) u23 ty3 z3 (by decide) (ownI_int (x := -1) (by unfold I64; omega)) (by omega) fun v15 w7 hx7 r15 => ?_
  have hs7 := hx7.size
  have o13 := ownI_rv ((r13.ext hx6).ext hx7)
  have o14 := ownI_rv (r14.ext hx7)
  have o15 := ownI_rv r15
  obtain ⟨a13, n13, c13, e13⟩ := ownI_form r13.own
  obtain ⟨a14, n14, c14, e14⟩ := ownI_form r14.own
  obtain ⟨a15, n15, c15, e15⟩ := ownI_form r15.own
  have otr := ownI_trail (z := ⟨⟨v13, [startD c]⟩, ⟨v14, [-1]⟩, ⟨v15, [-1]⟩, true⟩) o13 o14 o15 (by omega)
  refine rd_build (cells := #[v13, v14, v15, .bool true]) (by rw [e13, e14, e15]; kernel_rfl) ?_
  refine op_boxV (α := DTrail) rfl otr fun w9 hx9 hv9 => ?_
  have hs9 := hx9.size
  have hg5 := hv9.lt
  have hx39 : Ext w3 w9 := hx4.trans (hx5.trans (hx6.trans (hx7.trans hx9)))
  obtain ⟨g, hgd⟩ : ∃ g, w7.heap.size = g := ⟨_, rfl⟩
  rw [hgd] at hv9 hg5 ⊢
  have hv9 := hv9.mono (lo' := w3.heap.size) (hi' := w9.heap.size) (Nat.le_refl _) (by omega)
  refine loopC M (fun k us w' => us = [.int .i64 (k : Int)] ∧ ∃ (z : DTrail) (hi : Nat), Ext w3 w' ∧ VarI w3.heap.size hi w' g z ∧ g < hi ∧ hi ≤ w'.heap.size ∧ TrOk c M z.er ∧ k ≤ z.states.l.length ∧ lookGo c M (M - k) k z.er = lookD c M) 0 (by omega)
    ⟨rfl, _, w9.heap.size, hx39, hv9, by omega, Nat.le_refl _, start_ok hc hM1, Nat.zero_le _, rfl⟩ ?_
  rintro k mk u w10 hkm ⟨hu, z, hi, hx10, hv10, hgh, hhi, hok, hkl, hlook⟩
  simp only [List.map_cons, List.map_nil, List.cons.injEq, and_true] at hu
  rw [hu]
  have hmany : 1 ≤ z.states.l.length ∧ z.states.l.length ≤ M := hok.many
  refine ⟨rfl, ?_⟩
  refine rd_fld fd89_0 ?_
  refine rd_loadV ty45 (at_DTrail_0 hv10.at) (Ext.refl _) ?_
  have hst := at_rv (at_DTrail_0 hv10.at)
  refine rd_len u45 hst ?_
  refine rd_lss ?_
  refine br (fun hlt => ?_) (fun hge => ?_)
  case refine_2 =>
    have := hx10.size
    refine ⟨hx1.trans (hx3.trans hx10), g, z, rfl, by omega, hv10.mono (by omega) hhi, ?_, hok⟩
    rw [← hlook, lookGo_end (f := z.er) (by show z.states.l.length ≤ k; omega)]
  have hkz : k < z.states.l.length := by omega
  have hsr : StateR c (stAt z.er k) := hok.right _ (by rw [← stAt_get (f := z.er) hkz]; exact List.getElem_mem _)
  obtain ⟨s, hsd⟩ : ∃ s, stAt z.er k = s := ⟨_, rfl⟩
  rw [hsd] at hsr
  have hn6 := hsr.2.2.1
  refine loopC s.stacks.length (fun t us w' => us = [.int .i64 (t : Int)] ∧ ∃ (z' : DTrail) (hi' : Nat), Ext w3 w' ∧ VarI w3.heap.size hi' w' g z' ∧ g < hi' ∧ hi' ≤ w'.heap.size ∧ TrOk c M z'.er ∧ k < z'.states.l.length ∧ stAt z'.er k = s ∧
      rowGo c M k s.stacks.length 0 z.er = rowGo c M k (s.stacks.length - t) t z'.er) 0 (by omega)
    ⟨rfl, z, hi, hx10, hv10, hgh, hhi, hok, hkz, hsd, rfl⟩ ?_
  rintro t mt u7 w11 htm ⟨hu7, z', hi', hx11, hv11, hgh', hhi', hok', hkz', hsd', hrow⟩
  simp only [List.map_cons, List.map_nil, List.cons.injEq, and_true] at hu7
  rw [hu7]
  have hst' := at_rv (at_DTrail_0 hv11.at)
  refine ⟨rfl, ?_⟩
  refine rd_fld fd89_0 ?_
  refine rd_loadV ty45 (at_DTrail_0 hv11.at) (Ext.refl _) ?_
  refine rd_indexN u45 ty32 hst' hkz' fun b27 o27 h27 => ?_
  replace h27 : At w11 b27 o27 s := by rw [← hsd', ← stAt_get (f := z'.er) hkz']; exact h27
  refine rd_fld fd32_2 ?_
  refine rd_load ty27 (at_DState_2 h27) (Ext.refl _) fun v29 h29 => ?_
  refine rd_len u27 h29 ?_
  refine rd_lss ?_
  refine br (fun htl => ?_) (fun htg => ?_)
  case refine_2 =>
    have ht : t = s.stacks.length := by omega
    subst ht
    rw [Nat.sub_self, rowGo] at hrow
    rw [← hsd] at hrow
    refine rd_inc (by omega) ?_
    refine ⟨mk - 1, by omega, k + 1, by omega, rfl, z', hi', hx11, hv11, hgh', hhi', hok', by omega, ?_⟩
    rw [← hlook, show M - k = (M - (k + 1)) + 1 by omega, lookGo_next (f := z.er) hkz hrow]
  have htn : t < s.stacks.length := by omega
  have hq : s.stacks.length - t = (s.stacks.length - (t + 1)) + 1 := by omega
  have hx12 := ext_drew w11
  have hs12 := hx12.size
  refine rd_load ty37 hA (hx3.trans (hx11.trans hx12)) fun v34 h34 => ?_
  refine ⟨rfl, ?_⟩
  refine rd_fld fd89_0 ?_
  refine rd_loadV ty45 (at_DTrail_0 hv11.at) hx12 ?_
  refine rd_indexN u45 ty32 hst' hkz' fun b38 o38 h38 => ?_
  replace h38 : At w11 b38 o38 s := by rw [← hsd', ← stAt_get (f := z'.er) hkz']; exact h38
  refine rd_load ty32 h38 hx12 fun v39 h39 => ?_
  refine (l21Go_ok h34 (hx3.trans (hx11.trans hx12)) h39 hx12 hc hsr).mono ?_
  rintro _ w13 ⟨hx13, rfl⟩
  have hs13 := hx13.size
  refine rd_nodec ?_
  refine br (fun hng => ?_) (fun hg => ?_)
  · refine rd_inc (by omega) ?_
    refine ⟨mt - 1, by omega, t + 1, by omega, rfl, z', hi', hx11.trans (hx12.trans hx13), hv11.ext (hx12.trans hx13), hgh', by omega, hok', hkz', hsd', ?_⟩
    rw [hrow, hq, rowGo_go (visit_no (f := z'.er) (by rw [hsd']; exact hng))]
  have hgo : GoR c s t := Decidable.not_not.1 hg
  have hx14 := ext_drew w13
  have hs14 := hx14.size
  have hxx : Ext w11 (World.drew1 w13) := hx12.trans (hx13.trans hx14)
  generalize World.drew1 w13 = w14 at *
  refine PAR.mk (slQ c z' g k t w14) ?_ ?_ ?_
  · intro i u u' T T' wa wb hxa hxb hd hq
    match i, hd, hq with
    | 0, hd, hq => have := (hd (0, 51) (by decide)).1; show Is _ (u' 51) _; simp only [this]; exact hq
    | 1, hd, hq => exact (hd (1, 52) (by decide)).1.trans hq
    | 2, hd, hq => exact (hd (2, 53) (by decide)).1.trans hq
    | 3, hd, hq => exact (hd (3, 54) (by decide)).1.trans hq
    | 4, hd, hq => exact (hd (4, 55) (by decide)).1.trans hq
    | 5, hd, hq => exact (hd (5, 56) (by decide)).1.trans hq
    | 6, hd, ⟨b, o, q1, q2⟩ => exact ⟨b, o, (hd (6, 57) (by decide)).1.trans q1, q2⟩
    | 7, hd, hq => have := (hd (7, 58) (by decide)).1; show Is _ (u' 58) _; simp only [this]; exact hq
    | 8, hd, hq => exact (hd (8, 59) (by decide)).1.trans hq
    | 9, hd, hq =>
      obtain ⟨e1, e2⟩ := hd (9, 60) (by decide)
      simp only at e1 e2
      show OwnI (T' 9).1 (T' 9).2 wb (u' 60) _
      rw [e1, e2]; exact OwnI.ext hq hxb
    | 10, hd, ⟨gg, q1, q2, q3, q4⟩ =>
      obtain ⟨e1, e2⟩ := hd (10, 8) (by decide)
      simp only at e1 e2
      exact ⟨gg, e1.trans q1, by rw [e2]; exact q2, by rw [e2]; exact q3, q4.ext hxb⟩
    | n + 11, _, _ => trivial
  · refine ⟨fun u T w' hx _ _ => ?_, fun u T w' hx _ _ => ?_, fun u T w' hx _ hp => ?_, fun u T w' hx _ hp => ?_, fun u T w' hx _ hp => ?_, fun u T w' hx _ _ => ?_, fun u T w' hx _ hp => ?_, fun u T w' hx _ hp => ?_, fun u T w' hx _ _ => ?_, fun u T w' hx _ hp => ?_, fun u T w' hx _ _ => ?_, trivial⟩
    · exact rd_load ty37 hA (hx3.trans (hx11.trans (hxx.trans hx))) fun v h => ⟨Ext.refl _, h.ext (hx3.trans (hx11.trans hxx))⟩
    · exact ⟨Ext.refl _, rfl⟩
    · have q0 : u 52 = _ := hp.1
      rw [q0]
      exact ⟨rfl, Ext.refl _, rfl⟩
    · have q0 : u 53 = _ := hp.1
      rw [q0]
      exact rd_fld fd89_0 ⟨Ext.refl _, rfl⟩
    · have q0 : u 54 = _ := hp.1
      rw [q0]
      exact rd_loadV ty45 (at_DTrail_0 hv11.at) (hxx.trans hx) ⟨Ext.refl _, rfl⟩
    · exact ⟨Ext.refl _, rfl⟩
    · have q0 : u 55 = _ := hp.1
      have q1 : u 56 = _ := hp.2.1
      rw [q0, q1]
      refine rd_indexN u45 ty32 hst' hkz' fun b o h => ⟨Ext.refl _, b, o, rfl, ?_⟩
      rw [← stAt_get (f := z'.er) hkz']
      exact h.ext hxx
    · obtain ⟨b, o, q0, q1⟩ : ∃ b o, u 57 = .pointer (some ⟨b, o, none⟩) ∧ At w14 b o (stAt z'.er k) := hp.1
      rw [q0]
      exact rd_load ty32 q1 hx fun v h => ⟨Ext.refl _, h⟩
    · exact ⟨Ext.refl _, rfl⟩
    · have q0 : Is w14 (u 51) c := hp.1
      have q1 : Is w14 (u 58) (stAt z'.er k) := hp.2.1
      have q2 : u 59 = _ := hp.2.2.1
      rw [q2]
      have := l21Step_ok q0 hx q1 hx hc (by rw [hsd']; exact hsr) (by rw [hsd']; exact hgo)
      exact this.mono fun r w5 ⟨hx5, ho⟩ => ⟨hx5, ho.toI⟩
    · exact op_alloc zlSt fun w5 hx5 hB => ⟨hx5, w'.heap.size, rfl, Nat.le_refl _, hB.lt, hB⟩
  rintro u10 T w15 hx15 hap ⟨-, -, -, -, -, -, -, -, -, o50, ⟨gg, q8, hgg0, hgg1, hB15⟩, -⟩
  have o50 : OwnI (T 9).1 (T 9).2 w15 (u10 60) (stepD c (stAt z'.er k) t) := o50
  rw [hsd'] at o50
  have t7 := hap.1 9 (by decide)
  have t8 := hap.1 10 (by decide)
  have d78 := hap.2 9 (by decide) 10 (by decide) (by decide)
  have hs15 := hx15.size
  have hsxx := hxx.size
  generalize u10 60 = v50 at *
  rw [q8]
  obtain ⟨ga, gb, gc, hge⟩ := agg3S o50
  subst hge
  refine opu_blkS ty32 rfl hB15 rfl o50 fun w16 hc16 hB16 => ?_
  have hs16 := hc16.size
  have hxe := ext_drew w16
  have hse := hxe.size
  have hx16 : Ext w11 (World.drew1 w16) := (Ext.chgI (hxx.trans hx15) hc16 (by omega)).trans hxe
  have o16 := (o50.chg hc16 (by omega)).ext hxe
  have hB16 := hB16.ext hxe
  have hv16 := hv11.ext hx16
  generalize World.drew1 w16 = w16d at *
  refine ⟨rfl, ?_⟩
  refine rd_fld fd89_0 ?_
  refine rd_loadV ty45 (at_DTrail_0 hv16.at) (Ext.refl _) ?_
  have hst16 := at_rv (at_DTrail_0 hv16.at)
  refine rd_blkS hB16 ty32 ?_
  refine (l23At_ok hst16 (Ext.refl _) o16.is (Ext.refl _)).mono ?_
  rintro _ w17 ⟨hx17, rfl⟩
  have hs17 := hx17.size
  refine rd_geq ?_
  refine br (fun hold => ?_) (fun hnew => ?_)
  · refine rd_inc (by omega) ?_
    refine ⟨mt - 1, by omega, t + 1, by omega, rfl, z', hi', hx11.trans (hx16.trans hx17), hv16.ext hx17, hgh', by omega, hok', hkz', hsd', ?_⟩
    rw [hrow, hq, rowGo_go (visit_old (f := z'.er) (by rw [hsd']; exact hgo) (by rw [hsd']; exact plcG_iff.1 hold))]
  have hno : stepD c (stAt z'.er k) t ∉ z'.er.states := fun h => hnew (by rw [hsd'] at h; exact plcG_iff.2 h)
  have hgo' : GoR c (stAt z'.er k) t := by rw [hsd']; exact hgo
  have hv17 := hv16.ext hx17
  refine ⟨rfl, ?_⟩
  refine rd_fld fd89_0 ?_
  refine rd_loadV ty45 (at_DTrail_0 hv17.at) (Ext.refl _) ?_
  have hst17 := at_rv (at_DTrail_0 hv17.at)
  refine rd_len u45 hst17 ?_
  refine rd_eql ?_
  refine br (fun hfull => ?_) (fun hroom => ?_)
  · have hfull' : z'.er.states.length = M := by show z'.states.l.length = M; omega
    refine ⟨rfl, ?_⟩
    refine rd_fld fd89_3 ?_
    obtain ⟨F, hO, hF⟩ := hv17
    obtain ⟨G, hL⟩ := lens_DTrail_3 (Lens.var hO)
    refine opu_varM ty4 hL (lo := w3.heap.size) (hi := w17.heap.size) (fun b hb => by have := hF b hb; omega) (by have := hx11.size; omega) mine_bool fun w18 hc18 hv18 => ?_
    have hs18 := hc18.size
    have := hx11.size
    refine ⟨hx1.trans (hx3.trans (Ext.chgI (hx11.trans (hx16.trans hx17)) hc18 (Nat.le_refl _))), g, _, rfl, by omega, hv18.mono (by omega) (by omega), ?_, hok'.not⟩
    have hvis := visit_full (M := M) hgo' hno hfull'
    rw [← hlook, show M - k = (M - (k + 1)) + 1 by omega, lookGo_stop (f := z.er) hkz (by rw [hsd, hrow, hq, rowGo_stop (by rw [hvis]), hvis])]
    rfl
  have hroom' : ¬ z'.er.states.length = M := by show ¬ z'.states.l.length = M; omega
  have hle' : z'.states.l.length ≤ M := hok'.many.2
  have hla' : z'.ahead.l.length = z'.states.l.length := hok'.la
  have hlw' : z'.went.l.length = z'.states.l.length := hok'.lw
  have hB17 := (hB16.ext hx17).ext (ext_drew w17)
  have hxd := ext_drew w17
  have hsd17 := hxd.size
  have hxpd := hx16.trans (hx17.trans hxd)
  generalize World.drew1 w17 = w17d at *
  have hs11 := hx11.size
  refine ⟨fun b => w3.heap.size ≤ b ∧ b < hi' ∧ b ≠ g, ?_⟩
  refine ⟨rfl, ?_⟩
  refine rdx_fld fd89_0 ?_
  refine rdx_cell ty45 (at_rvr (at_DTrail_0 (hv11.ext hxpd).at)) (fun h => h.2.2 rfl) ?_
  refine rdx_blkS hB17 ty32 (fun h => by have := h.2.1; omega) ?_
  refine op_pushF (β := DState) u45 ty32 z32 zc32 (by decide) ty45 hv11 ⟨by omega, hgh'⟩ hxpd (fun hO => lens_DTrail_0 (Lens.var hO)) ((o16.ext hx17).ext hxd) (by omega) (by omega) (by omega) (by rw [maxLen_eq]; omega) (by omega) (fun v67 w18 hc18 hv18 => ?_) fun a w1' hxa hop => ⟨hxa.toX, hop.mono fun r w2' hr => ⟨hr.1, rfl, rdx_fld fd89_0 hr.2⟩⟩
  have hs18 := hc18.size
  refine ⟨rfl, ?_⟩
  refine rd_fld fd89_1 ?_
  refine rd_loadV ty23 (at_DTrail_1 hv18.at) (Ext.refl _) ?_
  refine op_pushF (β := Int) (lo2 := w18.heap.size) (hi2 := w18.heap.size) u23 ty3 z3 zc3 (by decide) ty23 hv18 ⟨by omega, by omega⟩ (Ext.refl _) (fun hO => lens_DTrail_1 (Lens.var hO)) (ownI_int (x := (k : Int)) (by unfold I64; omega)) (by omega) (by omega) (by omega) (by rw [maxLen_eq]; show z'.ahead.l.length + 1 ≤ _; omega) (by show (z'.ahead.l.length + 1) * _ ≤ _; omega) (fun v73 w19 hc19 hv19 => ?_) fun a w1' hxa hop => hop.mono fun r w2' hr => ⟨rfl, rd_fld fd89_1 hr.2⟩
  have hs19 := hc19.size
  refine ⟨rfl, ?_⟩
  refine rd_fld fd89_2 ?_
  refine rd_loadV ty23 (at_DTrail_2 hv19.at) (Ext.refl _) ?_
  refine op_pushF (β := Int) (lo2 := w19.heap.size) (hi2 := w19.heap.size) u23 ty3 z3 zc3 (by decide) ty23 hv19 ⟨by omega, by omega⟩ (Ext.refl _) (fun hO => lens_DTrail_2 (Lens.var hO)) (ownI_int (x := (t : Int)) (by unfold I64; omega)) (by omega) (by omega) (by omega) (by rw [maxLen_eq]; show z'.went.l.length + 1 ≤ _; omega) (by show (z'.went.l.length + 1) * _ ≤ _; omega) (fun v79 w20 hc20 hv20 => ?_) fun a w1' hxa hop => hop.mono fun r w2' hr => ⟨rfl, rd_fld fd89_2 hr.2⟩
  have hs20 := hc20.size
  refine rd_inc (by omega) ?_
  have hpush := hok'.push hc hkz' hgo' (by omega) hroom'
  have hvis := visit_new (M := M) hgo' hno hroom'
  rw [hsd'] at hpush hvis
  refine ⟨mt - 1, by omega, t + 1, by omega, rfl, _, w20.heap.size, Ext.chgI (Ext.chgI (Ext.chgI hx11 hc18 (Nat.le_refl _)) hc19 (Nat.le_refl _)) hc20 (Nat.le_refl _), hv20, by omega, Nat.le_refl _, hpush, by show k < (z'.states.l ++ [_]).length; simp; omega, ?_, ?_⟩
  · exact (stAt_push (f := z'.er) hkz').trans hsd'
  · rw [hrow, hq, rowGo_go hvis]; rfl
end Go.Proofs.YteephmhilnlkpaaGreat
