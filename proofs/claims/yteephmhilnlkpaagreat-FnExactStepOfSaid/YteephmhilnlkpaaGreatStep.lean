/-
  One step of a thread that can go: the program's and the reference's.
-/
import Derived.Test.YteephmhilnlkpaaGreatGo
import Derived.Test.YteephmhilnlkpaaGreatCopy
import Derived.Test.YteephmhilnlkpaaGreatLv
import Derived.Test.YteephmhilnlkpaaGreatWork
namespace Go.Proofs.YteephmhilnlkpaaGreat
open Go Go.Sh Go.Proofs
set_option linter.unusedVariables false
/-- impl.stepped -/
def F74 (a0 a1 a2 : Value) (w : World) (R : Value → World → Prop) : Prop :=
  OP Tryz.prog (Instr.box 37 a0) w fun x3 w =>
  OP Tryz.prog (Instr.box 32 a1) w fun x4 w =>
  OP Tryz.prog (Instr.alloc 32 true (.tuple #[])) w fun x6 w =>
  RD Tryz.prog (Instr.loadAt 32 x4) w fun x12 =>
  CALL Tryz.prog 73 [x12] w fun x13 w =>
  OP Tryz.prog (Instr.alloc 32 true (.tuple #[])) w fun x7 w =>
  OPU Tryz.prog (Instr.storeAt 32 x7 x13) w fun w =>
  RD Tryz.prog (Instr.fieldAt 32 x7 2) w fun x14 =>
  RD Tryz.prog (Instr.loadAt 27 x14) w fun x15 =>
  RD Tryz.prog (Instr.indexAt 27 x15 a2) w fun x17 =>
  RD Tryz.prog (Instr.loadAt 23 x17) w fun x18 =>
  RD Tryz.prog (Builtin.len_ #[23] 3 [x18].toArray) w fun x20 =>
  RD Tryz.prog (bin .sub 3 (.tmp 0) (.const undef) x20 (Value.int .i64 1)) w fun x21 =>
  (fun w => RD Tryz.prog (Instr.fieldAt 37 x3 4) w fun x22 =>
  RD Tryz.prog (Instr.loadAt 35 x22) w fun x23 =>
  RD Tryz.prog (Instr.indexAt 23 x18 x21) w fun x26 =>
  RD Tryz.prog (Instr.loadAt 3 x26) w fun x27 =>
  RD Tryz.prog (Instr.indexAt 35 x23 x27) w fun x28 =>
  RD Tryz.prog (Instr.loadAt 135 x28) w fun x29 =>
  (fun w_ => OP Tryz.prog (Instr.alloc 135 true (.tuple #[])) w_ fun x10 w =>
  Ext w_ w ∧
  OPU Tryz.prog (Instr.storeAt 135 x10 x29) w fun w =>
  RD Tryz.prog (Instr.indexAt 23 x18 x21) w fun x32 =>
  RD Tryz.prog (Instr.loadAt 3 x32) w fun x33 =>
  RD Tryz.prog (bin .add 3 (.tmp 0) (.const undef) x33 (Value.int .i64 1)) w fun x34 =>
  JOIN [11] (fun J30 =>
   RD Tryz.prog (Instr.fieldAt 135 x10 0) w fun x35 =>
   RD Tryz.prog (Instr.loadAt 3 x35) w fun x36 =>
   RD Tryz.prog (bin .eql 3 (.tmp 0) (.const undef) x36 (Value.int .i64 1)) w fun x38 =>
   BR x38
    ((fun w => RD Tryz.prog (Instr.fieldAt 32 x7 0) w fun x39 =>
    RD Tryz.prog (Instr.loadAt 23 x39) w fun x40 =>
    RD Tryz.prog (Instr.fieldAt 135 x10 1) w fun x41 =>
    RD Tryz.prog (Instr.loadAt 3 x41) w fun x42 =>
    RD Tryz.prog (Instr.fieldAt 135 x10 2) w fun x43 =>
    RD Tryz.prog (Instr.loadAt 133 x43) w fun x44 =>
    RD Tryz.prog (Instr.fieldAt 37 x3 0) w fun x45 =>
    RD Tryz.prog (Instr.loadAt 22 x45) w fun x46 =>
    RD Tryz.prog (Instr.fieldAt 32 x4 0) w fun x47 =>
    RD Tryz.prog (Instr.loadAt 23 x47) w fun x48 =>
    (fun w_ => CALL Tryz.prog 127 [x44, x46, x48] w_ fun x49 w =>
    Ext w_ w ∧
    RD Tryz.prog (Instr.indexAt 23 x40 x42) w fun x50 =>
    OPU Tryz.prog (Instr.storeAt 3 x50 x49) w fun w =>
    J30 [x34] w) w) (World.drew1 w))
    (RD Tryz.prog (bin .eql 3 (.tmp 0) (.const undef) x36 (Value.int .i64 2)) w fun x52 =>
    BR x52
     (RD Tryz.prog (Instr.fieldAt 135 x10 2) w fun x53 =>
     RD Tryz.prog (Instr.loadAt 133 x53) w fun x54 =>
     RD Tryz.prog (Instr.fieldAt 37 x3 0) w fun x55 =>
     RD Tryz.prog (Instr.loadAt 22 x55) w fun x56 =>
     RD Tryz.prog (Instr.fieldAt 32 x4 0) w fun x57 =>
     RD Tryz.prog (Instr.loadAt 23 x57) w fun x58 =>
     CALL Tryz.prog 127 [x54, x56, x58] w fun x59 w =>
     RD Tryz.prog (bin .eql 3 (.tmp 0) (.const undef) x59 (Value.int .i64 0)) w fun x60 =>
     BR x60
      (RD Tryz.prog (Instr.fieldAt 135 x10 3) w fun x61 =>
      RD Tryz.prog (Instr.loadAt 3 x61) w fun x62 =>
      J30 [x62] w)
      (J30 [x34] w))
     (RD Tryz.prog (bin .eql 3 (.tmp 0) (.const undef) x36 (Value.int .i64 3)) w fun x64 =>
     BR x64
      (RD Tryz.prog (Instr.fieldAt 135 x10 3) w fun x65 =>
      RD Tryz.prog (Instr.loadAt 3 x65) w fun x66 =>
      J30 [x66] w)
      (RD Tryz.prog (bin .eql 3 (.tmp 0) (.const undef) x36 (Value.int .i64 4)) w fun x68 =>
      BR x68
       ((fun w => XR fun X => RDX Tryz.prog X (Instr.fieldAt 32 x7 2) w fun x69 =>
       RDX Tryz.prog X (Instr.loadAt 27 x69) w fun x70 =>
       RDX Tryz.prog X (Instr.fieldAt 37 x3 3) w fun x73 =>
       RDX Tryz.prog X (Instr.loadAt 23 x73) w fun x74 =>
       RDX Tryz.prog X (Instr.fieldAt 135 x10 1) w fun x75 =>
       RDX Tryz.prog X (Instr.loadAt 3 x75) w fun x76 =>
       RDX Tryz.prog X (Instr.indexAt 23 x74 x76) w fun x77 =>
       RDX Tryz.prog X (Instr.loadAt 3 x77) w fun x78 =>
       (fun w_ => OP Tryz.prog (Instr.buildSlice 23 1 #[(0, x78)]) w_ fun x79 w =>
       ExtX X w_ w ∧
       (fun w_ => OP Tryz.prog (Builtin.append_ #[23, 23] 23 [x18, x79].toArray) w_ fun x80 w =>
       ExtX X w_ w ∧
       RDX Tryz.prog X (Instr.indexAt 27 x70 a2) w fun x81 =>
       OPU Tryz.prog (Instr.storeAt 23 x81 x80) w fun w =>
       RD Tryz.prog (Instr.loadAt 32 x7) w fun x82 =>
       OPU Tryz.prog (Instr.storeAt 32 x6 x82) w fun w =>
       RD Tryz.prog (loadRes 32 x6) w fun r6 => R r6 w) w) w) (World.drew1 w))
       (RD Tryz.prog (bin .eql 3 (.tmp 0) (.const undef) x36 (Value.int .i64 5)) w fun x84 =>
       BR x84
        (RD Tryz.prog (Instr.fieldAt 32 x7 2) w fun x85 =>
        RD Tryz.prog (Instr.loadAt 27 x85) w fun x86 =>
        RD Tryz.prog (Builtin.len_ #[27] 3 [x86].toArray) w fun x87 =>
        RD Tryz.prog (bin .lss 3 (.tmp 0) (.const undef) x87 (Value.int .i64 6)) w fun x88 =>
        BR x88
         ((fun w => RD Tryz.prog (Instr.fieldAt 32 x7 2) w fun x89 =>
         RD Tryz.prog (Instr.loadAt 27 x89) w fun x90 =>
         RD Tryz.prog (Instr.fieldAt 37 x3 3) w fun x91 =>
         RD Tryz.prog (Instr.loadAt 23 x91) w fun x92 =>
         RD Tryz.prog (Instr.fieldAt 135 x10 1) w fun x93 =>
         RD Tryz.prog (Instr.loadAt 3 x93) w fun x94 =>
         RD Tryz.prog (Instr.indexAt 23 x92 x94) w fun x95 =>
         RD Tryz.prog (Instr.loadAt 3 x95) w fun x96 =>
         (fun w_ => OP Tryz.prog (Instr.buildSlice 23 1 #[(0, x96)]) w_ fun x97 w =>
         Ext w_ w ∧
         (fun w_ => OP Tryz.prog (Instr.buildSlice 27 1 #[(0, x97)]) w_ fun x98 w =>
         Ext w_ w ∧
         OP Tryz.prog (Builtin.append_ #[27, 27] 27 [x90, x98].toArray) w fun x99 w =>
         RD Tryz.prog (Instr.fieldAt 32 x7 2) w fun x100 =>
         OPU Tryz.prog (Instr.storeAt 27 x100 x99) w fun w =>
         J30 [x34] w) w) w) (World.drew1 w))
         (J30 [x34] w))
        (RD Tryz.prog (bin .eql 3 (.tmp 0) (.const undef) x36 (Value.int .i64 6)) w fun x102 =>
        BR x102
         (RD Tryz.prog (Instr.fieldAt 32 x7 1) w fun x103 =>
         RD Tryz.prog (Instr.loadAt 23 x103) w fun x104 =>
         RD Tryz.prog (Instr.fieldAt 135 x10 1) w fun x105 =>
         RD Tryz.prog (Instr.loadAt 3 x105) w fun x106 =>
         RD Tryz.prog (Instr.indexAt 23 x104 x106) w fun x108 =>
         OPU Tryz.prog (Instr.storeAt 3 x108 a2) w fun w =>
         J30 [x34] w)
         (RD Tryz.prog (bin .eql 3 (.tmp 0) (.const undef) x36 (Value.int .i64 7)) w fun x110 =>
         BR x110
          (RD Tryz.prog (Instr.fieldAt 32 x7 1) w fun x111 =>
          RD Tryz.prog (Instr.loadAt 23 x111) w fun x112 =>
          RD Tryz.prog (Instr.fieldAt 135 x10 1) w fun x113 =>
          RD Tryz.prog (Instr.loadAt 3 x113) w fun x114 =>
          RD Tryz.prog (Instr.indexAt 23 x112 x114) w fun x115 =>
          RD Tryz.prog (Instr.loadAt 3 x115) w fun x116 =>
          RD Tryz.prog (bin .eql 3 (.tmp 0) (.tmp 0) x116 a2) w fun x118 =>
          BR x118
           (RD Tryz.prog (Instr.fieldAt 32 x7 1) w fun x119 =>
           RD Tryz.prog (Instr.loadAt 23 x119) w fun x120 =>
           RD Tryz.prog (Instr.fieldAt 135 x10 1) w fun x121 =>
           RD Tryz.prog (Instr.loadAt 3 x121) w fun x122 =>
           RD Tryz.prog (Instr.indexAt 23 x120 x122) w fun x123 =>
           OPU Tryz.prog (Instr.storeAt 3 x123 (Value.int .i64 (-1))) w fun w =>
           J30 [x34] w)
           (J30 [x34] w))
          (RD Tryz.prog (bin .eql 3 (.tmp 0) (.const undef) x36 (Value.int .i64 9)) w fun x125 =>
          BR x125
           ((fun w => RD Tryz.prog (Instr.fieldAt 32 x7 2) w fun x126 =>
           RD Tryz.prog (Instr.loadAt 27 x126) w fun x127 =>
           RD Tryz.prog (Instr.sliceAt 23 x18 none (some x21) (some x21)) w fun x132 =>
           RD Tryz.prog (Instr.indexAt 27 x127 a2) w fun x133 =>
           OPU Tryz.prog (Instr.storeAt 23 x133 x132) w fun w =>
           RD Tryz.prog (bin .gtr 3 (.tmp 0) (.const undef) x21 (Value.int .i64 0)) w fun x135 =>
           BR x135
            (RD Tryz.prog (bin .sub 3 (.tmp 0) (.const undef) x21 (Value.int .i64 1)) w fun x138 =>
            RD Tryz.prog (Instr.indexAt 23 x18 x138) w fun x139 =>
            RD Tryz.prog (Instr.loadAt 3 x139) w fun x140 =>
            RD Tryz.prog (bin .add 3 (.tmp 0) (.const undef) x140 (Value.int .i64 1)) w fun x141 =>
            RD Tryz.prog (Instr.indexAt 23 x18 x138) w fun x142 =>
            OPU Tryz.prog (Instr.storeAt 3 x142 x141) w fun w =>
            RD Tryz.prog (Instr.loadAt 32 x7) w fun x143 =>
            OPU Tryz.prog (Instr.storeAt 32 x6 x143) w fun w =>
            RD Tryz.prog (loadRes 32 x6) w fun r6 => R r6 w)
            (RD Tryz.prog (Instr.loadAt 32 x7) w fun x143 =>
            OPU Tryz.prog (Instr.storeAt 32 x6 x143) w fun w =>
            RD Tryz.prog (loadRes 32 x6) w fun r6 => R r6 w)) (World.drew1 w))
           (J30 [x34] w))))))))) (fun u30 w =>
   RD Tryz.prog (Instr.indexAt 23 x18 x21) w fun x147 =>
   OPU Tryz.prog (Instr.storeAt 3 x147 (u30 11)) w fun w =>
   RD Tryz.prog (Instr.loadAt 32 x7) w fun x148 =>
   OPU Tryz.prog (Instr.storeAt 32 x6 x148) w fun w =>
   RD Tryz.prog (loadRes 32 x6) w fun r6 => R r6 w)) w) (World.drew1 w)
def cfg74 : Cfg := { ext := extL, joins := [(30, 22300745198530623141535718272648327146244096, [11])], loops := [], draws := [(4, [0, 1, 2, 3, 4, 5, 6, 7, 8, 9], 256), (8, [0, 1, 2, 3, 4, 5, 6, 7, 8, 9, 10, 11, 12], 1024), (15, [0, 1, 2, 3, 4, 5, 6, 7, 8, 9, 10, 11, 12, 13], 3072), (19, [0, 1, 2, 3, 4, 5, 6, 7, 8, 9, 10, 11, 12], 768), (26, [0, 1, 2, 3, 4, 5, 6, 7, 8], 0)], pars := [], xs := [15] }
theorem F74_eq (a0 a1 a2 : Value) (w : World) (R : Value → World → Prop) : vcF Tryz.prog cfg74 Tryz.f74 [a0, a1, a2] w R = F74 a0 a1 a2 w R := by kernel_rfl
theorem F74_call {a0 a1 a2 : Value} {w : World} {R : Value → World → Prop} (h : F74 a0 a1 a2 w R) : CALL Tryz.prog 74 [a0, a1, a2] w R :=
  call_of (g := cfg74) ent mixed Tryz.func74 (Nat.le_of_ble_eq_true (by kernel_rfl)) (by kernel_rfl) (F74_eq a0 a1 a2 w R ▸ h)

set_option linter.unusedVariables false
set_option linter.unusedSimpArgs false

/-- the top of a thread's stack is set -/
def setTop (s : DState) (t : Int) (n : Int) : DState := ⟨s.vars, s.owner, s.stacks.set t.toNat ((stk s t).set ((stk s t).length - 1) n)⟩
/-- what the top turns to -/
def nextOf (c : DCode) (s : DState) (t : Int) : Int :=
  if (atI c s t).op = 2 then (if workT c.globals s.vars 6 (atI c s t).term = 0 then (atI c s t).to else atOf s t + 1) else if (atI c s t).op = 3 then (atI c s t).to else atOf s t + 1
/-- what turns but the stack -/
def restOf (c : DCode) (s : DState) (t : Int) : DState :=
  if (atI c s t).op = 1 then ⟨s.vars.set (atI c s t).arg.toNat (workT c.globals s.vars 6 (atI c s t).term), s.owner, s.stacks⟩
  else if (atI c s t).op = 5 then (if s.stacks.length < 6 then ⟨s.vars, s.owner, s.stacks ++ [[en c (atI c s t).arg.toNat]]⟩ else s)
  else if (atI c s t).op = 6 then ⟨s.vars, s.owner.set (atI c s t).arg.toNat t, s.stacks⟩
  else if (atI c s t).op = 7 then (if ow s (atI c s t).arg = t then ⟨s.vars, s.owner.set (atI c s t).arg.toNat (-1), s.stacks⟩ else s)
  else s
/-- the stack behind an end -/
def popped (l : List Int) : List Int := if l.length - 1 = 0 then [] else (l.take (l.length - 1)).set (l.length - 2) (st l (l.length - 2) + 1)
/-- one step of a thread that can go -/
def stepD (c : DCode) (s : DState) (t : Int) : DState :=
  if (atI c s t).op = 4 then ⟨s.vars, s.owner, s.stacks.set t.toNat (stk s t ++ [en c (atI c s t).arg.toNat])⟩
  else if (atI c s t).op = 9 then ⟨s.vars, s.owner, s.stacks.set t.toNat (popped (stk s t))⟩
  else ⟨(restOf c s t).vars, (restOf c s t).owner, (restOf c s t).stacks.set t.toNat ((stk s t).set ((stk s t).length - 1) (nextOf c s t))⟩
theorem ownI_er {lo hi : Nat} {w : World} {v : Value} {z : DStV} (h : OwnI lo hi w v z) : OwnI lo hi w v z.er := by
  obtain ⟨F, ⟨⟨cs, hr, hv⟩, hn, hw⟩, hF⟩ := h
  obtain ⟨F0, c0, F1, c1, F2, c2, rfl, rfl, h0, h1, h2⟩ := inv_DStV hr
  exact ⟨_, ⟨⟨_, rep_DState (x := z.er) h0 h1 (rep_er h2), hv⟩, hn, hw⟩, hF⟩
theorem agg3 {lo hi : Nat} {w : World} {v : Value} {z : DStV} (h : OwnI lo hi w v z) : ∃ a b, v = .agg #[a, b, z.stacks.v] := by
  obtain ⟨F, ⟨⟨cs, hr, rfl⟩, _⟩, _⟩ := h
  obtain ⟨F0, c0, F1, c1, F2, c2, rfl, rfl, ⟨_, _, _, _, rfl, _⟩, ⟨_, _, _, _, rfl, _⟩, ⟨rfl, _⟩⟩ := inv_DStV hr
  exact ⟨_, _, rfl⟩
theorem go_facts {c : DCode} {s : DState} {t : Int} (hs : StateR c s) (hg : 0 ≤ atOf s t) : ∃ tn : Nat, t = tn ∧ tn < s.stacks.length ∧ stk s t ≠ [] ∧ (stk s t).length ≤ 8 ∧ atOf s t = st (stk s t) ((stk s t).length - 1) := by
  obtain ⟨h0, h1⟩ := at_thread hg
  have h2 := at_stack h0 h1
  have hne : stk s t ≠ [] := fun e => by rw [h2, e] at hg; simp [List.getLastD] at hg
  have hm := hs.2.2.2.2.2 (stk s t) (by rw [← stk_get h1]; exact List.getElem_mem _)
  exact ⟨t.toNat, by omega, h1, hne, hm.1, by rw [h2, last_st hne]⟩
theorem stSz_of {c : DCode} {s : DState} (hc : CodeR c) (hs : StateR c s) : StSz s := by
  have h1 := hc.1.globals6
  have h2 := hc.1.locks6
  have h3 := hs.1
  have h4 := hs.2.1
  have h5 := hs.2.2.1
  exact ⟨by omega, by omega, by omega, fun x hx => by have := (hs.2.2.2.2.2 x hx).1; omega⟩
theorem rd_idxU {P : Program} {w : World} {t e : TypeId} {b a n cap sz by_ k : Nat} {ag : Bool} {u : Value} {K : Value → Prop} (ht : P.underlying t = some (.slice e)) (he : tyI P e = some (sz, by_, ag)) (hu : u = .slice (some ⟨b, a, none⟩) n cap) (hk : k < n) (kk : K (.pointer (some ⟨b, a + k * sz, none⟩))) :
    RD P (Instr.indexAt t u (.int .i64 (k : Int))) w K := by
  subst hu
  exact rd_of (fun w' _ => by rw [run_indexAt' ht he (by omega) (by omega)]; simp) kk
/-- an owner in a variable of one's own -/
theorem var_owner {lo hi g k : Nat} {w : World} {z : DStV} (h : VarI lo hi w g z) (hg : lo ≤ g ∧ g < hi) (hk : k < z.owner.length) : ∃ u b a cap, w.rangeAt g (0 + 1) [u] ∧ Is w u z.owner ∧ u = .slice (some ⟨b, a, none⟩) z.owner.length cap ∧
    ∀ w1, Ext w w1 → ∀ (val : Int), I64 val → ∀ K : World → Prop, (∀ w2, ChgI lo hi w1 w2 → VarI lo hi w2 g (⟨z.vars, z.owner.set k val, z.stacks⟩ : DStV) → K w2) → OPU Tryz.prog (Instr.storeAt 3 (.pointer (some ⟨b, a + k * 1, none⟩)) (.int .i64 val)) w1 K := by
  obtain ⟨F, hO, hF⟩ := h
  obtain ⟨G1, hL1⟩ := lens_DStV_1 (Lens.var hO)
  obtain ⟨u, b, a, cap, G2, hr, hIs, hu, hL2⟩ := hL1.elem hk
  exact ⟨u, b, a, cap, hr, hIs, hu, fun w1 hx val hI K kk => opu_varM ty3 (hL2.ext hx) hF hg (mine_int hI) kk⟩
/-- a number in a variable of one's own -/
theorem var_vars {lo hi g k : Nat} {w : World} {z : DStV} (h : VarI lo hi w g z) (hg : lo ≤ g ∧ g < hi) (hk : k < z.vars.length) : ∃ u b a cap, w.rangeAt g (0 + 0) [u] ∧ Is w u z.vars ∧ u = .slice (some ⟨b, a, none⟩) z.vars.length cap ∧
    ∀ w1, Ext w w1 → ∀ (val : Int), I64 val → ∀ K : World → Prop, (∀ w2, ChgI lo hi w1 w2 → VarI lo hi w2 g (⟨z.vars.set k val, z.owner, z.stacks⟩ : DStV) → K w2) → OPU Tryz.prog (Instr.storeAt 3 (.pointer (some ⟨b, a + k * 1, none⟩)) (.int .i64 val)) w1 K := by
  obtain ⟨F, hO, hF⟩ := h
  obtain ⟨G1, hL1⟩ := lens_DStV_0 (Lens.var hO)
  obtain ⟨u, b, a, cap, G2, hr, hIs, hu, hL2⟩ := hL1.elem hk
  exact ⟨u, b, a, cap, hr, hIs, hu, fun w1 hx val hI K kk => opu_varM ty3 (hL2.ext hx) hF hg (mine_int hI) kk⟩
theorem rangeAt_inj {w : World} {b o : Nat} {u u' : Value} (h : w.rangeAt b o [u]) (h' : w.rangeAt b o [u']) : u = u' := by
  have h1 := h 0 u rfl
  have h2 := h' 0 u' rfl
  rw [h1] at h2
  exact Option.some.inj h2
theorem oat_er {w : World} {F : List Nat} {g : Nat} {z : DStV} (h : OAt F w g 0 z) : OAt F w g 0 z.er := by
  obtain ⟨cs, hr, rest⟩ := h
  obtain ⟨F0, c0, F1, c1, F2, c2, rfl, rfl, h0, h1, h2⟩ := inv_DStV hr
  exact ⟨_, rep_DState (x := z.er) h0 h1 (rep_er h2), rest⟩
/-- s[:k:k] of a list of one's own -/
theorem rd_cut {P : Program} {w : World} {t e : TypeId} {by_ : Nat} {u : Value} {l : List Int} {G : List Nat} {k : Nat} {K : Value → Prop} (ht : P.underlying t = some (.slice e)) (he : tyI P e = some (1, by_, false)) (hm : Mine G w u l) (hk : k ≤ l.length) (hne : l ≠ [])
    (kk : ∀ b a cap v G', u = .slice (some ⟨b, a, none⟩) l.length cap → Mine G' w v (l.take k) → (∀ c ∈ G', c ∈ G) → (0 < k → v = .slice (some ⟨b, a, none⟩) k k) → K v) : RD P (Instr.sliceAt t u none (some (.int .i64 (k : Int))) (some (.int .i64 (k : Int)))) w K := by
  obtain ⟨⟨cs, ⟨a, cap, Fi, xs, rfl, h1, h2, hc, h4⟩, rfl⟩, hn, hw⟩ := hm
  rcases h4 with ⟨h4, _⟩ | ⟨b, o, rfl, rfl, hr, hb⟩
  · exact absurd h4 hne
  have hFi := Cells.flat (xs := xs) hc
  subst hFi
  have hbd : ∀ w', (Instr.sliceBounds true l.length cap none (some (.int .i64 (k : Int))) (some (.int .i64 (k : Int)))).run P w' = .ok (0, k, k) w' := fun w' => by
    have h5 : (k : Int) ≤ (cap : Int) := by omega
    simp [Instr.sliceBounds, Instr.sliceBound, asIntOf, h5]
  have e0 : l = l.take k ++ l.drop k := by simp
  have hc' := hc
  rw [e0] at hc'
  obtain ⟨F1, F2, x1, x2, hFF, rfl, c1, c2⟩ := Cells.split hc'
  obtain ⟨rfl, rfl⟩ := List.append_eq_nil_iff.1 hFF.symm
  have hlk : (l.take k).length = k := by simp; omega
  have hval : ∃ v : Value, (∀ w', (Instr.sliceAt t (.slice (some ⟨b, o, none⟩) l.length cap) none (some (.int .i64 (k : Int))) (some (.int .i64 (k : Int)))).run P w' = .ok v w') ∧ v = .slice (some ⟨b, o, none⟩) k k := by
    refine ⟨_, fun w' => ?_, rfl⟩
    simp only [Instr.sliceAt, Instr.slice, Sem.run_bind, run_underlying ht, Result.andThen_ok, hbd, run_sizeOf' he]
    simp [Addr.add_mid]
  obtain ⟨v, hrun, rfl⟩ := hval
  refine rd_of (fun w' _ => hrun w') ?_
  by_cases h0 : k = 0
  · subst h0
    refine kk b o cap _ [] rfl ?_ (by simp) (fun h => by omega)
    have : l.take 0 = [] := by simp
    rw [this]
    exact ⟨⟨_, ⟨some ⟨b, o, none⟩, 0, [], [], rfl, Nat.le_refl _, Nat.zero_le _, ⟨rfl, rfl⟩, .inl ⟨rfl, rfl⟩⟩, rfl⟩, List.nodup_nil, Wr.nil w⟩
  · refine kk b o cap _ [b] rfl ?_ (by simp) (fun _ => rfl)
    refine ⟨⟨_, ⟨some ⟨b, o, none⟩, k, [], x1, rfl, by rw [hlk]; exact Nat.le_refl _, by omega, c1, .inr ⟨b, o, rfl, rfl, (rangeAt_append hr).1, hb⟩⟩, by rw [hlk]; rfl⟩, by simp, hw.sub (by simp)⟩
theorem varI_er {lo hi g : Nat} {w : World} {z : DStV} (h : VarI lo hi w g z) : VarI lo hi w g z.er := by
  obtain ⟨F, h, hF⟩ := h; exact ⟨F, oat_er h, hF⟩
theorem agg3S {lo hi : Nat} {w : World} {v : Value} {z : DState} (h : OwnI lo hi w v z) : ∃ a b c, v = .agg #[a, b, c] := by
  obtain ⟨F, ⟨⟨cs, hr, rfl⟩, _⟩, _⟩ := h
  obtain ⟨F0, c0, F1, c1, F2, c2, rfl, rfl, ⟨_, _, _, _, rfl, _⟩, ⟨_, _, _, _, rfl, _⟩, ⟨_, _, _, _, rfl, _⟩⟩ := inv_DState hr
  exact ⟨_, _, _, rfl⟩
theorem set_arg {c : DCode} {s : DState} {t : Int} (hc : CodeR c) (hs : StateR c s) (h : 0 ≤ atOf s t) (ho : (atI c s t).op = 1) : 0 ≤ (atI c s t).arg ∧ (atI c s t).arg.toNat < s.vars.length := by
  have h1 := (atI_right hc hs h).2.1
  have h2 := hs.1
  unfold argMost at h1
  rw [if_pos ho] at h1
  omega
theorem proc_arg {c : DCode} {s : DState} {t : Int} (hc : CodeR c) (hs : StateR c s) (h : 0 ≤ atOf s t) (ho : (atI c s t).op = 4 ∨ (atI c s t).op = 5) : 0 ≤ (atI c s t).arg ∧ (atI c s t).arg.toNat < c.entry.length := by
  have h1 := (atI_right hc hs h).2.1
  have h2 := hc.2.1.1
  unfold argMost at h1
  rw [if_neg (by omega), if_pos ho] at h1
  omega
theorem stepped_ok {w W0 W1 : World} {v0 v1 : Value} {c : DCode} {s : DState} {t : Int} (h0 : Is W0 v0 c) (e0 : Ext W0 w) (h1 : Is W1 v1 s) (e1 : Ext W1 w) (hc : CodeR c) (hs : StateR c s) (hgo : GoR c s t) :
    CALL Tryz.prog 74 [v0, v1, .int .i64 t] w fun r w' => Ext w w' ∧ Own w.heap.size w' r (stepD c s t) := by
  obtain ⟨tn, rfl, htn, hne, hl8, hat⟩ := go_facts hs hgo.1
  have hatlt := at_lt hs tn
  have hat0 : 0 ≤ atOf s tn := hgo.1
  have hpos := List.length_pos_iff.2 hne
  refine F74_call ?_
  unfold F74
  refine op_box h0 e0 fun w1 hx1 hA1 => ?_
  refine op_box h1 (e1.trans hx1) fun w2 hx2 hA2 => ?_
  refine op_alloc zlSt fun w3 hx3 hB3 => ?_
  have hg3 := hB3.lt
  have hs1 := hx1.size
  have hs2 := hx2.size
  refine rd_load ty32 hA2 hx3 fun v12 h12 => ?_
  refine (copyState_ok h12 hx3 (stSz_of hc hs)).mono ?_
  rintro r13 w4 ⟨hx4, z, o13, hz⟩
  have hs4 := hx4.size
  refine op_varZ (α := DStV) zlSt fun w5 hx5 hv5 => ?_
  have hs5 := hx5.size
  have hg5 := hv5.lt
  refine opu_varA ty32 hv5 (o13.ext hx5) (by omega) fun w6 hc6 hv6 => ?_
  have hs6 := hc6.size
  have hx36 : Ext w3 w6 := Ext.chgI (hx4.trans hx5) hc6 (by omega)
  have hzl : z.stacks.l.map RV.l = s.stacks := congrArg DState.stacks hz
  have hzn : tn < z.stacks.l.length := by have := congrArg List.length hzl; simp at this; omega
  refine rd_fld fd32_2 ?_
  refine rd_load (α := RIntss) ty27 (at_DStV_2 hv6.at) (Ext.refl w6) fun v15 k15 => ?_
  obtain ⟨rfl, h15⟩ := is_rv k15
  refine rd_indexN (α := RInts) u27 ty23 h15 hzn fun b17 o17 hA17 => ?_
  refine rd_load (α := RInts) ty23 hA17 (Ext.refl w6) fun v18 k18 => ?_
  obtain ⟨rfl, h18⟩ := is_rv k18
  obtain ⟨x, hx⟩ : ∃ x, x = z.stacks.l[tn] := ⟨_, rfl⟩
  have hxl : x.l = stk s tn := by
    have e1 : (z.stacks.l.map RV.l)[tn]? = s.stacks[tn]? := by rw [hzl]
    rw [List.getElem?_map, List.getElem?_eq_getElem hzn, List.getElem?_eq_getElem htn] at e1
    have e2 := Option.some.inj e1
    rw [hx, e2]
    exact stk_get (t := (tn : Int)) (by simpa using htn)
  rw [← hx] at h18 ⊢
  refine rd_len u23 h18 ?_
  refine rd_sub (by unfold I64; rw [hxl]; omega) ?_
  obtain ⟨top, htop⟩ : ∃ top : Nat, (x.l.length : Int) - 1 = top := ⟨x.l.length - 1, by rw [hxl]; omega⟩
  have htl : top < x.l.length := by omega
  rw [htop]
  have hx7 := ext_drew w6
  have hs7 := hx7.size
  have hx16 : Ext w1 w6 := hx2.trans (hx3.trans hx36)
  have hx26 : Ext w2 w6 := hx3.trans hx36
  refine rd_fld fd37_4 ?_
  refine rd_load ty35 (at_DCode_4 hA1) (hx16.trans hx7) fun v23 h23 => ?_
  refine rd_indexN u23 ty3 h18 htl fun b26 o26 hA26 => ?_
  have hget : x.l[top] = atOf s tn := by
    rw [st_get, hat, hxl]
    congr 1
    rw [hxl] at htop; omega
  rw [hget] at hA26
  refine rd_loadI ty3 hA26 hx7 fun hI27 => ?_
  refine rd_index u35 ty135 h23 hgo.1 (by omega) fun b28 o28 hA28 => ?_
  rw [insAt_get] at hA28
  refine rd_load ty135 hA28 (hx16.trans hx7) fun v29 h29 => ?_
  refine op_varX zl135 rfl ty135 rfl h29 (hx16.trans hx7) fun w8 hx8 hA10 hV10 => ?_
  have hs8 := hx8.size
  refine rd_indexN u23 ty3 h18 htl fun b32 o32 hA32 => ?_
  rw [hget] at hA32
  refine rd_loadI ty3 hA32 (hx7.trans hx8) fun hI33 => ?_
  have hins := hc.f.ins
  refine rd_add (by unfold I64; omega) ?_
  have hR := atI_right hc hs hgo.1
  obtain ⟨I, hI⟩ : ∃ I, I = atI c s tn := ⟨_, rfl⟩
  have hA10 : At w8 (World.drew1 w6).heap.size 0 I := by rw [hI]; exact hA10
  have hx68 := hx7.trans hx8
  have hv8 : VarI w3.heap.size w8.heap.size w8 w4.heap.size z := (hv6.ext hx68).mono (Nat.le_refl _) (by omega)
  have hx38 : Ext w3 w8 := hx36.trans hx68
  have hres : ∀ (zz : DState) (w9 : World), Ext w3 w9 → VarI w3.heap.size w9.heap.size w9 w4.heap.size zz → zz = stepD c s tn →
      RD Tryz.prog (Instr.loadAt 32 (.pointer (some ⟨w4.heap.size, 0, none⟩))) w9 fun x148 => OPU Tryz.prog (Instr.storeAt 32 (.pointer (some ⟨w2.heap.size, 0, none⟩)) x148) w9 fun w' =>
        RD Tryz.prog (loadRes 32 (.pointer (some ⟨w2.heap.size, 0, none⟩))) w' fun r6 => Ext w w' ∧ Own w.heap.size w' r6 (stepD c s tn) := by
    intro zz w9 hx9 hv9 he
    have hs9 := hx9.size
    refine rd_varI ty32 hv9 (Ext.refl w9) fun v148 o148 => ?_
    obtain ⟨a, b, c', rfl⟩ := agg3S o148
    refine opu_blkS (α := DState) ty32 rfl (hB3.ext hx9) rfl o148 fun w10 hc10 hB10 => ?_
    refine rd_blkR hB10 ty32 ?_
    refine ⟨Ext.chgI (hx1.trans (hx2.trans (hx3.trans hx9))) hc10 (by omega), ?_⟩
    have := o148.chg hc10 (by omega)
    rw [he] at this
    exact this.own.mono (by omega)
  refine JOIN.mk (fun us w' => us = [.int .i64 (nextOf c s tn)] ∧ Ext w3 w' ∧ ∃ z' : DStV, VarI w3.heap.size w'.heap.size w' w4.heap.size z' ∧ z'.vars = (restOf c s tn).vars ∧ z'.owner = (restOf c s tn).owner ∧ z'.stacks.l.map RV.l = (restOf c s tn).stacks ∧ z'.stacks.l[tn]? = some x ∧ (I.op ≠ 4 ∧ I.op ≠ 9)) ?_ ?_
  · refine rd_fld fd135_0 ?_
    refine rd_loadI ty3 (at_DIns_0 hA10) (Ext.refl w8) fun _ => ?_
    have hzv : z.vars = s.vars := congrArg DState.vars hz
    have hzo : z.owner = s.owner := congrArg DState.owner hz
    have hzx : z.stacks.l[tn]? = some x := by rw [List.getElem?_eq_getElem hzn, hx]
    have same : ∀ w9, Ext w8 w9 → (I.op ≠ 1 ∧ I.op ≠ 4 ∧ I.op ≠ 5 ∧ I.op ≠ 6 ∧ I.op ≠ 7 ∧ I.op ≠ 9) → ∃ z' : DStV, VarI w3.heap.size w9.heap.size w9 w4.heap.size z' ∧ z'.vars = (restOf c s tn).vars ∧ z'.owner = (restOf c s tn).owner ∧ z'.stacks.l.map RV.l = (restOf c s tn).stacks ∧ z'.stacks.l[tn]? = some x ∧ (I.op ≠ 4 ∧ I.op ≠ 9) := by
      rintro w9 hx9 ⟨q1, q4, q5, q6, q7, q9⟩
      have he : restOf c s tn = s := by unfold restOf; rw [← hI, if_neg q1, if_neg q5, if_neg q6, if_neg q7]
      rw [he]
      exact ⟨z, (hv8.ext hx9).mono (Nat.le_refl _) hx9.size, hzv, hzo, hzl, hzx, q4, q9⟩
    have hnext : I.op ≠ 2 → I.op ≠ 3 → nextOf c s tn = atOf s tn + 1 := fun q2 q3 => by unfold nextOf; rw [← hI, if_neg q2, if_neg q3]
    refine rd_eql ?_
    refine br (fun q1 => ?_) (fun q1 => ?_)
    · have hx9 := ext_drew w8
      have hs9 := hx9.size
      have hg8 := hv8.lt
      obtain ⟨har0, har1⟩ := set_arg hc hs hat0 (hI ▸ q1)
      rw [← hI] at har0 har1
      obtain ⟨ar, har⟩ : ∃ ar : Nat, I.arg = ar := ⟨I.arg.toNat, by omega⟩
      have har2 : ar < z.vars.length := by rw [hzv]; omega
      obtain ⟨u, b, a, cap, hr, hIs, hu, hst⟩ := var_vars (hv8.ext hx9) (by omega) har2
      refine rd_fld fd32_0 ?_
      refine rd_cell ty23 hr ?_
      refine rd_fld fd135_1 ?_
      refine rd_loadI ty3 (at_DIns_1 hA10) hx9 fun _ => ?_
      refine rd_fld fd135_2 ?_
      refine rd_load ty133 (at_DIns_2 hA10) hx9 fun v54 h54 => ?_
      refine rd_fld fd37_0 ?_
      refine rd_load ty22 (at_DCode_0 hA1) (hx16.trans (hx68.trans hx9)) fun v56 h56 => ?_
      refine rd_fld fd32_0 ?_
      refine rd_load ty23 (at_DState_0 hA2) (hx26.trans (hx68.trans hx9)) fun v58 h58 => ?_
      have hok : termOk 6 I.term = true := by
        have := hR.2.2.1
        rw [← hI, if_pos (.inl q1)] at this
        exact this.1
      refine (workOut_ok 6 h54 hx9 h56 (hx16.trans (hx68.trans hx9)) h58 (hx26.trans (hx68.trans hx9)) hok).mono ?_
      rintro _ w10 ⟨hx10, rfl⟩
      refine ⟨hx10, ?_⟩
      have hs10 := hx10.size
      rw [har]
      refine rd_idxU u23 ty3 hu har2 ?_
      have hwr := workT_range c.globals s.vars 6 I.term
      refine hst w10 hx10 _ (by unfold I64; omega) _ fun w11 hc11 hv11 => ?_
      have hs11 := hc11.size
      have hrest : restOf c s tn = ⟨s.vars.set I.arg.toNat (workT c.globals s.vars 6 I.term), s.owner, s.stacks⟩ := by unfold restOf; rw [← hI, if_pos q1]
      refine ⟨by rw [hnext (by omega) (by omega)], Ext.chgI ((hx38.trans hx9).trans hx10) hc11 (by omega), _, hv11.mono (Nat.le_refl _) (by omega), ?_, ?_, ?_, hzx, by omega, by omega⟩
      · rw [hrest, hzv, har]; rfl
      · rw [hrest]; exact hzo
      · rw [hrest]; exact hzl
    refine rd_eql ?_
    refine br (fun q2 => ?_) (fun q2 => ?_)
    · refine rd_fld fd135_2 ?_
      refine rd_load ty133 (at_DIns_2 hA10) (Ext.refl w8) fun v54 h54 => ?_
      refine rd_fld fd37_0 ?_
      refine rd_load ty22 (at_DCode_0 hA1) (hx16.trans hx68) fun v56 h56 => ?_
      refine rd_fld fd32_0 ?_
      refine rd_load ty23 (at_DState_0 hA2) (hx26.trans hx68) fun v58 h58 => ?_
      have hok : termOk 6 I.term = true := by
        have := hR.2.2.1
        rw [← hI, if_pos (.inr q2)] at this
        exact this.1
      refine (workOut_ok 6 h54 (Ext.refl w8) h56 (hx16.trans hx68) h58 (hx26.trans hx68) hok).mono ?_
      rintro _ w9 ⟨hx9, rfl⟩
      refine rd_eql ?_
      refine br (fun q => ?_) (fun q => ?_)
      · refine rd_fld fd135_3 ?_
        refine rd_loadI ty3 (at_DIns_3 hA10) hx9 fun _ => ?_
        exact ⟨by unfold nextOf; rw [← hI, if_pos q2, if_pos q], hx38.trans hx9, same w9 hx9 (by omega)⟩
      · exact ⟨by unfold nextOf; rw [← hI, if_pos q2, if_neg q], hx38.trans hx9, same w9 hx9 (by omega)⟩
    refine rd_eql ?_
    refine br (fun q3 => ?_) (fun q3 => ?_)
    · refine rd_fld fd135_3 ?_
      refine rd_loadI ty3 (at_DIns_3 hA10) (Ext.refl w8) fun _ => ?_
      exact ⟨by unfold nextOf; rw [← hI, if_neg q2, if_pos q3], hx38, same w8 (Ext.refl w8) (by omega)⟩
    have hn := hnext q2 q3
    refine rd_eql ?_
    refine br (fun q4 => ?_) (fun q4 => ?_)
    · have hx9 := ext_drew w8
      have hs9 := hx9.size
      have hg8 := hv8.lt
      obtain ⟨har0, har1⟩ := proc_arg hc hs hat0 (.inl (hI ▸ q4))
      rw [← hI] at har0 har1
      obtain ⟨ar, har⟩ : ∃ ar : Nat, I.arg = ar := ⟨I.arg.toNat, by omega⟩
      obtain ⟨F, hO, hF⟩ := hv6.ext (hx68.trans hx9)
      have hlt := hO.lts
      obtain ⟨G1, hL1⟩ := lens_DStV_2 (Lens.var hO)
      obtain ⟨b2, a2, cap2, G2, hv2, hG21, hL2⟩ := hL1.elemV hzn
      rw [← hx] at hL2
      obtain ⟨cs1, ⟨rfl, _⟩, hr1, _, _, hg1, _⟩ := hL1.here
      obtain ⟨cs, ⟨rfl, hrow⟩, _, hnG, _, hb2, _⟩ := hL2.here
      have hG2F : ∀ c ∈ G2, c ∈ F := fun c hcm => by
        rcases List.mem_cons.1 (hL2.sub c (by simp [hcm])) with rfl | h
        · exact absurd (hG21 _ (by simp [hcm])) hg1
        · exact h
      have hGb : ∀ c ∈ G2, w3.heap.size ≤ c ∧ c < w4.heap.size := fun c hcm => hF c (hG2F c hcm)
      have hX3 : ∀ c, c ∈ G2 → w3.heap.size ≤ c := fun c hcm => (hGb c hcm).1
      have hx39 := hx38.trans hx9
      refine XR.mk (fun c => c ∈ G2) ?_
      refine rdx_fld fd32_2 ?_
      refine rdx_cell ty27 hr1 (fun h => by have := hGb _ h; omega) ?_
      refine rdx_fld fd37_3 ?_
      refine rdx_of_rd (w0 := w3) hX3 hx39 ?_
      refine rd_load ty23 (at_DCode_3 hA1) (hx2.trans hx3) fun v74 h74 => ?_
      refine rdx_fld fd135_1 ?_
      refine rdx_cell ty3 (rangeAt_ext (at_cell (at_DIns_1 hA10)) hx9) (fun h => by have := hGb _ h; omega) ?_
      rw [har]
      refine rdx_of_rd (w0 := w3) hX3 hx39 ?_
      refine rd_indexN u23 ty3 h74 (by omega) fun b77 o77 hA77 => ?_
      rw [en_get] at hA77
      refine rdx_of_rd (w0 := w3) hX3 hx39 ?_
      refine rd_loadI ty3 hA77 (hx2.trans hx3) fun hI78 => ?_
      refine op_pushB (β := Int) (G := G2) u23 ty3 z3 zc3 (by decide) hrow hnG (mine_int hI78) (by simp) (by rw [maxLen_eq, hxl]; omega) (by rw [hxl]; omega) (fun w10 v80 w11 G' hx10 hc11 hR11 hN11 hs11 => ?_) fun sv w10 hx10 hop => ⟨hx10.toX, hop⟩
      refine ⟨hc11.toX (fun c h => h), ?_⟩
      have hs10 := hx10.size
      have hs11' := hc11.size
      have hc911 : Chg G2 (World.drew1 w8) w11 := (hx10.chg G2).trans hc11
      have hx311 : Ext w3 w11 := Ext.chgI hx39 (hc911.toI (lo := w3.heap.size) (hi := w4.heap.size) hGb) (Nat.le_refl _)
      refine rdx_of_rd (w0 := w3) hX3 hx311 ?_
      refine rd_idxU u27 ty23 hv2 hzn ?_
      refine opu_pushed ty23 hL2 hlt hc911 hR11 hN11 (fun c hcm => ?_) fun w12 hc12 ⟨F', hO', hF'⟩ => ?_
      · rcases hs11 c hcm with h | h | h
        · exact .inl h
        · simp at h
        · exact .inr h
      have hs12 := hc12.size
      have hcI : ChgI w3.heap.size w8.heap.size (World.drew1 w8) w12 := hc12.toI fun c hcm => by
        have := hL2.sub c hcm
        rcases List.mem_cons.1 this with rfl | h
        · exact ⟨by omega, hg8⟩
        · have := hF c h; omega
      refine hres _ w12 (Ext.chgI hx39 hcI (Nat.le_refl _)) (varI_er ⟨F', hO', fun c hcm => ?_⟩) ?_
      · have h1 := hO'.lts c (by simp [hcm])
        rcases hF' c hcm with h | h
        · rcases List.mem_cons.1 h with rfl | h
          · obtain ⟨_, _, _, _, _, hnn, _⟩ := hO'; exact absurd hcm hnn
          · have := hF c h; omega
        · omega
      · unfold stepD DStV.er
        have e1 : ((tn : Int)).toNat = tn := by omega
        rw [← hI, if_pos q4]
        simp only [DState.mk.injEq, hzv, hzo, true_and]
        rw [List.map_set, hzl, hxl, e1, har, Int.toNat_natCast]
    refine rd_eql ?_
    refine br (fun q5 => ?_) (fun q5 => ?_)
    · have hg8 := hv8.lt
      obtain ⟨har0, har1⟩ := proc_arg hc hs hat0 (.inr (hI ▸ q5))
      rw [← hI] at har0 har1
      obtain ⟨ar, har⟩ : ∃ ar : Nat, I.arg = ar := ⟨I.arg.toNat, by omega⟩
      have hzlen : z.stacks.l.length = s.stacks.length := by have := congrArg List.length hzl; simpa using this
      refine rd_fld fd32_2 ?_
      refine rd_load (α := RIntss) ty27 (at_DStV_2 hv8.at) (Ext.refl w8) fun v86 k86 => ?_
      obtain ⟨rfl, h86⟩ := is_rv k86
      refine rd_len u27 h86 ?_
      rw [hzlen]
      refine rd_lss ?_
      refine br (fun qq => ?_) (fun qq => ?_)
      · have hx9 := ext_drew w8
        have hs9 := hx9.size
        obtain ⟨F, hO, hF⟩ := hv8.ext hx9
        have hlt := hO.lts
        obtain ⟨G1, hL1⟩ := lens_DStV_2 (Lens.var hO)
        refine rd_fld fd32_2 ?_
        refine rd_loadV ty27 (at_DStV_2 hv8.at) hx9 ?_
        refine rd_fld fd37_3 ?_
        refine rd_load ty23 (at_DCode_3 hA1) (hx16.trans (hx68.trans hx9)) fun v92 h92 => ?_
        refine rd_fld fd135_1 ?_
        refine rd_loadI ty3 (at_DIns_1 hA10) hx9 fun _ => ?_
        rw [har]
        refine rd_indexN u23 ty3 h92 (by omega) fun b95 o95 hA95 => ?_
        rw [en_get] at hA95
        refine rd_loadI ty3 hA95 (hx16.trans (hx68.trans hx9)) fun hI96 => ?_
        refine op_build1R (β := Int) u23 ty3 z3 (by decide) (mine_int hI96) fun v97 w10 hx10 r97 => ?_
        refine ⟨hx10, ?_⟩
        have hs10 := hx10.size
        obtain ⟨GX, hMX, hGX⟩ := ownI_rv r97
        obtain ⟨cs, ⟨rfl, hrow⟩, _, hnG, _⟩ := hL1.here
        have hGlt : ∀ c ∈ G1, c < (World.drew1 w8).heap.size := fun c hcm => hlt c (hL1.sub c (by simp [hcm]))
        refine op_pushB (β := RInts) (G := G1) (w := w10) u27 ty23 z23 zc23 (by decide) (hrow.keep fun c hcm => hx10.heap (hGlt c hcm)) hnG hMX (fun c hcm hg => by have := hGX c hcm; have := hGlt c hg; omega) (by rw [maxLen_eq, hzlen]; omega) (by rw [hzlen]; omega) (fun w11 v99 w12 G' hx11 hc12' hR12 hN12 hs12 => ?_) fun sv w11 hx11 hop => ⟨hx11, hop⟩
        have hc12 : Chg G1 w10 w12 := (hx11.chg G1).trans hc12'
        refine rd_fld fd32_2 ?_
        refine opu_pushed ty27 hL1 hlt ((hx10.chg G1).trans hc12) hR12 hN12 (fun c hcm => ?_) fun w13 hc13 ⟨F', hO', hF'⟩ => ?_
        · rcases hs12 c hcm with h | h | h
          · exact .inl h
          · exact .inr (hGX c h).1
          · exact .inr (by omega)
        have hs13 := hc13.size
        have hcI : ChgI w3.heap.size w8.heap.size (World.drew1 w8) w13 := hc13.toI fun c hcm => by
          have := hL1.sub c hcm
          rcases List.mem_cons.1 this with rfl | h
          · exact ⟨by omega, hg8⟩
          · exact hF c h
        have hrest : restOf c s tn = ⟨s.vars, s.owner, s.stacks ++ [[en c I.arg.toNat]]⟩ := by unfold restOf; rw [← hI, if_neg q1, if_pos q5, if_pos (by omega)]
        refine ⟨by rw [hn], Ext.chgI (hx38.trans hx9) hcI (Nat.le_refl _), _, ⟨F', hO', fun c hcm => ?_⟩, ?_, ?_, ?_, ?_, by omega, by omega⟩
        · have h1 := hO'.lts c (by simp [hcm])
          rcases hF' c hcm with h | h
          · rcases List.mem_cons.1 h with rfl | h
            · obtain ⟨_, _, _, _, _, hnn, _⟩ := hO'; exact absurd hcm hnn
            · have := hF c h; omega
          · omega
        · rw [hrest]; exact hzv
        · rw [hrest]; exact hzo
        · rw [hrest]
          simp only [List.map_append, List.map_cons, List.map_nil, hzl, har, Int.toNat_natCast]
        · show (z.stacks.l ++ _)[tn]? = some x
          rw [List.getElem?_append_left hzn]; exact hzx
      · have hrest : restOf c s tn = s := by unfold restOf; rw [← hI, if_neg q1, if_pos q5, if_neg (by omega)]
        refine ⟨by rw [hn], hx38, z, hv8, ?_, ?_, ?_, hzx, by omega, by omega⟩
        · rw [hrest]; exact hzv
        · rw [hrest]; exact hzo
        · rw [hrest]; exact hzl
    refine rd_eql ?_
    refine br (fun q6 => ?_) (fun q6 => ?_)
    · have hg8 := hv8.lt
      obtain ⟨har0, har1⟩ := atI_lock hc hs hat0 (.inl (hI ▸ q6))
      rw [← hI] at har0 har1
      obtain ⟨ar, har⟩ : ∃ ar : Nat, I.arg = ar := ⟨I.arg.toNat, by omega⟩
      have har2 : ar < z.owner.length := by rw [hzo]; omega
      obtain ⟨u, b, a, cap, hr, hIs, hu, hst⟩ := var_owner hv8 (by omega) har2
      refine rd_fld fd32_1 ?_
      refine rd_cell ty23 hr ?_
      refine rd_fld fd135_1 ?_
      refine rd_loadI ty3 (at_DIns_1 hA10) (Ext.refl w8) fun _ => ?_
      rw [har]
      refine rd_idxU u23 ty3 hu har2 ?_
      have hmany := hs.2.2.1
      refine hst w8 (Ext.refl w8) _ (by unfold I64; omega) _ fun w11 hc11 hv11 => ?_
      have hs11 := hc11.size
      have hrest : restOf c s tn = ⟨s.vars, s.owner.set I.arg.toNat tn, s.stacks⟩ := by unfold restOf; rw [← hI, if_neg q1, if_neg q5, if_pos q6]
      refine ⟨by rw [hn], Ext.chgI hx38 hc11 (by omega), _, hv11.mono (Nat.le_refl _) (by omega), ?_, ?_, ?_, hzx, by omega, by omega⟩
      · rw [hrest]; exact hzv
      · rw [hrest, hzo, har]; rfl
      · rw [hrest]; exact hzl
    refine rd_eql ?_
    refine br (fun q7 => ?_) (fun q7 => ?_)
    · have hg8 := hv8.lt
      obtain ⟨har0, har1⟩ := atI_lock hc hs hat0 (.inr (hI ▸ q7))
      rw [← hI] at har0 har1
      obtain ⟨ar, har⟩ : ∃ ar : Nat, I.arg = ar := ⟨I.arg.toNat, by omega⟩
      have har2 : ar < z.owner.length := by rw [hzo]; omega
      obtain ⟨u, b, a, cap, hr, hIs, hu, hst⟩ := var_owner hv8 (by omega) har2
      refine rd_fld fd32_1 ?_
      refine rd_cell ty23 hr ?_
      refine rd_fld fd135_1 ?_
      refine rd_loadI ty3 (at_DIns_1 hA10) (Ext.refl w8) fun _ => ?_
      rw [har]
      refine rd_indexN u23 ty3 hIs har2 fun b115 o115 hA115 => ?_
      refine rd_loadI ty3 hA115 (Ext.refl w8) fun _ => ?_
      have how : z.owner[ar] = ow s I.arg := by
        have : ar < s.owner.length := by rw [← hzo]; exact har2
        rw [har, ← ow_get this]
        congr 1
      rw [how]
      refine rd_eql ?_
      refine br (fun qq => ?_) (fun qq => ?_)
      · refine rd_fld fd32_1 ?_
        refine rd_cell ty23 hr ?_
        refine rd_fld fd135_1 ?_
        refine rd_loadI ty3 (at_DIns_1 hA10) (Ext.refl w8) fun _ => ?_
        rw [har]
        refine rd_idxU u23 ty3 hu har2 ?_
        refine hst w8 (Ext.refl w8) _ (by unfold I64; omega) _ fun w11 hc11 hv11 => ?_
        have hs11 := hc11.size
        have hrest : restOf c s tn = ⟨s.vars, s.owner.set I.arg.toNat (-1), s.stacks⟩ := by unfold restOf; rw [← hI, if_neg q1, if_neg q5, if_neg q6, if_pos q7, if_pos qq]
        refine ⟨by rw [hn], Ext.chgI hx38 hc11 (by omega), _, hv11.mono (Nat.le_refl _) (by omega), ?_, ?_, ?_, hzx, by omega, by omega⟩
        · rw [hrest]; exact hzv
        · rw [hrest, hzo, har]; rfl
        · rw [hrest]; exact hzl
      · have hrest : restOf c s tn = s := by unfold restOf; rw [← hI, if_neg q1, if_neg q5, if_neg q6, if_pos q7, if_neg qq]
        refine ⟨by rw [hn], hx38, z, hv8, ?_, ?_, ?_, hzx, by omega, by omega⟩
        · rw [hrest]; exact hzv
        · rw [hrest]; exact hzo
        · rw [hrest]; exact hzl
    refine rd_eql ?_
    refine br (fun q9 => ?_) (fun q9 => ?_)
    · have hx9 := ext_drew w8
      have hs9 := hx9.size
      have hg8 := hv8.lt
      have hx39 := hx38.trans hx9
      obtain ⟨F, hO, hF⟩ := hv6.ext (hx68.trans hx9)
      have hlt := hO.lts
      obtain ⟨G1v, hL1v⟩ := lens_DStV_2 (Lens.var hO)
      obtain ⟨b2v, a2v, cap2v, G2v, hv2v, hG21v, hL2v⟩ := hL1v.elemV hzn
      rw [← hx] at hL2v
      obtain ⟨cs1, ⟨rfl, _⟩, hr1v, _, _, hg1v, _⟩ := hL1v.here
      obtain ⟨cs2, ⟨rfl, hrow2⟩, hr2v, _, _, _, hwb2⟩ := hL2v.here
      have hOs : OAt F (World.drew1 w8) w4.heap.size 0 s := by have := oat_er hO; rwa [hz] at this
      obtain ⟨G1, hL1⟩ := lens_DState_2 (Lens.var hOs)
      obtain ⟨_, _, _, _, _, hgG1, _⟩ := hL1.here
      obtain ⟨u1, b2, a2, cap2, G2, hr1, hIs1, hu1, hL2⟩ := hL1.elem htn
      have hu : u1 = z.stacks.v := rangeAt_inj hr1 hr1v
      refine rd_fld fd32_2 ?_
      refine rd_cell ty27 hr1 ?_
      have hbb : b2 = b2v ∧ a2 = a2v := by
        rw [hu, hv2v] at hu1
        simp only [Value.slice.injEq, Option.some.injEq, Addr.mk.injEq] at hu1
        exact ⟨hu1.1.1.symm, hu1.1.2.1.symm⟩
      obtain ⟨rfl, rfl⟩ := hbb
      obtain ⟨ux, hMx, hrx, hGx, _⟩ := hL2.row
      obtain ⟨_, _, _, _, _, hb2G2, _⟩ := hL2.here
      have hux : ux = x.v := rangeAt_inj hrx hr2v
      have hsl : s.stacks[tn] = x.l := by rw [hxl]; exact stk_get (t := (tn : Int)) (by simpa using htn)
      rw [hux, hsl] at hMx
      refine rd_cut u23 ty3 hMx (by omega) (by rw [hxl]; exact hne) fun bx ax capx v132 G' hxv hM' hG' hv' => ?_
      refine rd_idxU u27 ty23 hu1 htn ?_
      have hb2G' : b2 ∉ G' := fun h => hb2G2 (hG' _ h)
      have hb2g : b2 ≠ w4.heap.size := fun e => hg1v (e ▸ hG21v b2 (by simp))
      have hrep' := mine_cell rfl hM'.own
      have hone' : v132.oneCell' = true := Rep.one hrep' v132 (by simp)
      refine opu_cell ty23 hwb2 hr2v hrow2.one hone' fun w10 hch hr10 => ?_
      have hkeep' : ∀ c ∈ G', w10.heap[c]? = (World.drew1 w8).heap[c]? := fun c hcm => hch.chg.block c (hM'.lt c hcm) (by simp; exact fun e => hb2G' (e ▸ hcm))
      obtain ⟨cb, eb, hcb⟩ := hwb2
      obtain ⟨cb', hcb', _⟩ := hch.cell cb eb hcb
      have hOy : OAt G' w10 b2 (a2 + tn * Rep.size (List Int)) (x.l.take top) := ⟨[v132], Rep.keep hrep' hkeep', hr10, hM'.nodup, hM'.wr.keep hkeep', hb2G', cb', eb, hcb'⟩
      have hg10 : w10.heap[w4.heap.size]? = (World.drew1 w8).heap[w4.heap.size]? := hch.chg.block _ (hlt _ (by simp)) (by simp; exact fun e => hb2g e.symm)
      obtain ⟨F', hO', hF'⟩ := hL2.back w10 G' (x.l.take top) (hch.mono (Nat.le_refl _) (Nat.le_refl _) (by simp)) hOy (fun c hcm => .inl (hG' c hcm))
      have hs10 := hch.chg.size
      have hFb : ∀ c ∈ F', w3.heap.size ≤ c ∧ c < w4.heap.size := fun c hcm => by
        have hin : c ∈ w4.heap.size :: F := by
          rcases hF' c hcm with h | h
          · exact h
          · exact hGx c (hG' c h)
        rcases List.mem_cons.1 hin with rfl | h
        · obtain ⟨_, _, _, _, _, hnn, _⟩ := hO'; exact absurd hcm hnn
        · exact hF c h
      have hb2F : b2 ∈ w4.heap.size :: F := hL2.sub b2 (by simp)
      have hcI : ChgI w3.heap.size w8.heap.size (World.drew1 w8) w10 := hch.chg.toI fun c hcm => by
        simp only [List.mem_cons, List.not_mem_nil, or_false] at hcm
        subst hcm
        rcases List.mem_cons.1 hb2F with h | h
        · rw [h]; exact ⟨by omega, hg8⟩
        · have := hF _ h; omega
      have hx310 : Ext w3 w10 := Ext.chgI hx39 hcI (Nat.le_refl _)
      have e1 : ((tn : Int)).toNat = tn := by omega
      have hlen : x.l.length = top + 1 := by omega
      have htop8 : top < 8 := by have h := htl; rw [hxl] at h; omega
      refine rd_gtr ?_
      refine br (fun hp => ?_) (fun hp => ?_)
      · refine rd_sub (by unfold I64; omega) ?_
        obtain ⟨tp, htp⟩ : ∃ tp : Nat, (top : Int) - 1 = tp := ⟨top - 1, by omega⟩
        rw [htp]
        obtain ⟨G1', hL1'⟩ := lens_DState_2 (Lens.var hO')
        have hk' : tn < (s.stacks.set tn (x.l.take top)).length := by simpa using htn
        obtain ⟨u1', b2', a2', cap2', G2', hr1', _, hu1', hL2'⟩ := hL1'.elem hk'
        have hu' : u1' = u1 := rangeAt_inj hr1' (rangeAt_keep hr1 hg10)
        have hbb' : b2' = b2 ∧ a2' = a2 := by
          rw [hu', hu1] at hu1'
          simp only [Value.slice.injEq, Option.some.injEq, Addr.mk.injEq] at hu1'
          exact ⟨hu1'.1.1.symm, hu1'.1.2.1.symm⟩
        obtain ⟨rfl, rfl⟩ := hbb'
        have hel : (s.stacks.set tn (x.l.take top))[tn]'hk' = x.l.take top := List.getElem_set_self ..
        simp only [hel] at hL2'
        obtain ⟨uy, by', ay', capy', G3', hry, hIsy, huy, hL3'⟩ := hL2'.elem (k := tp) (by simp; omega)
        have huy' : uy = v132 := rangeAt_inj hry hr10
        have hv132 := hv' (by omega)
        have hbx : by' = bx ∧ ay' = ax := by
          rw [huy', hv132] at huy
          simp only [Value.slice.injEq, Option.some.injEq, Addr.mk.injEq] at huy
          exact ⟨huy.1.1.symm, huy.1.2.1.symm⟩
        obtain ⟨rfl, rfl⟩ := hbx
        refine rd_idxU u23 ty3 hxv (k := tp) (by omega) ?_
        have hval : (x.l.take top)[tp]'(by simp; omega) = st x.l tp := by
          rw [List.getElem_take, st_get]
        refine rd_loadI ty3 hL3'.here.at (Ext.refl w10) fun hI140 => ?_
        rw [hval]
        have hstr : 0 ≤ st x.l tp ∧ st x.l tp < c.ins.length := by
          have hmem := hs.2.2.2.2.2 x.l (by rw [← hsl]; exact List.getElem_mem _)
          exact hmem.2.1 tp (by omega)
        refine rd_add (by unfold I64; omega) ?_
        refine rd_idxU u23 ty3 hxv (k := tp) (by omega) ?_
        have hg10' : w4.heap.size < w10.heap.size := by omega
        refine opu_varM (α := DState) (lo := w3.heap.size) (hi := w10.heap.size) ty3 hL3' (fun c hcm => by have := hFb c hcm; omega) (by omega) (mine_int (x := st x.l tp + 1) (by unfold I64; omega)) fun w11 hc11 hv11 => ?_
        have hs11 := hc11.size
        refine hres _ w11 (Ext.chgI hx310 hc11 (Nat.le_refl _)) (hv11.mono (Nat.le_refl _) (by omega)) ?_
        unfold stepD
        rw [← hI, if_neg q4, if_pos q9]
        simp only [DState.mk.injEq, true_and, e1, List.set_set]
        congr 1
        unfold popped
        rw [← hxl, hlen, if_neg (by omega), show top + 1 - 1 = top by omega, show top + 1 - 2 = tp by omega]
      · refine hres _ w10 hx310 ⟨F', hO', fun c hcm => by have := hFb c hcm; omega⟩ ?_
        unfold stepD
        rw [← hI, if_neg q4, if_pos q9]
        simp only [DState.mk.injEq, true_and, e1]
        congr 1
        unfold popped
        have ht0 : top = 0 := by omega
        subst ht0
        rw [← hxl, hlen]
        simp
    · exact ⟨by rw [hn], hx38, same w8 (Ext.refl w8) (by omega)⟩
  · rintro uj w9 ⟨hu, hx9, z', hv9, hz1, hz2, hz3, hz4, ho4, ho9⟩
    simp only [List.map_cons, List.map_nil, List.cons.injEq, and_true] at hu
    rw [hu]
    have hs9 := hx9.size
    obtain ⟨hk', hxk⟩ := List.getElem?_eq_some_iff.1 hz4
    have hg9 := hv9.lt
    obtain ⟨F, hO, hF⟩ := hv9
    obtain ⟨G1, hL1⟩ := lens_DStV_2 (Lens.var hO)
    obtain ⟨b2, a2, cap2, G2, hv2, _, hL2⟩ := hL1.elemV hk'
    rw [hxk] at hL2
    refine rd_elemV (e := 3) u23 ty3 hL2 htl fun b3 o3 G3 hL3 => ?_
    have hI64 : I64 (nextOf c s tn) := by
      have hto : I.op = 2 ∨ I.op = 3 → I64 I.to := fun h => by
        have := hR.2.2.2
        rw [← hI, if_pos h] at this
        obtain ⟨i, hi, _, _, hpr⟩ := hc.f.find hc.1.procs8.2 hat0 hatlt.2
        have h1 := hc.f.nonneg hi
        have h2 := (hc.f.lt i hi).2
        rw [hpr, endOf_eq, Int.toNat_natCast] at this
        unfold I64; omega
      unfold nextOf
      rw [← hI]
      split
      · split
        · exact hto (.inl (by assumption))
        · unfold I64; omega
      · split
        · exact hto (.inr (by assumption))
        · unfold I64; omega
    refine opu_varM ty3 hL3 hF (by omega) (mine_int hI64) fun w10 hc10 hv10 => ?_
    have hs10 := hc10.size
    refine hres _ w10 (Ext.chgI hx9 hc10 (Nat.le_refl _)) (varI_er (hv10.mono (Nat.le_refl _) (by omega))) ?_
    unfold stepD DStV.er
    rw [← hI, if_neg ho4, if_neg ho9]
    simp only [DState.mk.injEq, hz1, hz2, true_and]
    have e1 : ((tn : Int)).toNat = tn := by omega
    have e2 : (stk s tn).length - 1 = top := by rw [← hxl]; omega
    rw [List.map_set, hz3, hxl, e1, e2]
end Go.Proofs.YteephmhilnlkpaaGreat
