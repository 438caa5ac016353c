/-
  The law of a step: it returns true.
-/
import Derived.Test.YteephmhilnlkpaaGreatStepOf
import Derived.Test.YteephmhilnlkpaaGreatKeep
import Derived.Test.YteephmhilnlkpaaGreatMarks
namespace Go.Proofs.YteephmhilnlkpaaGreat
open Go Go.Sh Go.Proofs
set_option linter.unusedVariables false

theorem stOk_of7 {s : DState} {n m : Int} (hm : m ≤ 1048576) (h : -1 ≤ n ∧ n ≤ m ∧ (0 ≤ n → (s.vars.length : Int) ≤ m ∧ (s.owner.length : Int) ≤ m ∧ (s.stacks.length : Int) ≤ m ∧ (∀ x ∈ s.stacks, (x.length : Int) ≤ m) ∧ n + s.vars.length + s.owner.length + s.stacks.length + nLL s.stacks ≤ m)) (c : ¬ n < 0) : StOk s ∧ StSz s ∧ s.stacks.length + nSt s ≤ 1073741824 := by
  obtain ⟨h1, h2, h3⟩ := h
  obtain ⟨h4, h5, h6, h7, h8⟩ := h3 (by omega)
  refine ⟨⟨by omega, by omega, by omega, fun x hx => by have := h7 x hx; omega⟩, ⟨by omega, by omega, by omega, fun x hx => by have := h7 x hx; omega⟩, ?_⟩
  unfold nSt; omega
theorem cdOk_of7 {c : DCode} {n m : Int} (hm : m ≤ 1048576) (h : -1 ≤ n ∧ n ≤ m ∧ (0 ≤ n → n + wCode c ≤ m)) (hc : ¬ n < 0) : wCode c ≤ 1048576 := by
  have := h.2.2 (by omega)
  omega
theorem sm_le7 {α : Type} {f : α → Nat} {b : Nat} : ∀ {l : List α}, (∀ x ∈ l, f x ≤ b) → (l.map f).sum ≤ l.length * b
  | [], _ => by simp
  | x :: l, h => by
    have h1 := sm_le7 (l := l) fun y hy => h y (List.mem_cons_of_mem _ hy)
    have h2 := h x List.mem_cons_self
    simp only [List.map_cons, List.sum_cons, List.length_cons, Nat.add_mul]
    omega
theorem stSz_n7 {c : DCode} {s : DState} (hc : CodeR c) (hs : StateR c s) : s.stacks.length + nSt s ≤ 1000 := by
  have h1 := hc.1.globals6
  have h2 := hc.1.locks6
  have h3 := hs.1
  have h4 := hs.2.1
  have h5 := hs.2.2.1
  have h6 := sm_le7 (f := List.length) (b := 8) fun x hx => (hs.2.2.2.2.2 x hx).1
  have h7 : s.stacks.length * 8 ≤ 48 := by omega
  simp only [nSt, nLL, sm]
  omega
theorem stepOf_n {c : DCode} {s : DState} {t : Int} (h : s.stacks.length + nSt s ≤ 1073741824) : (stepOf c s t).stacks.length + nSt (stepOf c s t) ≤ 1073741824 := by
  unfold stepOf
  split
  · rename_i hc
    have := stSz_n7 hc.1.1 (step_right hc.1.1 hc.1.2 hc.2)
    omega
  · exact h
/-- what the operations of a region in which a step is asked for yield -/
def soQ (w0 : World) (c : DCode) (s : DState) (t : Int) (b : Bool) (x : DState) (n0 n1 n2 n3 n4 n5 n6 n7 n8 n9 : Nat) : ParQ := fun i u T w => match i with
  | 0 => Is w0 (u n0) c
  | 1 => OwnI (T 1).1 (T 1).2 w (u n1) c
  | 2 => Is w0 (u n2) s
  | 3 => OwnI (T 3).1 (T 3).2 w (u n3) s
  | 4 => u n4 = .int .i64 t
  | 5 => ∃ a, u n5 = .tuple #[a, .bool b] ∧ OwnI (T 5).1 (T 5).2 w a x
  | 6 => u n6 = u n5 ∧ ∃ a b, u n6 = .tuple #[a, b]
  | 7 => ∃ a b, u n6 = .tuple #[a, b] ∧ u n7 = a
  | 8 => ∃ a b, u n6 = .tuple #[a, b] ∧ u n8 = b
  | 9 => ∃ gg, u n9 = .pointer (some ⟨gg, 0, none⟩) ∧ (T 9).1 ≤ gg ∧ gg < (T 9).2 ∧ Blk gg 32 w [.slice none 0 0, .slice none 0 0, .slice none 0 0]
  | _ => True
theorem at_of_blk {α : Type} [Rep α] {w : World} {g e : Nat} {us : Array Value} {x : α} (ha : Rep.agg α = true) (hB : Blk g e w us.toList) (h : Is w (.agg us) x) : At w g 0 x := by
  obtain ⟨F, cs, hr, hv⟩ := h
  have : us = cs.toArray := by simpa [mkv, ha] using hv
  subst this
  exact hB.at (by simpa using hr)
/-- laws.FnExactStepOf -/
def F3 (a0 a1 a2 : Value) (w : World) (R : Value → World → Prop) : Prop :=
  OP Tryz.prog (Instr.box 26 a0) w fun x3 w =>
  OP Tryz.prog (Instr.box 29 a1) w fun x4 w =>
  RD Tryz.prog (Instr.loadAt 26 x3) w fun x19 =>
  CALL Tryz.prog 14 [x19, (Value.int .i64 1048576)] w fun x21 w =>
  RD Tryz.prog (bin .lss 3 (.tmp 0) (.const undef) x21 (Value.int .i64 0)) w fun x23 =>
  BR x23
   (R (Value.bool true) w)
   (RD Tryz.prog (Instr.loadAt 29 x4) w fun x24 =>
   CALL Tryz.prog 15 [x24, x21] w fun x26 w =>
   RD Tryz.prog (bin .lss 3 (.tmp 0) (.const undef) x26 (Value.int .i64 0)) w fun x28 =>
   BR x28
    (R (Value.bool true) w)
    ((fun w0 => PAR w0 [[(0, 30)], [(1, 31), (0, 30)], [(2, 32)], [(3, 33), (2, 32), (1, 31)], [(4, 34)], [(5, 35), (1, 31), (3, 33), (4, 34), (3, 33)], [(6, 29), (5, 35)], [(7, 36), (6, 29)], [(8, 37), (6, 29)], [(9, 8)]] (fun Q =>
     (∀ (u8 : Env) (T : Nat → Nat × Nat) (w : World), Ext w0 w → Apart [] w0.heap.size w.heap.size T → (True) → (fun w1 => RD Tryz.prog (Instr.loadAt 26 x3) w fun x30 =>
    Ext w1 w ∧ Q 0 (upd u8 30 x30) (updT T 0 (w1.heap.size, w.heap.size)) w) w) ∧
     (∀ (u8 : Env) (T : Nat → Nat × Nat) (w : World), Ext w0 w → Apart [0] w0.heap.size w.heap.size T → (Q 0 u8 T w ∧ True) → (fun w1 => CALL Tryz.prog 17 [(u8 30)] w fun x31 w =>
    Ext w1 w ∧ Q 1 (upd u8 31 x31) (updT T 1 (w1.heap.size, w.heap.size)) w) w) ∧
     (∀ (u8 : Env) (T : Nat → Nat × Nat) (w : World), Ext w0 w → Apart [] w0.heap.size w.heap.size T → (True) → (fun w1 => RD Tryz.prog (Instr.loadAt 29 x4) w fun x32 =>
    Ext w1 w ∧ Q 2 (upd u8 32 x32) (updT T 2 (w1.heap.size, w.heap.size)) w) w) ∧
     (∀ (u8 : Env) (T : Nat → Nat × Nat) (w : World), Ext w0 w → Apart [2, 1] w0.heap.size w.heap.size T → (Q 2 u8 T w ∧ Q 1 u8 T w ∧ True) → (fun w1 => CALL Tryz.prog 18 [(u8 32)] w fun x33 w =>
    Ext w1 w ∧ Q 3 (upd u8 33 x33) (updT T 3 (w1.heap.size, w.heap.size)) w) w) ∧
     (∀ (u8 : Env) (T : Nat → Nat × Nat) (w : World), Ext w0 w → Apart [] w0.heap.size w.heap.size T → (True) → (fun w1 => Ext w1 w ∧ Q 4 (upd u8 34 a2) (updT T 4 (w1.heap.size, w.heap.size)) w) w) ∧
     (∀ (u8 : Env) (T : Nat → Nat × Nat) (w : World), Ext w0 w → Apart [1, 3, 4, 3] w0.heap.size w.heap.size T → (Q 1 u8 T w ∧ Q 3 u8 T w ∧ Q 4 u8 T w ∧ Q 3 u8 T w ∧ True) → (fun w1 => CALL Tryz.prog 16 [(u8 31), (u8 33), (u8 34)] w fun x35 w =>
    Ext w1 w ∧ Q 5 (upd u8 35 x35) (updT T 5 (w1.heap.size, w.heap.size)) w) w) ∧
     (∀ (u8 : Env) (T : Nat → Nat × Nat) (w : World), Ext w0 w → Apart [5] w0.heap.size w.heap.size T → (Q 5 u8 T w ∧ True) → (fun w1 => Ext w1 w ∧ Q 6 (upd u8 29 (u8 35)) (updT T 6 (w1.heap.size, w.heap.size)) w) w) ∧
     (∀ (u8 : Env) (T : Nat → Nat × Nat) (w : World), Ext w0 w → Apart [6] w0.heap.size w.heap.size T → (Q 6 u8 T w ∧ True) → (fun w1 => RD Tryz.prog (Instr.extract (u8 29) 0) w fun x36 =>
    Ext w1 w ∧ Q 7 (upd u8 36 x36) (updT T 7 (w1.heap.size, w.heap.size)) w) w) ∧
     (∀ (u8 : Env) (T : Nat → Nat × Nat) (w : World), Ext w0 w → Apart [6] w0.heap.size w.heap.size T → (Q 6 u8 T w ∧ True) → (fun w1 => RD Tryz.prog (Instr.extract (u8 29) 1) w fun x37 =>
    Ext w1 w ∧ Q 8 (upd u8 37 x37) (updT T 8 (w1.heap.size, w.heap.size)) w) w) ∧
     (∀ (u8 : Env) (T : Nat → Nat × Nat) (w : World), Ext w0 w → Apart [] w0.heap.size w.heap.size T → (True) → (fun w1 => OP Tryz.prog (Instr.alloc 32 true (.tuple #[])) w fun x8 w =>
    Ext w1 w ∧ Q 9 (upd u8 8 x8) (updT T 9 (w1.heap.size, w.heap.size)) w) w) ∧
     True)
     (fun Q => ∀ (u8 : Env) (T : Nat → Nat × Nat) (w : World), Ext w0 w → Apart [0, 1, 2, 3, 4, 5, 6, 7, 8, 9] w0.heap.size w.heap.size T → (Q 0 u8 T w ∧ Q 1 u8 T w ∧ Q 2 u8 T w ∧ Q 3 u8 T w ∧ Q 4 u8 T w ∧ Q 5 u8 T w ∧ Q 6 u8 T w ∧ Q 7 u8 T w ∧ Q 8 u8 T w ∧ Q 9 u8 T w ∧ True) →
     OPU Tryz.prog (Instr.storeAt 32 (u8 8) (u8 36)) w fun w =>
    RD Tryz.prog (Instr.loadAt 26 x3) w fun x38 =>
    CALL Tryz.prog 17 [x38] w fun x39 w =>
    OP Tryz.prog (Instr.alloc 37 true (.tuple #[])) w fun x10 w =>
    OPU Tryz.prog (Instr.storeAt 37 x10 x39) w fun w =>
    RD Tryz.prog (Instr.loadAt 29 x4) w fun x40 =>
    CALL Tryz.prog 18 [x40] w fun x41 w =>
    OP Tryz.prog (Instr.alloc 32 true (.tuple #[])) w fun x11 w =>
    OPU Tryz.prog (Instr.storeAt 32 x11 x41) w fun w =>
    RD Tryz.prog (Instr.loadAt 37 x10) w fun x43 =>
    RD Tryz.prog (Instr.loadAt 32 x11) w fun x44 =>
    CALL Tryz.prog 19 [x43, x44, a2] w fun x46 w =>
    RD Tryz.prog (Instr.extract x46 0) w fun x47 =>
    RD Tryz.prog (Instr.extract x46 1) w fun x48 =>
    OP Tryz.prog (Instr.alloc 32 true (.tuple #[])) w fun x12 w =>
    OPU Tryz.prog (Instr.storeAt 32 x12 x47) w fun w =>
    RD Tryz.prog (Instr.loadAt 32 x12) w fun x49 =>
    RD Tryz.prog (Instr.loadAt 32 (u8 8)) w fun x50 =>
    CALL Tryz.prog 20 [x49, x50] w fun x51 w =>
    RD Tryz.prog (Op.unary .not x51) w fun x52 =>
    BR x52
    (R (Value.bool false) w)
    (RD Tryz.prog (bin .neq 4 (.tmp 0) (.tmp 0) x48 (u8 37)) w fun x56 =>
    BR x56
     (R (Value.bool false) w)
     ((fun w => RD Tryz.prog (Instr.loadAt 37 x10) w fun x58 =>
     RD Tryz.prog (Instr.loadAt 26 x3) w fun x59 =>
     (fun w_ => CALL Tryz.prog 17 [x59] w_ fun x60 w =>
     Ext w_ w ∧
     CALL Tryz.prog 21 [x58, x60] w fun x61 w =>
     RD Tryz.prog (Op.unary .not x61) w fun x62 =>
     BR x62
      (R (Value.bool false) w)
      ((fun w => RD Tryz.prog (Instr.loadAt 32 x11) w fun x63 =>
      RD Tryz.prog (Instr.loadAt 29 x4) w fun x64 =>
      (fun w_ => CALL Tryz.prog 18 [x64] w_ fun x65 w =>
      Ext w_ w ∧
      CALL Tryz.prog 20 [x63, x65] w fun x66 w =>
      RD Tryz.prog (Op.unary .not x66) w fun x67 =>
      BR x67
       (R (Value.bool false) w)
       (RD Tryz.prog (Instr.loadAt 37 x10) w fun x68 =>
       CALL Tryz.prog 22 [x68, (Value.int .i64 1)] w fun x70 w =>
       RD Tryz.prog (Instr.loadAt 32 x11) w fun x71 =>
       CALL Tryz.prog 23 [x71, x70] w fun x73 w =>
       RD Tryz.prog (bin .lss 3 (.tmp 0) (.const undef) x73 (Value.int .i64 0)) w fun x75 =>
       BR x75
       (R (Value.bool false) w)
       (RD Tryz.prog (Instr.loadAt 32 x12) w fun x77 =>
       RD Tryz.prog (Instr.loadAt 32 (u8 8)) w fun x78 =>
       CALL Tryz.prog 20 [x77, x78] w fun x79 w =>
       RD Tryz.prog (Op.unary .not x79) w fun x80 =>
       BR x80
       (R (Value.bool false) w)
       (RD Tryz.prog (bin .neq 4 (.tmp 0) (.tmp 0) x48 (u8 37)) w fun x85 =>
       BR x85
        (R (Value.bool false) w)
        (RD Tryz.prog (Instr.loadAt 32 x12) w fun x87 =>
        CALL Tryz.prog 23 [x87, (Value.int .i64 1)] w fun x89 w =>
        RD Tryz.prog (Instr.loadAt 32 x12) w fun x90 =>
        CALL Tryz.prog 24 [x90, (Value.int .i64 1)] w fun x92 w =>
        RD Tryz.prog (bin .lss 3 (.tmp 0) (.const undef) x92 (Value.int .i64 0)) w fun x94 =>
        BR x94
         (R (Value.bool false) w)
         (RD Tryz.prog (bin .neq 3 (.tmp 0) (.tmp 0) x92 x89) w fun x97 =>
         BR x97
          (R (Value.bool false) w)
          ((fun w0 => PAR w0 [[(0, 99)], [(1, 100), (0, 99)], [(2, 101)], [(3, 102), (2, 101), (1, 100)], [(4, 103)], [(5, 104), (1, 100), (3, 102), (4, 103), (3, 102)], [(6, 98), (5, 104)], [(7, 105), (6, 98)], [(8, 106), (6, 98)], [(9, 17)]] (fun Q =>
           (∀ (u31 : Env) (T : Nat → Nat × Nat) (w : World), Ext w0 w → Apart [] w0.heap.size w.heap.size T → (True) → (fun w1 => RD Tryz.prog (Instr.loadAt 26 x3) w fun x99 =>
          Ext w1 w ∧ Q 0 (upd u31 99 x99) (updT T 0 (w1.heap.size, w.heap.size)) w) w) ∧
           (∀ (u31 : Env) (T : Nat → Nat × Nat) (w : World), Ext w0 w → Apart [0] w0.heap.size w.heap.size T → (Q 0 u31 T w ∧ True) → (fun w1 => CALL Tryz.prog 17 [(u31 99)] w fun x100 w =>
          Ext w1 w ∧ Q 1 (upd u31 100 x100) (updT T 1 (w1.heap.size, w.heap.size)) w) w) ∧
           (∀ (u31 : Env) (T : Nat → Nat × Nat) (w : World), Ext w0 w → Apart [] w0.heap.size w.heap.size T → (True) → (fun w1 => RD Tryz.prog (Instr.loadAt 29 x4) w fun x101 =>
          Ext w1 w ∧ Q 2 (upd u31 101 x101) (updT T 2 (w1.heap.size, w.heap.size)) w) w) ∧
           (∀ (u31 : Env) (T : Nat → Nat × Nat) (w : World), Ext w0 w → Apart [2, 1] w0.heap.size w.heap.size T → (Q 2 u31 T w ∧ Q 1 u31 T w ∧ True) → (fun w1 => CALL Tryz.prog 18 [(u31 101)] w fun x102 w =>
          Ext w1 w ∧ Q 3 (upd u31 102 x102) (updT T 3 (w1.heap.size, w.heap.size)) w) w) ∧
           (∀ (u31 : Env) (T : Nat → Nat × Nat) (w : World), Ext w0 w → Apart [] w0.heap.size w.heap.size T → (True) → (fun w1 => Ext w1 w ∧ Q 4 (upd u31 103 a2) (updT T 4 (w1.heap.size, w.heap.size)) w) w) ∧
           (∀ (u31 : Env) (T : Nat → Nat × Nat) (w : World), Ext w0 w → Apart [1, 3, 4, 3] w0.heap.size w.heap.size T → (Q 1 u31 T w ∧ Q 3 u31 T w ∧ Q 4 u31 T w ∧ Q 3 u31 T w ∧ True) → (fun w1 => CALL Tryz.prog 19 [(u31 100), (u31 102), (u31 103)] w fun x104 w =>
          Ext w1 w ∧ Q 5 (upd u31 104 x104) (updT T 5 (w1.heap.size, w.heap.size)) w) w) ∧
           (∀ (u31 : Env) (T : Nat → Nat × Nat) (w : World), Ext w0 w → Apart [5] w0.heap.size w.heap.size T → (Q 5 u31 T w ∧ True) → (fun w1 => Ext w1 w ∧ Q 6 (upd u31 98 (u31 104)) (updT T 6 (w1.heap.size, w.heap.size)) w) w) ∧
           (∀ (u31 : Env) (T : Nat → Nat × Nat) (w : World), Ext w0 w → Apart [6] w0.heap.size w.heap.size T → (Q 6 u31 T w ∧ True) → (fun w1 => RD Tryz.prog (Instr.extract (u31 98) 0) w fun x105 =>
          Ext w1 w ∧ Q 7 (upd u31 105 x105) (updT T 7 (w1.heap.size, w.heap.size)) w) w) ∧
           (∀ (u31 : Env) (T : Nat → Nat × Nat) (w : World), Ext w0 w → Apart [6] w0.heap.size w.heap.size T → (Q 6 u31 T w ∧ True) → (fun w1 => RD Tryz.prog (Instr.extract (u31 98) 1) w fun x106 =>
          Ext w1 w ∧ Q 8 (upd u31 106 x106) (updT T 8 (w1.heap.size, w.heap.size)) w) w) ∧
           (∀ (u31 : Env) (T : Nat → Nat × Nat) (w : World), Ext w0 w → Apart [] w0.heap.size w.heap.size T → (True) → (fun w1 => OP Tryz.prog (Instr.alloc 32 true (.tuple #[])) w fun x17 w =>
          Ext w1 w ∧ Q 9 (upd u31 17 x17) (updT T 9 (w1.heap.size, w.heap.size)) w) w) ∧
           True)
           (fun Q => ∀ (u31 : Env) (T : Nat → Nat × Nat) (w : World), Ext w0 w → Apart [0, 1, 2, 3, 4, 5, 6, 7, 8, 9] w0.heap.size w.heap.size T → (Q 0 u31 T w ∧ Q 1 u31 T w ∧ Q 2 u31 T w ∧ Q 3 u31 T w ∧ Q 4 u31 T w ∧ Q 5 u31 T w ∧ Q 6 u31 T w ∧ Q 7 u31 T w ∧ Q 8 u31 T w ∧ Q 9 u31 T w ∧ True) →
           OPU Tryz.prog (Instr.storeAt 32 (u31 17) (u31 105)) w fun w =>
          RD Tryz.prog (Instr.loadAt 32 (u31 17)) w fun x107 =>
          RD Tryz.prog (Instr.loadAt 32 (u8 8)) w fun x108 =>
          CALL Tryz.prog 20 [x107, x108] w fun x109 w =>
          RD Tryz.prog (Op.unary .not x109) w fun x110 =>
          BR x110
          (R (Value.bool false) w)
          (RD Tryz.prog (bin .neq 4 (.tmp 0) (.tmp 0) (u31 106) (u8 37)) w fun x114 =>
          BR x114
           (R (Value.bool false) w)
           (RD Tryz.prog (Instr.loadAt 32 x12) w fun x116 =>
           CALL Tryz.prog 24 [x116, (Value.int .i64 1)] w fun x118 w =>
           RD Tryz.prog (bin .lss 3 (.tmp 0) (.const undef) x118 (Value.int .i64 0)) w fun x120 =>
           BR x120
            (R (Value.bool false) w)
            (RD Tryz.prog (bin .neq 3 (.tmp 0) (.tmp 0) x118 x89) w fun x123 =>
            BR x123
             (R (Value.bool false) w)
             (R (Value.bool true) w)))))) (World.drew1 w)))))))) w) (World.drew1 w))) w) (World.drew1 w))))) (World.drew1 w)))
def cfg3 : Cfg := { ext := extL, joins := [], loops := [], draws := [(14, [0, 1, 2, 3, 4], 4), (16, [0, 1, 2, 3, 4], 4)], pars := [(8, 274341036800, 10), (31, 161942364179156306041203834880000, 10)] }
theorem F3_eq (a0 a1 a2 : Value) (w : World) (R : Value → World → Prop) : vcF Tryz.prog cfg3 Tryz.f3 [a0, a1, a2] w R = F3 a0 a1 a2 w R := by kernel_rfl
theorem F3_call {a0 a1 a2 : Value} {w : World} {R : Value → World → Prop} (h : F3 a0 a1 a2 w R) : CALL Tryz.prog 3 [a0, a1, a2] w R :=
  call_of (g := cfg3) ent mixed Tryz.func3 (Nat.le_of_ble_eq_true (by kernel_rfl)) (by kernel_rfl) (F3_eq a0 a1 a2 w R ▸ h)


theorem lawStepOf {w : World} {v0 : Value} {W0 : World} {c : DCode} {v1 : Value} {W1 : World} {s : DState} {t : Int}  (h0 : Is W0 v0 c) (e0 : Ext W0 w) (h1 : Is W1 v1 s) (e1 : Ext W1 w)  :
    CALL Tryz.prog 3 [v0, v1, .int .i64 t] w fun r w' => Ext w w' ∧ (r = .bool true) := by
  refine F3_call ?_
  unfold F3
  have hs_e0 := e0.size
  have hs_e1 := e1.size
  refine op_boxS ty26 rfl h0 e0 fun w1_ hx1_ hA3 hV3 => ?_
  have hs_hx1_ := hx1_.size
  refine op_boxS ty29 rfl h1 (e1.trans hx1_) fun w2_ hx2_ hA4 hV4 => ?_
  have hs_hx2_ := hx2_.size
  refine rd_var hV3 hx2_ ?_
  refine (szCode_ok h0 (e0.trans (hx1_.trans hx2_)) (by omega) (by omega)).mono ?_
  rintro _ w3_ ⟨hx3_, n21, rfl, hn21⟩
  have hs_hx3_ := hx3_.size
  refine rd_lss ?_
  refine br (fun c1 => ?_) (fun c1 => ?_)
  · refine ⟨(hx1_.trans (hx2_.trans hx3_)), ?_⟩
    first | rfl | contradiction | (exfalso; omega)
  · refine rd_var hV4 hx3_ ?_
    refine (szState_ok h1 (e1.trans (hx1_.trans (hx2_.trans hx3_))) (by omega) (by omega)).mono ?_
    rintro _ w4_ ⟨hx4_, n26, rfl, hn26⟩
    have hs_hx4_ := hx4_.size
    refine rd_lss ?_
    refine br (fun c2 => ?_) (fun c2 => ?_)
    · refine ⟨(hx1_.trans (hx2_.trans (hx3_.trans hx4_))), ?_⟩
      first | rfl | contradiction | (exfalso; omega)
    · have hcd := cdOk_of7 (by omega) hn21 c1
      obtain ⟨hst, hsz, hsn⟩ := stOk_of7 (by omega) hn26 c2
      have hln := stepOf_n (c := c) (t := t) hsn
      have hxd8 := ext_drew w4_
      have hsd8 := hxd8.size
      have hI08 := h0.ext ((e0.trans (hx1_.trans (hx2_.trans (hx3_.trans hx4_)))).trans hxd8)
      have hI18 := h1.ext ((e1.trans (hx1_.trans (hx2_.trans (hx3_.trans hx4_)))).trans hxd8)
      refine PAR.mk (soQ (World.drew1 w4_) c s t (decide ((CodeR c ∧ StateR c s) ∧ GoR c s t)) (stepOf c s t) 30 31 32 33 34 35 29 36 37 8) ?_ ?_ ?_
      · intro i u u' T T' wa wb hxa hxb hd hq
        match i, hd, hq with
        | 0, hd, hq => have := (hd (0, 30) (by decide)).1; show Is _ (u' 30) _; simp only [this]; exact hq
        | 1, hd, hq =>
          obtain ⟨e1, e2⟩ := hd (1, 31) (by decide)
          simp only at e1 e2
          show OwnI (T' 1).1 (T' 1).2 wb (u' 31) c
          rw [e1, e2]; exact OwnI.ext hq hxb
        | 2, hd, hq => have := (hd (2, 32) (by decide)).1; show Is _ (u' 32) _; simp only [this]; exact hq
        | 3, hd, hq =>
          obtain ⟨e1, e2⟩ := hd (3, 33) (by decide)
          simp only at e1 e2
          show OwnI (T' 3).1 (T' 3).2 wb (u' 33) s
          rw [e1, e2]; exact OwnI.ext hq hxb
        | 4, hd, hq => exact (hd (4, 34) (by decide)).1.trans hq
        | 5, hd, ⟨a, q1, q2⟩ =>
          obtain ⟨e1, e2⟩ := hd (5, 35) (by decide)
          simp only at e1 e2
          exact ⟨a, e1.trans q1, by rw [e2]; exact q2.ext hxb⟩
        | 6, hd, ⟨q0, a, b, q1⟩ =>
          have e1 := (hd (6, 29) (by decide)).1
          have e2 := (hd (5, 35) (by decide)).1
          simp only at e1 e2
          exact ⟨by rw [e1, e2]; exact q0, a, b, e1.trans q1⟩
        | 7, hd, ⟨a, b, q1, q2⟩ => exact ⟨a, b, (hd (6, 29) (by decide)).1.trans q1, (hd (7, 36) (by decide)).1.trans q2⟩
        | 8, hd, ⟨a, b, q1, q2⟩ => exact ⟨a, b, (hd (6, 29) (by decide)).1.trans q1, (hd (8, 37) (by decide)).1.trans q2⟩
        | 9, hd, ⟨g, q1, q2, q3, q4⟩ =>
          obtain ⟨e1, e2⟩ := hd (9, 8) (by decide)
          simp only at e1 e2
          exact ⟨g, e1.trans q1, by rw [e2]; exact q2, by rw [e2]; exact q3, q4.ext hxb⟩
        | n + 10, _, _ => trivial
      · refine ⟨fun u T w' hx _ _ => ?_, fun u T w' hx _ hp => ?_, fun u T w' hx _ _ => ?_, fun u T w' hx _ hp => ?_, fun u T w' hx _ _ => ?_, fun u T w' hx _ hp => ?_, fun u T w' hx _ hp => ?_, fun u T w' hx _ hp => ?_, fun u T w' hx _ hp => ?_, fun u T w' hx _ _ => ?_, trivial⟩
        · exact rd_var hV3 ((hx2_.trans (hx3_.trans hx4_)).trans (hxd8.trans hx)) ⟨Ext.refl _, hI08⟩
        · have q0 : Is _ (u 30) c := hp.1
          exact (toCode_ok (q0.ext hx) hcd).mono fun r w5 ⟨hx5, ho⟩ => ⟨hx5, ho.toI⟩
        · exact rd_var hV4 ((hx3_.trans hx4_).trans (hxd8.trans hx)) ⟨Ext.refl _, hI18⟩
        · have q0 : Is _ (u 32) s := hp.1
          exact (toState_ok (q0.ext hx) hst).mono fun r w5 ⟨hx5, ho⟩ => ⟨hx5, ho.toI⟩
        · exact ⟨Ext.refl _, rfl⟩
        · have q1 : OwnI _ _ _ (u 31) c := hp.1
          have q3 : OwnI _ _ _ (u 33) s := hp.2.1
          have q4 : u 34 = _ := hp.2.2.1
          rw [q4]
          exact (specStepOf_ok q1.is (Ext.refl _) q3.is (Ext.refl _) hsz).mono fun r w5 ⟨hx5, a, hr, ho⟩ => ⟨hx5, a, hr, ho.toI⟩
        · obtain ⟨a, q1, _⟩ : ∃ a, u 35 = .tuple #[a, _] ∧ _ := hp.1
          exact ⟨Ext.refl _, rfl, a, _, q1⟩
        · obtain ⟨_, a, b, q1⟩ : u 29 = u 35 ∧ ∃ a b, u 29 = .tuple #[a, b] := hp.1
          rw [q1]
          exact rd_extract rfl ⟨Ext.refl _, a, b, q1, rfl⟩
        · obtain ⟨_, a, b, q1⟩ : u 29 = u 35 ∧ ∃ a b, u 29 = .tuple #[a, b] := hp.1
          rw [q1]
          exact rd_extract rfl ⟨Ext.refl _, a, b, q1, rfl⟩
        · exact op_alloc zlSt fun w5 hx5 hB => ⟨hx5, w'.heap.size, rfl, Nat.le_refl _, hB.lt, hB⟩
      rintro u8 T w8p hx8p hap ⟨-, -, -, -, -, q5, q6, q7, q8, ⟨gg, q9, hg0, hg1, hB⟩, -⟩
      obtain ⟨a8, e5, o5⟩ : ∃ a, u8 35 = .tuple #[a, .bool (decide ((CodeR c ∧ StateR c s) ∧ GoR c s t))] ∧ OwnI (T 5).1 (T 5).2 w8p a (stepOf c s t) := q5
      obtain ⟨e6, _⟩ : u8 29 = u8 35 ∧ _ := q6
      obtain ⟨a7, b7, e7, e7'⟩ : ∃ a b, u8 29 = .tuple #[a, b] ∧ u8 36 = a := q7
      obtain ⟨a8, b8, e8, e8'⟩ : ∃ a b, u8 29 = .tuple #[a, b] ∧ u8 37 = b := q8
      have t5 := hap.1 5 (by decide)
      have t9 := hap.1 9 (by decide)
      have d59 := hap.2 5 (by decide) 9 (by decide) (by decide)
      obtain ⟨lo8p, hlo5⟩ : ∃ x, (T 5).1 = x := ⟨_, rfl⟩
      obtain ⟨hi8p, hhi5⟩ : ∃ x, (T 5).2 = x := ⟨_, rfl⟩
      rw [hlo5, hhi5] at o5 t5 d59
      rw [e6, e5] at e7 e8
      simp only [Value.tuple.injEq, Array.mk.injEq, List.cons.injEq, and_true] at e7 e8
      rw [← e7.1] at e7'
      rw [← e8.2] at e8'
      rw [q9, e7', e8']
      obtain ⟨x1, x2, x3, rfl⟩ := agg3S o5
      have hs8p := hx8p.size
      refine opu_blkS ty32 rfl hB rfl o5 fun w8q hc8q hB8q => ?_
      have hs8q := hc8q.size
      have o8p := o5.chg hc8q (by omega)
      have hA8p := at_of_blk rfl hB8q o8p.is
      have hV8p : Var Tryz.prog 32 w8q gg _ := ⟨_, _, _, hB8q, rfl, ty32⟩
      have hgg8 := hV8p.lt
      have hx8q : Ext w4_ w8q := Ext.chgI (hxd8.trans hx8p) hc8q (by omega)
      clear hap q9 e7' e8' hB hlo5 hhi5
      have hs_hx8q := hx8q.size
      refine rd_var hV3 (hx2_.trans (hx3_.trans (hx4_.trans hx8q))) ?_
      refine (toCode_ok (h0.ext (e0.trans (hx1_.trans (hx2_.trans (hx3_.trans (hx4_.trans hx8q)))))) (by omega)).mono ?_
      rintro r39 w5_ ⟨hx5_, o39⟩
      have o39 := o39.toI
      have hs_hx5_ := hx5_.size
      refine op_var zl37 rfl ty37 rfl o39.is (Ext.refl w5_) fun w6_ hx6_ hA10 hV10 => ?_
      have hs_hx6_ := hx6_.size
      have hg10 := hV10.lt
      refine rd_var hV4 (hx3_.trans (hx4_.trans (hx8q.trans (hx5_.trans hx6_)))) ?_
      refine (toState_ok (h1.ext (e1.trans (hx1_.trans (hx2_.trans (hx3_.trans (hx4_.trans (hx8q.trans (hx5_.trans hx6_)))))))) (by assumption)).mono ?_
      rintro r41 w7_ ⟨hx7_, o41⟩
      have o41 := o41.toI
      have hs_hx7_ := hx7_.size
      refine op_var zl32 rfl ty32 rfl o41.is (Ext.refl w7_) fun w8_ hx8_ hA11 hV11 => ?_
      have hs_hx8_ := hx8_.size
      have hg11 := hV11.lt
      refine rd_var hV10 (hx7_.trans hx8_) ?_
      refine rd_var hV11 (Ext.refl w8_) ?_
      refine (implStepOf_ok o39.is (hx6_.trans (hx7_.trans hx8_)) o41.is hx8_ (by assumption)).mono ?_
      rintro _ w9_ ⟨hx9_, r46_0, rfl, o46_0⟩
      have o46_0 := o46_0.toI
      have hs_hx9_ := hx9_.size
      refine rd_extract rfl ?_
      refine rd_extract rfl ?_
      refine op_var zl32 rfl ty32 rfl o46_0.is (Ext.refl w9_) fun w10_ hx10_ hA12 hV12 => ?_
      have hs_hx10_ := hx10_.size
      have hg12 := hV12.lt
      refine rd_var hV12 (Ext.refl w10_) ?_
      refine rd_var hV8p (hx5_.trans (hx6_.trans (hx7_.trans (hx8_.trans (hx9_.trans hx10_))))) ?_
      refine (eqState_ok o46_0.is hx10_ o8p.is (hx5_.trans (hx6_.trans (hx7_.trans (hx8_.trans (hx9_.trans hx10_)))))).mono ?_
      rintro _ w11_ ⟨hx11_, rfl⟩
      have hs_hx11_ := hx11_.size
      refine rd_nodec ?_
      refine br (fun c3 => ?_) (fun c3 => ?_)
      · refine ⟨(hx1_.trans (hx2_.trans (hx3_.trans (hx4_.trans (hx8q.trans (hx5_.trans (hx6_.trans (hx7_.trans (hx8_.trans (hx9_.trans (hx10_.trans hx11_))))))))))), ?_⟩
        first | rfl | contradiction | (exfalso; omega)
      · refine rd_neqB u4 ?_
        refine br (fun c4 => ?_) (fun c4 => ?_)
        · refine ⟨(hx1_.trans (hx2_.trans (hx3_.trans (hx4_.trans (hx8q.trans (hx5_.trans (hx6_.trans (hx7_.trans (hx8_.trans (hx9_.trans (hx10_.trans hx11_))))))))))), ?_⟩
          first | rfl | contradiction | (exfalso; omega)
        · have hx12_ := ext_drew w11_
          have hs_hx12_ := hx12_.size
          refine rd_var hV10 (hx7_.trans (hx8_.trans (hx9_.trans (hx10_.trans (hx11_.trans hx12_))))) ?_
          refine rd_var hV3 (hx2_.trans (hx3_.trans (hx4_.trans (hx8q.trans (hx5_.trans (hx6_.trans (hx7_.trans (hx8_.trans (hx9_.trans (hx10_.trans (hx11_.trans hx12_))))))))))) ?_
          refine (toCode_ok (h0.ext (e0.trans (hx1_.trans (hx2_.trans (hx3_.trans (hx4_.trans (hx8q.trans (hx5_.trans (hx6_.trans (hx7_.trans (hx8_.trans (hx9_.trans (hx10_.trans (hx11_.trans hx12_)))))))))))))) (by omega)).mono ?_
          rintro r60 w13_ ⟨hx13_, o60⟩
          have o60 := o60.toI
          have hs_hx13_ := hx13_.size
          refine ⟨hx13_, ?_⟩
          refine (eqCode_ok o39.is (hx6_.trans (hx7_.trans (hx8_.trans (hx9_.trans (hx10_.trans (hx11_.trans (hx12_.trans hx13_))))))) o60.is (Ext.refl w13_)).mono ?_
          rintro _ w14_ ⟨hx14_, rfl⟩
          have hs_hx14_ := hx14_.size
          refine rd_nodec ?_
          refine br (fun c5 => ?_) (fun c5 => ?_)
          · refine ⟨(hx1_.trans (hx2_.trans (hx3_.trans (hx4_.trans (hx8q.trans (hx5_.trans (hx6_.trans (hx7_.trans (hx8_.trans (hx9_.trans (hx10_.trans (hx11_.trans (hx12_.trans (hx13_.trans hx14_)))))))))))))), ?_⟩
            first | rfl | contradiction | (exfalso; omega)
          · have hx15_ := ext_drew w14_
            have hs_hx15_ := hx15_.size
            refine rd_var hV11 (hx9_.trans (hx10_.trans (hx11_.trans (hx12_.trans (hx13_.trans (hx14_.trans hx15_)))))) ?_
            refine rd_var hV4 (hx3_.trans (hx4_.trans (hx8q.trans (hx5_.trans (hx6_.trans (hx7_.trans (hx8_.trans (hx9_.trans (hx10_.trans (hx11_.trans (hx12_.trans (hx13_.trans (hx14_.trans hx15_))))))))))))) ?_
            refine (toState_ok (h1.ext (e1.trans (hx1_.trans (hx2_.trans (hx3_.trans (hx4_.trans (hx8q.trans (hx5_.trans (hx6_.trans (hx7_.trans (hx8_.trans (hx9_.trans (hx10_.trans (hx11_.trans (hx12_.trans (hx13_.trans (hx14_.trans hx15_))))))))))))))))) (by assumption)).mono ?_
            rintro r65 w16_ ⟨hx16_, o65⟩
            have o65 := o65.toI
            have hs_hx16_ := hx16_.size
            refine ⟨hx16_, ?_⟩
            refine (eqState_ok o41.is (hx8_.trans (hx9_.trans (hx10_.trans (hx11_.trans (hx12_.trans (hx13_.trans (hx14_.trans (hx15_.trans hx16_)))))))) o65.is (Ext.refl w16_)).mono ?_
            rintro _ w17_ ⟨hx17_, rfl⟩
            have hs_hx17_ := hx17_.size
            refine rd_nodec ?_
            refine br (fun c6 => ?_) (fun c6 => ?_)
            · refine ⟨(hx1_.trans (hx2_.trans (hx3_.trans (hx4_.trans (hx8q.trans (hx5_.trans (hx6_.trans (hx7_.trans (hx8_.trans (hx9_.trans (hx10_.trans (hx11_.trans (hx12_.trans (hx13_.trans (hx14_.trans (hx15_.trans (hx16_.trans hx17_))))))))))))))))), ?_⟩
              first | rfl | contradiction | (exfalso; omega)
            · refine rd_var hV10 (hx7_.trans (hx8_.trans (hx9_.trans (hx10_.trans (hx11_.trans (hx12_.trans (hx13_.trans (hx14_.trans (hx15_.trans (hx16_.trans hx17_)))))))))) ?_
              refine (markCode_ok (o39.ext (hx6_.trans (hx7_.trans (hx8_.trans (hx9_.trans (hx10_.trans (hx11_.trans (hx12_.trans (hx13_.trans (hx14_.trans (hx15_.trans (hx16_.trans hx17_)))))))))))) (by omega) (by omega) (by omega)).mono ?_
              rintro _ w18_ ⟨n70, rfl, hn70, hc18_⟩
              have hs_hc18_ := hc18_.size
              have hV8p_c18 := (hV8p.ext (hx5_.trans (hx6_.trans (hx7_.trans (hx8_.trans (hx9_.trans (hx10_.trans (hx11_.trans (hx12_.trans (hx13_.trans (hx14_.trans (hx15_.trans (hx16_.trans hx17_))))))))))))).chgI hc18_ (by omega)
              have o8p_c18 := (o8p.ext (hx5_.trans (hx6_.trans (hx7_.trans (hx8_.trans (hx9_.trans (hx10_.trans (hx11_.trans (hx12_.trans (hx13_.trans (hx14_.trans (hx15_.trans (hx16_.trans hx17_))))))))))))).chg hc18_ (by omega)
              have hV10_c18 := (hV10.ext (hx7_.trans (hx8_.trans (hx9_.trans (hx10_.trans (hx11_.trans (hx12_.trans (hx13_.trans (hx14_.trans (hx15_.trans (hx16_.trans hx17_))))))))))).chgI hc18_ (by omega)
              have o41_c18 := (o41.ext (hx8_.trans (hx9_.trans (hx10_.trans (hx11_.trans (hx12_.trans (hx13_.trans (hx14_.trans (hx15_.trans (hx16_.trans hx17_)))))))))).chg hc18_ (by omega)
              have hV11_c18 := (hV11.ext (hx9_.trans (hx10_.trans (hx11_.trans (hx12_.trans (hx13_.trans (hx14_.trans (hx15_.trans (hx16_.trans hx17_))))))))).chgI hc18_ (by omega)
              have o46_0_c18 := (o46_0.ext (hx10_.trans (hx11_.trans (hx12_.trans (hx13_.trans (hx14_.trans (hx15_.trans (hx16_.trans hx17_)))))))).chg hc18_ (by omega)
              have hV12_c18 := (hV12.ext (hx11_.trans (hx12_.trans (hx13_.trans (hx14_.trans (hx15_.trans (hx16_.trans hx17_))))))).chgI hc18_ (by omega)
              have o60_c18 := (o60.ext (hx14_.trans (hx15_.trans (hx16_.trans hx17_)))).chg hc18_ (by omega)
              have o65_c18 := (o65.ext hx17_).chg hc18_ (by omega)
              refine rd_var hV11_c18 (Ext.refl w18_) ?_
              refine (markState_ok (o41_c18.ext (Ext.refl w18_)) (by omega) (by omega) (by omega)).mono ?_
              rintro _ w19_ ⟨rfl, hc19_, o41_c19⟩
              have hs_hc19_ := hc19_.size
              have hV8p_c19 := (hV8p_c18.ext (Ext.refl w18_)).chgI hc19_ (by omega)
              have o8p_c19 := (o8p_c18.ext (Ext.refl w18_)).chg hc19_ (by omega)
              have hV11_c19 := (hV11_c18.ext (Ext.refl w18_)).chgI hc19_ (by omega)
              have o46_0_c19 := (o46_0_c18.ext (Ext.refl w18_)).chg hc19_ (by omega)
              have hV12_c19 := (hV12_c18.ext (Ext.refl w18_)).chgI hc19_ (by omega)
              have o60_c19 := (o60_c18.ext (Ext.refl w18_)).chg hc19_ (by omega)
              have o65_c19 := (o65_c18.ext (Ext.refl w18_)).chg hc19_ (by omega)
              refine rd_lss ?_
              refine br (fun c7 => ?_) (fun c7 => ?_)
              · refine ⟨(Ext.chgI (Ext.chgI (((((((((((((((((hx1_.trans hx2_).trans hx3_).trans hx4_).trans hx8q).trans hx5_).trans hx6_).trans hx7_).trans hx8_).trans hx9_).trans hx10_).trans hx11_).trans hx12_).trans hx13_).trans hx14_).trans hx15_).trans hx16_).trans hx17_) hc18_ (by omega)) hc19_ (by omega)), ?_⟩
                first | rfl | contradiction | (exfalso; omega)
              · refine rd_var hV12_c19 (Ext.refl w19_) ?_
                refine rd_var hV8p_c19 (Ext.refl w19_) ?_
                refine (eqState_ok o46_0_c19.is (Ext.refl w19_) o8p_c19.is (Ext.refl w19_)).mono ?_
                rintro _ w20_ ⟨hx20_, rfl⟩
                have hs_hx20_ := hx20_.size
                refine rd_nodec ?_
                refine br (fun c8 => ?_) (fun c8 => ?_)
                · refine ⟨((Ext.chgI (Ext.chgI (((((((((((((((((hx1_.trans hx2_).trans hx3_).trans hx4_).trans hx8q).trans hx5_).trans hx6_).trans hx7_).trans hx8_).trans hx9_).trans hx10_).trans hx11_).trans hx12_).trans hx13_).trans hx14_).trans hx15_).trans hx16_).trans hx17_) hc18_ (by omega)) hc19_ (by omega)).trans hx20_), ?_⟩
                  first | rfl | contradiction | (exfalso; omega)
                · refine rd_neqB u4 ?_
                  refine br (fun c9 => ?_) (fun c9 => ?_)
                  · refine ⟨((Ext.chgI (Ext.chgI (((((((((((((((((hx1_.trans hx2_).trans hx3_).trans hx4_).trans hx8q).trans hx5_).trans hx6_).trans hx7_).trans hx8_).trans hx9_).trans hx10_).trans hx11_).trans hx12_).trans hx13_).trans hx14_).trans hx15_).trans hx16_).trans hx17_) hc18_ (by omega)) hc19_ (by omega)).trans hx20_), ?_⟩
                    first | rfl | contradiction | (exfalso; omega)
                  · refine rd_var hV12_c19 hx20_ ?_
                    refine (markState_ok (o46_0_c19.ext hx20_) (by omega) (by omega) (by omega)).mono ?_
                    rintro _ w21_ ⟨rfl, hc21_, o46_0_c21⟩
                    have hs_hc21_ := hc21_.size
                    have hV8p_c21 := (hV8p_c19.ext hx20_).chgI hc21_ (by omega)
                    have o8p_c21 := (o8p_c19.ext hx20_).chg hc21_ (by omega)
                    have o41_c21 := (o41_c19.ext hx20_).chg hc21_ (by omega)
                    have hV11_c21 := (hV11_c19.ext hx20_).chgI hc21_ (by omega)
                    have hV12_c21 := (hV12_c19.ext hx20_).chgI hc21_ (by omega)
                    have o60_c21 := (o60_c19.ext hx20_).chg hc21_ (by omega)
                    have o65_c21 := (o65_c19.ext hx20_).chg hc21_ (by omega)
                    refine rd_var hV12_c21 (Ext.refl w21_) ?_
                    refine (heldState_ok o46_0_c21.is (Ext.refl w21_) (by omega) (by omega) (by omega)).mono ?_
                    rintro _ w22_ ⟨hx22_, rfl⟩
                    have hs_hx22_ := hx22_.size
                    refine rd_lss ?_
                    refine br (fun c10 => ?_) (fun c10 => ?_)
                    · refine ⟨((Ext.chgI ((Ext.chgI (Ext.chgI (((((((((((((((((hx1_.trans hx2_).trans hx3_).trans hx4_).trans hx8q).trans hx5_).trans hx6_).trans hx7_).trans hx8_).trans hx9_).trans hx10_).trans hx11_).trans hx12_).trans hx13_).trans hx14_).trans hx15_).trans hx16_).trans hx17_) hc18_ (by omega)) hc19_ (by omega)).trans hx20_) hc21_ (by omega)).trans hx22_), ?_⟩
                      first | rfl | contradiction | (exfalso; omega)
                    · refine rd_neq ?_
                      refine br (fun c11 => ?_) (fun c11 => ?_)
                      · refine ⟨((Ext.chgI ((Ext.chgI (Ext.chgI (((((((((((((((((hx1_.trans hx2_).trans hx3_).trans hx4_).trans hx8q).trans hx5_).trans hx6_).trans hx7_).trans hx8_).trans hx9_).trans hx10_).trans hx11_).trans hx12_).trans hx13_).trans hx14_).trans hx15_).trans hx16_).trans hx17_) hc18_ (by omega)) hc19_ (by omega)).trans hx20_) hc21_ (by omega)).trans hx22_), ?_⟩
                        first | rfl | contradiction | (exfalso; omega)
                      · have hxd31 := ext_drew w22_
                        have hsd31 := hxd31.size
                        have hI031 := h0.ext (((Ext.chgI ((Ext.chgI (Ext.chgI ((((((((((((((((((e0.trans hx1_).trans hx2_).trans hx3_).trans hx4_).trans hx8q).trans hx5_).trans hx6_).trans hx7_).trans hx8_).trans hx9_).trans hx10_).trans hx11_).trans hx12_).trans hx13_).trans hx14_).trans hx15_).trans hx16_).trans hx17_) hc18_ (by omega)) hc19_ (by omega)).trans hx20_) hc21_ (by omega)).trans hx22_).trans hxd31)
                        have hI131 := h1.ext (((Ext.chgI ((Ext.chgI (Ext.chgI ((((((((((((((((((e1.trans hx1_).trans hx2_).trans hx3_).trans hx4_).trans hx8q).trans hx5_).trans hx6_).trans hx7_).trans hx8_).trans hx9_).trans hx10_).trans hx11_).trans hx12_).trans hx13_).trans hx14_).trans hx15_).trans hx16_).trans hx17_) hc18_ (by omega)) hc19_ (by omega)).trans hx20_) hc21_ (by omega)).trans hx22_).trans hxd31)
                        refine PAR.mk (soQ (World.drew1 w22_) c s t (decide ((CodeR c ∧ StateR c s) ∧ GoR c s t)) (stepOf c s t) 99 100 101 102 103 104 98 105 106 17) ?_ ?_ ?_
                        · intro i u u' T T' wa wb hxa hxb hd hq
                          match i, hd, hq with
                          | 0, hd, hq => have := (hd (0, 99) (by decide)).1; show Is _ (u' 99) _; simp only [this]; exact hq
                          | 1, hd, hq =>
                            obtain ⟨e1, e2⟩ := hd (1, 100) (by decide)
                            simp only at e1 e2
                            show OwnI (T' 1).1 (T' 1).2 wb (u' 100) c
                            rw [e1, e2]; exact OwnI.ext hq hxb
                          | 2, hd, hq => have := (hd (2, 101) (by decide)).1; show Is _ (u' 101) _; simp only [this]; exact hq
                          | 3, hd, hq =>
                            obtain ⟨e1, e2⟩ := hd (3, 102) (by decide)
                            simp only at e1 e2
                            show OwnI (T' 3).1 (T' 3).2 wb (u' 102) s
                            rw [e1, e2]; exact OwnI.ext hq hxb
                          | 4, hd, hq => exact (hd (4, 103) (by decide)).1.trans hq
                          | 5, hd, ⟨a, q1, q2⟩ =>
                            obtain ⟨e1, e2⟩ := hd (5, 104) (by decide)
                            simp only at e1 e2
                            exact ⟨a, e1.trans q1, by rw [e2]; exact q2.ext hxb⟩
                          | 6, hd, ⟨q0, a, b, q1⟩ =>
                            have e1 := (hd (6, 98) (by decide)).1
                            have e2 := (hd (5, 104) (by decide)).1
                            simp only at e1 e2
                            exact ⟨by rw [e1, e2]; exact q0, a, b, e1.trans q1⟩
                          | 7, hd, ⟨a, b, q1, q2⟩ => exact ⟨a, b, (hd (6, 98) (by decide)).1.trans q1, (hd (7, 105) (by decide)).1.trans q2⟩
                          | 8, hd, ⟨a, b, q1, q2⟩ => exact ⟨a, b, (hd (6, 98) (by decide)).1.trans q1, (hd (8, 106) (by decide)).1.trans q2⟩
                          | 9, hd, ⟨g, q1, q2, q3, q4⟩ =>
                            obtain ⟨e1, e2⟩ := hd (9, 17) (by decide)
                            simp only at e1 e2
                            exact ⟨g, e1.trans q1, by rw [e2]; exact q2, by rw [e2]; exact q3, q4.ext hxb⟩
                          | n + 10, _, _ => trivial
                        · refine ⟨fun u T w' hx _ _ => ?_, fun u T w' hx _ hp => ?_, fun u T w' hx _ _ => ?_, fun u T w' hx _ hp => ?_, fun u T w' hx _ _ => ?_, fun u T w' hx _ hp => ?_, fun u T w' hx _ hp => ?_, fun u T w' hx _ hp => ?_, fun u T w' hx _ hp => ?_, fun u T w' hx _ _ => ?_, trivial⟩
                          · exact rd_var hV3 (((Ext.chgI ((Ext.chgI (Ext.chgI ((((((((((((((((hx2_.trans hx3_).trans hx4_).trans hx8q).trans hx5_).trans hx6_).trans hx7_).trans hx8_).trans hx9_).trans hx10_).trans hx11_).trans hx12_).trans hx13_).trans hx14_).trans hx15_).trans hx16_).trans hx17_) hc18_ (by omega)) hc19_ (by omega)).trans hx20_) hc21_ (by omega)).trans hx22_).trans (hxd31.trans hx)) ⟨Ext.refl _, hI031⟩
                          · have q0 : Is _ (u 99) c := hp.1
                            exact (toCode_ok (q0.ext hx) hcd).mono fun r w5 ⟨hx5, ho⟩ => ⟨hx5, ho.toI⟩
                          · exact rd_var hV4 (((Ext.chgI ((Ext.chgI (Ext.chgI (((((((((((((((hx3_.trans hx4_).trans hx8q).trans hx5_).trans hx6_).trans hx7_).trans hx8_).trans hx9_).trans hx10_).trans hx11_).trans hx12_).trans hx13_).trans hx14_).trans hx15_).trans hx16_).trans hx17_) hc18_ (by omega)) hc19_ (by omega)).trans hx20_) hc21_ (by omega)).trans hx22_).trans (hxd31.trans hx)) ⟨Ext.refl _, hI131⟩
                          · have q0 : Is _ (u 101) s := hp.1
                            exact (toState_ok (q0.ext hx) hst).mono fun r w5 ⟨hx5, ho⟩ => ⟨hx5, ho.toI⟩
                          · exact ⟨Ext.refl _, rfl⟩
                          · have q1 : OwnI _ _ _ (u 100) c := hp.1
                            have q3 : OwnI _ _ _ (u 102) s := hp.2.1
                            have q4 : u 103 = _ := hp.2.2.1
                            rw [q4]
                            exact (implStepOf_ok q1.is (Ext.refl _) q3.is (Ext.refl _) hsz).mono fun r w5 ⟨hx5, a, hr, ho⟩ => ⟨hx5, a, hr, ho.toI⟩
                          · obtain ⟨a, q1, _⟩ : ∃ a, u 104 = .tuple #[a, _] ∧ _ := hp.1
                            exact ⟨Ext.refl _, rfl, a, _, q1⟩
                          · obtain ⟨_, a, b, q1⟩ : u 98 = u 104 ∧ ∃ a b, u 98 = .tuple #[a, b] := hp.1
                            rw [q1]
                            exact rd_extract rfl ⟨Ext.refl _, a, b, q1, rfl⟩
                          · obtain ⟨_, a, b, q1⟩ : u 98 = u 104 ∧ ∃ a b, u 98 = .tuple #[a, b] := hp.1
                            rw [q1]
                            exact rd_extract rfl ⟨Ext.refl _, a, b, q1, rfl⟩
                          · exact op_alloc zlSt fun w5 hx5 hB => ⟨hx5, w'.heap.size, rfl, Nat.le_refl _, hB.lt, hB⟩
                        rintro u31 T w31p hx31p hap ⟨-, -, -, -, -, q5, q6, q7, q8, ⟨gg, q9, hg0, hg1, hB⟩, -⟩
                        obtain ⟨a31, e5, o5⟩ : ∃ a, u31 104 = .tuple #[a, .bool (decide ((CodeR c ∧ StateR c s) ∧ GoR c s t))] ∧ OwnI (T 5).1 (T 5).2 w31p a (stepOf c s t) := q5
                        obtain ⟨e6, _⟩ : u31 98 = u31 104 ∧ _ := q6
                        obtain ⟨a7, b7, e7, e7'⟩ : ∃ a b, u31 98 = .tuple #[a, b] ∧ u31 105 = a := q7
                        obtain ⟨a8, b8, e8, e8'⟩ : ∃ a b, u31 98 = .tuple #[a, b] ∧ u31 106 = b := q8
                        have t5 := hap.1 5 (by decide)
                        have t9 := hap.1 9 (by decide)
                        have d59 := hap.2 5 (by decide) 9 (by decide) (by decide)
                        obtain ⟨lo31p, hlo5⟩ : ∃ x, (T 5).1 = x := ⟨_, rfl⟩
                        obtain ⟨hi31p, hhi5⟩ : ∃ x, (T 5).2 = x := ⟨_, rfl⟩
                        rw [hlo5, hhi5] at o5 t5 d59
                        rw [e6, e5] at e7 e8
                        simp only [Value.tuple.injEq, Array.mk.injEq, List.cons.injEq, and_true] at e7 e8
                        rw [← e7.1] at e7'
                        rw [← e8.2] at e8'
                        rw [q9, e7', e8']
                        obtain ⟨x1, x2, x3, rfl⟩ := agg3S o5
                        have hs31p := hx31p.size
                        refine opu_blkS ty32 rfl hB rfl o5 fun w31q hc31q hB31q => ?_
                        have hs31q := hc31q.size
                        have o31p := o5.chg hc31q (by omega)
                        have hA31p := at_of_blk rfl hB31q o31p.is
                        have hV31p : Var Tryz.prog 32 w31q gg _ := ⟨_, _, _, hB31q, rfl, ty32⟩
                        have hgg31 := hV31p.lt
                        have hx31q : Ext w22_ w31q := Ext.chgI (hxd31.trans hx31p) hc31q (by omega)
                        clear hap q9 e7' e8' hB hlo5 hhi5
                        have hs_hx31q := hx31q.size
                        refine rd_var hV31p (Ext.refl w31q) ?_
                        refine rd_var hV8p_c21 (hx22_.trans hx31q) ?_
                        refine (eqState_ok o31p.is (Ext.refl w31q) o8p_c21.is (hx22_.trans hx31q)).mono ?_
                        rintro _ w23_ ⟨hx23_, rfl⟩
                        have hs_hx23_ := hx23_.size
                        refine rd_nodec ?_
                        refine br (fun c12 => ?_) (fun c12 => ?_)
                        · refine ⟨((((Ext.chgI ((Ext.chgI (Ext.chgI (((((((((((((((((hx1_.trans hx2_).trans hx3_).trans hx4_).trans hx8q).trans hx5_).trans hx6_).trans hx7_).trans hx8_).trans hx9_).trans hx10_).trans hx11_).trans hx12_).trans hx13_).trans hx14_).trans hx15_).trans hx16_).trans hx17_) hc18_ (by omega)) hc19_ (by omega)).trans hx20_) hc21_ (by omega)).trans hx22_).trans hx31q).trans hx23_), ?_⟩
                          first | rfl | contradiction | (exfalso; omega)
                        · refine rd_neqB u4 ?_
                          refine br (fun c13 => ?_) (fun c13 => ?_)
                          · refine ⟨((((Ext.chgI ((Ext.chgI (Ext.chgI (((((((((((((((((hx1_.trans hx2_).trans hx3_).trans hx4_).trans hx8q).trans hx5_).trans hx6_).trans hx7_).trans hx8_).trans hx9_).trans hx10_).trans hx11_).trans hx12_).trans hx13_).trans hx14_).trans hx15_).trans hx16_).trans hx17_) hc18_ (by omega)) hc19_ (by omega)).trans hx20_) hc21_ (by omega)).trans hx22_).trans hx31q).trans hx23_), ?_⟩
                            first | rfl | contradiction | (exfalso; omega)
                          · refine rd_var hV12_c21 (hx22_.trans (hx31q.trans hx23_)) ?_
                            refine (heldState_ok o46_0_c21.is (hx22_.trans (hx31q.trans hx23_)) (by omega) (by omega) (by omega)).mono ?_
                            rintro _ w24_ ⟨hx24_, rfl⟩
                            have hs_hx24_ := hx24_.size
                            refine rd_lss ?_
                            refine br (fun c14 => ?_) (fun c14 => ?_)
                            · refine ⟨(((((Ext.chgI ((Ext.chgI (Ext.chgI (((((((((((((((((hx1_.trans hx2_).trans hx3_).trans hx4_).trans hx8q).trans hx5_).trans hx6_).trans hx7_).trans hx8_).trans hx9_).trans hx10_).trans hx11_).trans hx12_).trans hx13_).trans hx14_).trans hx15_).trans hx16_).trans hx17_) hc18_ (by omega)) hc19_ (by omega)).trans hx20_) hc21_ (by omega)).trans hx22_).trans hx31q).trans hx23_).trans hx24_), ?_⟩
                              first | rfl | contradiction | (exfalso; omega)
                            · refine rd_neq ?_
                              refine br (fun c15 => ?_) (fun c15 => ?_)
                              · refine ⟨(((((Ext.chgI ((Ext.chgI (Ext.chgI (((((((((((((((((hx1_.trans hx2_).trans hx3_).trans hx4_).trans hx8q).trans hx5_).trans hx6_).trans hx7_).trans hx8_).trans hx9_).trans hx10_).trans hx11_).trans hx12_).trans hx13_).trans hx14_).trans hx15_).trans hx16_).trans hx17_) hc18_ (by omega)) hc19_ (by omega)).trans hx20_) hc21_ (by omega)).trans hx22_).trans hx31q).trans hx23_).trans hx24_), ?_⟩
                                first | rfl | contradiction | (exfalso; omega)
                              · refine ⟨(((((Ext.chgI ((Ext.chgI (Ext.chgI (((((((((((((((((hx1_.trans hx2_).trans hx3_).trans hx4_).trans hx8q).trans hx5_).trans hx6_).trans hx7_).trans hx8_).trans hx9_).trans hx10_).trans hx11_).trans hx12_).trans hx13_).trans hx14_).trans hx15_).trans hx16_).trans hx17_) hc18_ (by omega)) hc19_ (by omega)).trans hx20_) hc21_ (by omega)).trans hx22_).trans hx31q).trans hx23_).trans hx24_), ?_⟩
                                first | rfl | contradiction | (exfalso; omega)

end Go.Proofs.YteephmhilnlkpaaGreat
