/-
  Copies of states: their stacks may be appended to.
-/
import Derived.Test.YteephmhilnlkpaaGreatConv
import Derived.Test.YteephmhilnlkpaaGreatRv
namespace Go.Sh
set_option linter.unusedVariables false
open Rep (rep)
abbrev RInts := RV Int 3
abbrev RIntss := RV RInts 23
structure DStV where
  vars : List Int
  owner : List Int
  stacks : RIntss
theorem DStV.ext_iff {x y : DStV} : x = y ↔ (x.vars = y.vars ∧ x.owner = y.owner ∧ x.stacks = y.stacks) := ⟨fun h => by rw [h]; exact ⟨rfl, rfl, rfl⟩, fun h => by obtain ⟨h0, h1, h2⟩ := h; cases x; cases y; simp only at h0 h1 h2; simp only [h0, h1, h2]⟩
instance : Rep DStV := Rep.via fun x => (x.vars, x.owner, x.stacks)
theorem at_DStV_0 {w : World} {b o : Nat} {x : DStV} (h : At w b o x) : At w b (o + 0) x.vars := at_fst (α := List Int) (β := (List Int) × RIntss) (p := (x.vars, x.owner, x.stacks)) h
theorem at_DStV_1 {w : World} {b o : Nat} {x : DStV} (h : At w b o x) : At w b (o + 1) x.owner := at_fst (α := List Int) (β := RIntss) (p := (x.owner, x.stacks)) (at_snd (α := List Int) (β := (List Int) × RIntss) (p := (x.vars, x.owner, x.stacks)) h)
theorem at_DStV_2 {w : World} {b o : Nat} {x : DStV} (h : At w b o x) : At w b (o + 2) x.stacks := at_snd (α := List Int) (β := RIntss) (p := (x.owner, x.stacks)) (at_snd (α := List Int) (β := (List Int) × RIntss) (p := (x.vars, x.owner, x.stacks)) h)
theorem rep_DStV {w : World} {x : DStV} {F0 : List Nat} {c0 : List Value} (h0 : rep F0 w c0 x.vars) {F1 : List Nat} {c1 : List Value} (h1 : rep F1 w c1 x.owner) {F2 : List Nat} {c2 : List Value} (h2 : rep F2 w c2 x.stacks) : rep (F0 ++ (F1 ++ F2)) w (c0 ++ (c1 ++ c2)) x := mine_prod h0 (mine_prod h1 (h2))
instance : RepZ DStV := ⟨⟨(RepZ.zv : List Int), (RepZ.zv : List Int), (RepZ.zv : RIntss)⟩, RepZ.zc ((List Int) × (List Int) × RIntss), fun w => RepZ.zr (α := (List Int) × (List Int) × RIntss) w⟩
theorem lens_DStV_0 {γ : Type} {H : List Nat → World → γ → Prop} {F : List Nat} {w : World} {b o : Nat} {G : List Nat} {x : DStV} {upd : DStV → γ} (h : Lens H F w b o G x upd) :
    ∃ G1, Lens H F w b (o + 0) G1 x.vars (fun y => upd ⟨y, x.owner, x.stacks⟩) := by
  have h' : Lens H F w b o G (x.vars, x.owner, x.stacks) (fun p : (List Int) × (List Int) × RIntss => upd ⟨p.1, p.2.1, p.2.2⟩) := ⟨h.here, h.sub, fun w' G' y' hc hO hs => h.back w' G' _ hc hO hs⟩
  obtain ⟨G0, h'⟩ := h'.fst
  exact ⟨_, h'⟩
theorem lens_DStV_1 {γ : Type} {H : List Nat → World → γ → Prop} {F : List Nat} {w : World} {b o : Nat} {G : List Nat} {x : DStV} {upd : DStV → γ} (h : Lens H F w b o G x upd) :
    ∃ G1, Lens H F w b (o + 1) G1 x.owner (fun y => upd ⟨x.vars, y, x.stacks⟩) := by
  have h' : Lens H F w b o G (x.vars, x.owner, x.stacks) (fun p : (List Int) × (List Int) × RIntss => upd ⟨p.1, p.2.1, p.2.2⟩) := ⟨h.here, h.sub, fun w' G' y' hc hO hs => h.back w' G' _ hc hO hs⟩
  obtain ⟨G0, h'⟩ := h'.snd
  obtain ⟨G1, h'⟩ := h'.fst
  exact ⟨_, h'⟩
theorem lens_DStV_2 {γ : Type} {H : List Nat → World → γ → Prop} {F : List Nat} {w : World} {b o : Nat} {G : List Nat} {x : DStV} {upd : DStV → γ} (h : Lens H F w b o G x upd) :
    ∃ G1, Lens H F w b (o + 2) G1 x.stacks (fun y => upd ⟨x.vars, x.owner, y⟩) := by
  have h' : Lens H F w b o G (x.vars, x.owner, x.stacks) (fun p : (List Int) × (List Int) × RIntss => upd ⟨p.1, p.2.1, p.2.2⟩) := ⟨h.here, h.sub, fun w' G' y' hc hO hs => h.back w' G' _ hc hO hs⟩
  obtain ⟨G0, h'⟩ := h'.snd
  obtain ⟨G1, h'⟩ := h'.snd
  exact ⟨_, h'⟩
theorem inv_DStV {w : World} {F : List Nat} {cs : List Value} {x : DStV} (h : rep F w cs x) : ∃ F0 c0 F1 c1 F2 c2, F = (F0 ++ (F1 ++ F2)) ∧ cs = (c0 ++ (c1 ++ c2)) ∧ rep F0 w c0 x.vars ∧ rep F1 w c1 x.owner ∧ rep F2 w c2 x.stacks := by
  obtain ⟨F0, G0, c0, d0, rfl, rfl, h0, h⟩ := h
  obtain ⟨F1, G1, c1, d1, rfl, rfl, h1, h⟩ := h
  exact ⟨_, _, _, _, _, _, rfl, rfl, h0, h1, h⟩

/-- the state that it is -/
def DStV.er (z : DStV) : DState := ⟨z.vars, z.owner, z.stacks.l.map RV.l⟩
section
variable {w : World}
theorem mine_stv {F G H : List Nat} {a b : Value} {s : DStV} (h1 : Mine F w a s.vars) (h2 : Mine G w b s.owner) (h3 : Mine H w s.stacks.v s.stacks) (hn : (F ++ (G ++ H)).Nodup) : Mine (F ++ (G ++ H)) w (.agg #[a, b, s.stacks.v]) s :=
  ⟨⟨[a, b, s.stacks.v], mine_prod (mine_cell rfl h1.own) (mine_prod (mine_cell rfl h2.own) (mine_cell rfl h3.own)), rfl⟩, hn, h1.wr.append (h2.wr.append h3.wr)⟩
theorem ownI_stv {a b : Value} {s : DStV} {lo hi l0 h0 l1 h1 l2 h2 : Nat} (m0 : OwnI l0 h0 w a s.vars) (m1 : OwnI l1 h1 w b s.owner) (m2 : OwnI l2 h2 w s.stacks.v s.stacks) (d01 : h0 ≤ l1 ∨ h1 ≤ l0) (d02 : h0 ≤ l2 ∨ h2 ≤ l0) (d12 : h1 ≤ l2 ∨ h2 ≤ l1)
    (b0 : lo ≤ l0 ∧ h0 ≤ hi) (b1 : lo ≤ l1 ∧ h1 ≤ hi) (b2 : lo ≤ l2 ∧ h2 ≤ hi) : OwnI lo hi w (.agg #[a, b, s.stacks.v]) s := by
  obtain ⟨F0, M0, B0⟩ := m0
  obtain ⟨F1, M1, B1⟩ := m1
  obtain ⟨F2, M2, B2⟩ := m2
  refine ⟨F0 ++ (F1 ++ F2), mine_stv M0 M1 M2 ?_, fun x hx => ?_⟩
  · rw [List.nodup_append, List.nodup_append]
    refine ⟨M0.nodup, ⟨M1.nodup, M2.nodup, fun p hp q hq e => ?_⟩, fun p hp q hq e => ?_⟩
    · subst e; have := B1 p hp; have := B2 p hq; omega
    · subst e
      have := B0 p hp
      rcases List.mem_append.1 hq with hq | hq
      · have := B1 p hq; omega
      · have := B2 p hq; omega
  · rcases List.mem_append.1 hx with hx | hx
    · have := B0 x hx; omega
    · rcases List.mem_append.1 hx with hx | hx
      · have := B1 x hx; omega
      · have := B2 x hx; omega
end
end Go.Sh
namespace Go.Proofs.YteephmhilnlkpaaGreat
open Go Go.Sh Go.Proofs
set_option linter.unusedVariables false
/-- impl.copyState -/
def F73 (a0 : Value) (w : World) (R : Value → World → Prop) : Prop :=
  OP Tryz.prog (Instr.box 32 a0) w fun x1 w =>
  OP Tryz.prog (Instr.alloc 32 true (.tuple #[])) w fun x2 w =>
  (fun w0 => PAR w0 [[(0, 6)], [(1, 7), (0, 6)], [(2, 8), (1, 7)], [(3, 9)], [(4, 10), (3, 9)], [(5, 11), (4, 10), (2, 8)], [(6, 12), (2, 8), (5, 11)], [(7, 3)]] (fun Q =>
   (∀ (u1 : Env) (T : Nat → Nat × Nat) (w : World), Ext w0 w → Apart [] w0.heap.size w.heap.size T → (True) → (fun w1 => RD Tryz.prog (Instr.fieldAt 32 x1 0) w fun x6 =>
  Ext w1 w ∧ Q 0 (upd u1 6 x6) (updT T 0 (w1.heap.size, w.heap.size)) w) w) ∧
   (∀ (u1 : Env) (T : Nat → Nat × Nat) (w : World), Ext w0 w → Apart [0] w0.heap.size w.heap.size T → (Q 0 u1 T w ∧ True) → (fun w1 => RD Tryz.prog (Instr.loadAt 23 (u1 6)) w fun x7 =>
  Ext w1 w ∧ Q 1 (upd u1 7 x7) (updT T 1 (w1.heap.size, w.heap.size)) w) w) ∧
   (∀ (u1 : Env) (T : Nat → Nat × Nat) (w : World), Ext w0 w → Apart [1] w0.heap.size w.heap.size T → (Q 1 u1 T w ∧ True) → (fun w1 => CALL Tryz.prog 126 [(u1 7)] w fun x8 w =>
  Ext w1 w ∧ Q 2 (upd u1 8 x8) (updT T 2 (w1.heap.size, w.heap.size)) w) w) ∧
   (∀ (u1 : Env) (T : Nat → Nat × Nat) (w : World), Ext w0 w → Apart [] w0.heap.size w.heap.size T → (True) → (fun w1 => RD Tryz.prog (Instr.fieldAt 32 x1 1) w fun x9 =>
  Ext w1 w ∧ Q 3 (upd u1 9 x9) (updT T 3 (w1.heap.size, w.heap.size)) w) w) ∧
   (∀ (u1 : Env) (T : Nat → Nat × Nat) (w : World), Ext w0 w → Apart [3] w0.heap.size w.heap.size T → (Q 3 u1 T w ∧ True) → (fun w1 => RD Tryz.prog (Instr.loadAt 23 (u1 9)) w fun x10 =>
  Ext w1 w ∧ Q 4 (upd u1 10 x10) (updT T 4 (w1.heap.size, w.heap.size)) w) w) ∧
   (∀ (u1 : Env) (T : Nat → Nat × Nat) (w : World), Ext w0 w → Apart [4, 2] w0.heap.size w.heap.size T → (Q 4 u1 T w ∧ Q 2 u1 T w ∧ True) → (fun w1 => CALL Tryz.prog 126 [(u1 10)] w fun x11 w =>
  Ext w1 w ∧ Q 5 (upd u1 11 x11) (updT T 5 (w1.heap.size, w.heap.size)) w) w) ∧
   (∀ (u1 : Env) (T : Nat → Nat × Nat) (w : World), Ext w0 w → Apart [2, 5] w0.heap.size w.heap.size T → (Q 2 u1 T w ∧ Q 5 u1 T w ∧ True) → (fun w1 => RD Tryz.prog (Instr.build 32 #[(0, (u1 8)), (1, (u1 11))]) w fun x12 =>
  Ext w1 w ∧ Q 6 (upd u1 12 x12) (updT T 6 (w1.heap.size, w.heap.size)) w) w) ∧
   (∀ (u1 : Env) (T : Nat → Nat × Nat) (w : World), Ext w0 w → Apart [] w0.heap.size w.heap.size T → (True) → (fun w1 => OP Tryz.prog (Instr.alloc 32 true (.tuple #[])) w fun x3 w =>
  Ext w1 w ∧ Q 7 (upd u1 3 x3) (updT T 7 (w1.heap.size, w.heap.size)) w) w) ∧
   True)
   (fun Q => ∀ (u1 : Env) (T : Nat → Nat × Nat) (w : World), Ext w0 w → Apart [0, 1, 2, 3, 4, 5, 6, 7] w0.heap.size w.heap.size T → (Q 0 u1 T w ∧ Q 1 u1 T w ∧ Q 2 u1 T w ∧ Q 3 u1 T w ∧ Q 4 u1 T w ∧ Q 5 u1 T w ∧ Q 6 u1 T w ∧ Q 7 u1 T w ∧ True) →
   OPU Tryz.prog (Instr.storeAt 32 (u1 3) (u1 12)) w fun w =>
  RD Tryz.prog (Instr.fieldAt 32 x1 2) w fun x13 =>
  RD Tryz.prog (Instr.loadAt 27 x13) w fun x14 =>
  RD Tryz.prog (Builtin.len_ #[27] 3 [x14].toArray) w fun x15 =>
  LOOPI [16] [(Value.int .i64 0)] w fun u3 w next3 =>
   RD Tryz.prog (bin .lss 3 (.tmp 0) (.tmp 0) (u3 16) x15) w fun x17 =>
   BR x17
    (RD Tryz.prog (Instr.indexAt 27 x14 (u3 16)) w fun x18 =>
    RD Tryz.prog (Instr.loadAt 23 x18) w fun x19 =>
    (fun w => RD Tryz.prog (Instr.fieldAt 32 (u1 3) 2) w fun x20 =>
    RD Tryz.prog (Instr.loadAt 27 x20) w fun x21 =>
    (fun w_ => CALL Tryz.prog 126 [x19] w_ fun x23 w =>
    Ext w_ w ∧
    (fun w_ => OP Tryz.prog (Instr.buildSlice 27 1 #[(0, x23)]) w_ fun x24 w =>
    Ext w_ w ∧
    OP Tryz.prog (Builtin.append_ #[27, 27] 27 [x21, x24].toArray) w fun x25 w =>
    RD Tryz.prog (Instr.fieldAt 32 (u1 3) 2) w fun x26 =>
    OPU Tryz.prog (Instr.storeAt 27 x26 x25) w fun w =>
    RD Tryz.prog (bin .add 3 (.tmp 0) (.const undef) (u3 16) (Value.int .i64 1)) w fun x27 =>
    next3 [x27] w) w) w) (World.drew1 w))
    (RD Tryz.prog (Instr.loadAt 32 (u1 3)) w fun x28 =>
    OPU Tryz.prog (Instr.storeAt 32 x2 x28) w fun w =>
    RD Tryz.prog (loadRes 32 x2) w fun r2 => R r2 w))) (World.drew1 w)
def cfg73 : Cfg := { ext := extL, joins := [], loops := [(3, 268369952, [16])], draws := [(5, [0, 1, 2, 3, 4, 5, 6, 7], 24)], pars := [(1, 8136, 8)] }
theorem F73_eq (a0 : Value) (w : World) (R : Value → World → Prop) : vcF Tryz.prog cfg73 Tryz.f73 [a0] w R = F73 a0 w R := by kernel_rfl
theorem F73_call {a0 : Value} {w : World} {R : Value → World → Prop} (h : F73 a0 w R) : CALL Tryz.prog 73 [a0] w R :=
  call_of (g := cfg73) ent mixed Tryz.func73 (Nat.le_of_ble_eq_true (by kernel_rfl)) (by kernel_rfl) (F73_eq a0 w R ▸ h)

/-- spec.l21Copy -/
def F66 (a0 : Value) (w : World) (R : Value → World → Prop) : Prop :=
  OP Tryz.prog (Instr.box 32 a0) w fun x1 w =>
  OP Tryz.prog (Instr.alloc 32 true (.tuple #[])) w fun x2 w =>
  (fun w0 => PAR w0 [[(0, 5)], [(1, 6)], [(2, 7), (1, 6)], [(3, 8), (0, 5), (2, 7)], [(4, 9)], [(5, 10)], [(6, 11), (5, 10)], [(7, 12), (4, 9), (6, 11), (3, 8)], [(8, 13), (3, 8), (7, 12)], [(9, 3)]] (fun Q =>
   (∀ (u1 : Env) (T : Nat → Nat × Nat) (w : World), Ext w0 w → Apart [] w0.heap.size w.heap.size T → (True) → (fun w1 => OP Tryz.prog (Instr.buildSlice 23 0 #[]) w fun x5 w =>
  Ext w1 w ∧ Q 0 (upd u1 5 x5) (updT T 0 (w1.heap.size, w.heap.size)) w) w) ∧
   (∀ (u1 : Env) (T : Nat → Nat × Nat) (w : World), Ext w0 w → Apart [] w0.heap.size w.heap.size T → (True) → (fun w1 => RD Tryz.prog (Instr.fieldAt 32 x1 0) w fun x6 =>
  Ext w1 w ∧ Q 1 (upd u1 6 x6) (updT T 1 (w1.heap.size, w.heap.size)) w) w) ∧
   (∀ (u1 : Env) (T : Nat → Nat × Nat) (w : World), Ext w0 w → Apart [1] w0.heap.size w.heap.size T → (Q 1 u1 T w ∧ True) → (fun w1 => RD Tryz.prog (Instr.loadAt 23 (u1 6)) w fun x7 =>
  Ext w1 w ∧ Q 2 (upd u1 7 x7) (updT T 2 (w1.heap.size, w.heap.size)) w) w) ∧
   (∀ (u1 : Env) (T : Nat → Nat × Nat) (w : World), Ext w0 w → Apart [0, 2] w0.heap.size w.heap.size T → (Q 0 u1 T w ∧ Q 2 u1 T w ∧ True) → (fun w1 => OP Tryz.prog (Builtin.append_ #[23, 23] 23 [(u1 5), (u1 7)].toArray) w fun x8 w =>
  Ext w1 w ∧ Q 3 (upd u1 8 x8) (updT T 3 (w1.heap.size, w.heap.size)) w) w) ∧
   (∀ (u1 : Env) (T : Nat → Nat × Nat) (w : World), Ext w0 w → Apart [] w0.heap.size w.heap.size T → (True) → (fun w1 => OP Tryz.prog (Instr.buildSlice 23 0 #[]) w fun x9 w =>
  Ext w1 w ∧ Q 4 (upd u1 9 x9) (updT T 4 (w1.heap.size, w.heap.size)) w) w) ∧
   (∀ (u1 : Env) (T : Nat → Nat × Nat) (w : World), Ext w0 w → Apart [] w0.heap.size w.heap.size T → (True) → (fun w1 => RD Tryz.prog (Instr.fieldAt 32 x1 1) w fun x10 =>
  Ext w1 w ∧ Q 5 (upd u1 10 x10) (updT T 5 (w1.heap.size, w.heap.size)) w) w) ∧
   (∀ (u1 : Env) (T : Nat → Nat × Nat) (w : World), Ext w0 w → Apart [5] w0.heap.size w.heap.size T → (Q 5 u1 T w ∧ True) → (fun w1 => RD Tryz.prog (Instr.loadAt 23 (u1 10)) w fun x11 =>
  Ext w1 w ∧ Q 6 (upd u1 11 x11) (updT T 6 (w1.heap.size, w.heap.size)) w) w) ∧
   (∀ (u1 : Env) (T : Nat → Nat × Nat) (w : World), Ext w0 w → Apart [4, 6, 3] w0.heap.size w.heap.size T → (Q 4 u1 T w ∧ Q 6 u1 T w ∧ Q 3 u1 T w ∧ True) → (fun w1 => OP Tryz.prog (Builtin.append_ #[23, 23] 23 [(u1 9), (u1 11)].toArray) w fun x12 w =>
  Ext w1 w ∧ Q 7 (upd u1 12 x12) (updT T 7 (w1.heap.size, w.heap.size)) w) w) ∧
   (∀ (u1 : Env) (T : Nat → Nat × Nat) (w : World), Ext w0 w → Apart [3, 7] w0.heap.size w.heap.size T → (Q 3 u1 T w ∧ Q 7 u1 T w ∧ True) → (fun w1 => RD Tryz.prog (Instr.build 32 #[(0, (u1 8)), (1, (u1 12))]) w fun x13 =>
  Ext w1 w ∧ Q 8 (upd u1 13 x13) (updT T 8 (w1.heap.size, w.heap.size)) w) w) ∧
   (∀ (u1 : Env) (T : Nat → Nat × Nat) (w : World), Ext w0 w → Apart [] w0.heap.size w.heap.size T → (True) → (fun w1 => OP Tryz.prog (Instr.alloc 32 true (.tuple #[])) w fun x3 w =>
  Ext w1 w ∧ Q 9 (upd u1 3 x3) (updT T 9 (w1.heap.size, w.heap.size)) w) w) ∧
   True)
   (fun Q => ∀ (u1 : Env) (T : Nat → Nat × Nat) (w : World), Ext w0 w → Apart [0, 1, 2, 3, 4, 5, 6, 7, 8, 9] w0.heap.size w.heap.size T → (Q 0 u1 T w ∧ Q 1 u1 T w ∧ Q 2 u1 T w ∧ Q 3 u1 T w ∧ Q 4 u1 T w ∧ Q 5 u1 T w ∧ Q 6 u1 T w ∧ Q 7 u1 T w ∧ Q 8 u1 T w ∧ Q 9 u1 T w ∧ True) →
   OPU Tryz.prog (Instr.storeAt 32 (u1 3) (u1 13)) w fun w =>
  LOOPI [4] [(Value.int .i64 0)] w fun u3 w next3 =>
   RD Tryz.prog (Instr.fieldAt 32 x1 2) w fun x15 =>
   RD Tryz.prog (Instr.loadAt 27 x15) w fun x16 =>
   RD Tryz.prog (Builtin.len_ #[27] 3 [x16].toArray) w fun x17 =>
   RD Tryz.prog (bin .lss 3 (.tmp 0) (.tmp 0) (u3 4) x17) w fun x18 =>
   BR x18
    ((fun w => RD Tryz.prog (Instr.fieldAt 32 (u1 3) 2) w fun x21 =>
    RD Tryz.prog (Instr.loadAt 27 x21) w fun x22 =>
    RD Tryz.prog (Instr.fieldAt 32 x1 2) w fun x24 =>
    RD Tryz.prog (Instr.loadAt 27 x24) w fun x25 =>
    RD Tryz.prog (Instr.indexAt 27 x25 (u3 4)) w fun x27 =>
    RD Tryz.prog (Instr.loadAt 23 x27) w fun x28 =>
    (fun w_ => OP Tryz.prog (Instr.buildSlice 23 0 #[]) w_ fun x23 w =>
    Ext w_ w ∧
    (fun w_ => OP Tryz.prog (Builtin.append_ #[23, 23] 23 [x23, x28].toArray) w_ fun x29 w =>
    Ext w_ w ∧
    (fun w_ => OP Tryz.prog (Instr.buildSlice 27 1 #[(0, x29)]) w_ fun x30 w =>
    Ext w_ w ∧
    OP Tryz.prog (Builtin.append_ #[27, 27] 27 [x22, x30].toArray) w fun x31 w =>
    RD Tryz.prog (Instr.fieldAt 32 (u1 3) 2) w fun x32 =>
    OPU Tryz.prog (Instr.storeAt 27 x32 x31) w fun w =>
    RD Tryz.prog (bin .add 3 (.tmp 0) (.const undef) (u3 4) (Value.int .i64 1)) w fun x20 =>
    next3 [x20] w) w) w) w) (World.drew1 w))
    (RD Tryz.prog (Instr.loadAt 32 (u1 3)) w fun x33 =>
    OPU Tryz.prog (Instr.storeAt 32 x2 x33) w fun w =>
    RD Tryz.prog (loadRes 32 x2) w fun r2 => R r2 w))) (World.drew1 w)
def cfg66 : Cfg := { ext := extL, joins := [], loops := [(3, 8589918224, [4])], draws := [(5, [0, 1, 3, 4, 5, 6, 7, 2, 8, 9, 10, 11, 12], 772)], pars := [(1, 16360, 10)] }
theorem F66_eq (a0 : Value) (w : World) (R : Value → World → Prop) : vcF Tryz.prog cfg66 Tryz.f66 [a0] w R = F66 a0 w R := by kernel_rfl
theorem F66_call {a0 : Value} {w : World} {R : Value → World → Prop} (h : F66 a0 w R) : CALL Tryz.prog 66 [a0] w R :=
  call_of (g := cfg66) ent mixed Tryz.func66 (Nat.le_of_ble_eq_true (by kernel_rfl)) (by kernel_rfl) (F66_eq a0 w R ▸ h)

set_option linter.unusedVariables false
set_option linter.unusedSimpArgs false

theorem zlSt : zeroL Tryz.prog 32 = some [.slice none 0 0, .slice none 0 0, .slice none 0 0] := by kernel_rfl
theorem ownI_form {lo hi : Nat} {w : World} {v : Value} {α : Type} [Rep α] {l : List α} (h : OwnI lo hi w v l) : ∃ a n c, v = .slice a n c := by
  obtain ⟨a, cap, Fi, xs, hv, _⟩ := is_list h.is
  exact ⟨a, _, cap, hv⟩
/-- append([]T{}, src...) -/
theorem op_appendN {P : Program} {w w0 : World} {α : Type} [Rep α] [Flat α] {t ty e : TypeId} {by_ : Nat} {a : Option Addr} {src : Value} {m : List α} {K : Value → World → Prop} (ht : P.underlying t = some (.slice e)) (he : tyI P e = some (Rep.size α, by_, Rep.agg α))
    (hzc : (P.info? e).map (fun i => (i.zero.map (·.cells.size))) = some (some (Rep.size α))) (hs : Is w0 src m) (hx : Ext w0 w) (hm : m.length ≤ maxLen) (hb : m.length * by_ ≤ 140737488355328)
    (k : ∀ v' w', Ext w w' → RowI w.heap.size w'.heap.size e w' v' m → K v' w') : OP P (Builtin.append_ #[t, t] ty [.slice a 0 0, src].toArray) w K :=
  op_appendI (lo := w.heap.size) (hi := w.heap.size) (l := ([] : List α)) ht he hzc (rowI_zcap _ _ _ _ _) (Nat.le_refl _) hs hx (by simpa using hm) (by simpa using hb) fun v' w' hc hr => k v' w' ((Ext.refl w).chgI hc (Nat.le_refl _)) (by simpa using hr)
theorem clone_row {w w0 : World} {v : Value} {l : List Int} (h : Is w0 v l) (hx : Ext w0 w) (hn : l.length ≤ 1073741824) :
    CALL Tryz.prog 126 [v] w fun r w' => Ext w w' ∧ RowI w.heap.size w'.heap.size 3 w' r l := by
  refine F126_call ?_
  unfold F126
  obtain ⟨a, cap, Fi, xs, rfl, h1, h2, hc, h4⟩ := is_list h
  refine rd_slice_nil uInts ?_
  refine br_b (fun hnil => ?_) (fun hnn => ?_)
  · have : l = [] := by
      rcases h4 with h4 | ⟨b, o, ha, _⟩
      · exact h4
      · subst ha; simp at hnil
    subst this
    exact ⟨Ext.refl w, rowI_nil _ _ _ _⟩
  · refine op_build0I (α := Int) uInts tyInt fun a1 w1 hx1 hr1 => ?_
    refine op_appendN (α := Int) uInts tyInt zcInt h (hx.trans hx1) (by rw [maxLen_eq]; omega) (by omega) fun v2 w2 hx2 hr2 => ?_
    exact ⟨hx1.trans hx2, hr2.mono hx1.size (Nat.le_refl _)⟩
def StSz (s : DState) : Prop := s.vars.length ≤ 1073741824 ∧ s.owner.length ≤ 1073741824 ∧ s.stacks.length ≤ 1073741824 ∧ ∀ x ∈ s.stacks, x.length ≤ 1073741824
def cpQ (s : DState) (g1 : Nat) (w0 : World) : ParQ := fun i u T w => match i with
  | 0 => u 6 = .pointer (some ⟨g1, 0 + 0, none⟩)
  | 1 => Is w0 (u 7) s.vars
  | 2 => OwnI (T 2).1 (T 2).2 w (u 8) s.vars
  | 3 => u 9 = .pointer (some ⟨g1, 0 + 1, none⟩)
  | 4 => Is w0 (u 10) s.owner
  | 5 => OwnI (T 5).1 (T 5).2 w (u 11) s.owner
  | 6 => u 12 = .agg #[u 8, u 11, .slice none 0 0]
  | 7 => ∃ g, u 3 = .pointer (some ⟨g, 0, none⟩) ∧ (T 7).1 ≤ g ∧ g < (T 7).2 ∧ Blk g 32 w [.slice none 0 0, .slice none 0 0, .slice none 0 0]
  | _ => True
theorem copyState_ok {w W : World} {v : Value} {s : DState} (h : Is W v s) (e : Ext W w) (hsz : StSz s) :
    CALL Tryz.prog 73 [v] w fun r w' => Ext w w' ∧ ∃ z : DStV, OwnI w.heap.size w'.heap.size w' r z ∧ z.er = s := by
  obtain ⟨hz1, hz2, hz3, hz4⟩ := hsz
  refine F73_call ?_
  unfold F73
  refine op_box h e fun w1 hx1 hA => ?_
  refine op_alloc zlSt fun w2 hx2 hB2 => ?_
  have hg2 := hB2.lt
  have hs1 := hx1.size
  have hx3 := ext_drew w2
  have hs3 := hx3.size
  refine PAR.mk (cpQ s w.heap.size (World.drew1 w2)) ?_ ?_ ?_
  · intro i u u' T T' wa wb hxa hxb hd hq
    match i, hd, hq with
    | 0, hd, hq => exact (hd (0, 6) (by decide)).1.trans hq
    | 1, hd, hq => have := (hd (1, 7) (by decide)).1; show Is _ (u' 7) _; simp only [this]; exact hq
    | 2, hd, hq =>
      obtain ⟨e1, e2⟩ := hd (2, 8) (by decide)
      simp only at e1 e2
      show OwnI (T' 2).1 (T' 2).2 wb (u' 8) s.vars
      rw [e1, e2]; exact OwnI.ext hq hxb
    | 3, hd, hq => exact (hd (3, 9) (by decide)).1.trans hq
    | 4, hd, hq => have := (hd (4, 10) (by decide)).1; show Is _ (u' 10) _; simp only [this]; exact hq
    | 5, hd, hq =>
      obtain ⟨e1, e2⟩ := hd (5, 11) (by decide)
      simp only at e1 e2
      show OwnI (T' 5).1 (T' 5).2 wb (u' 11) s.owner
      rw [e1, e2]; exact OwnI.ext hq hxb
    | 6, hd, hq =>
      have e1 := (hd (6, 12) (by decide)).1
      have e2 := (hd (2, 8) (by decide)).1
      have e3 := (hd (5, 11) (by decide)).1
      simp only at e1 e2 e3
      show u' 12 = .agg #[u' 8, u' 11, .slice none 0 0]
      rw [e1, e2, e3]; exact hq
    | 7, hd, ⟨g, q1, q2, q3, q4⟩ =>
      obtain ⟨e1, e2⟩ := hd (7, 3) (by decide)
      simp only at e1 e2
      exact ⟨g, e1.trans q1, by rw [e2]; exact q2, by rw [e2]; exact q3, q4.ext hxb⟩
    | n + 8, _, _ => trivial
  · refine ⟨fun u T w' hx _ _ => ?_, fun u T w' hx _ hp => ?_, fun u T w' hx _ hp => ?_, fun u T w' hx _ _ => ?_, fun u T w' hx _ hp => ?_, fun u T w' hx _ hp => ?_, fun u T w' hx _ hp => ?_, fun u T w' hx _ _ => ?_, trivial⟩
    · exact rd_fld fd32_0 ⟨Ext.refl _, rfl⟩
    · have q0 : u 6 = _ := hp.1
      rw [q0]
      exact rd_load ty23 (at_DState_0 hA) (hx2.trans (hx3.trans hx)) fun v6 h6 => ⟨Ext.refl _, (h6.ext (hx2.trans hx3))⟩
    · have q1 : Is _ (u 7) s.vars := hp.1
      exact (clone_ok q1 hx hz1).mono fun r w4 ⟨hx4, ho⟩ => ⟨hx4, ho.toI⟩
    · exact rd_fld fd32_1 ⟨Ext.refl _, rfl⟩
    · have q0 : u 9 = _ := hp.1
      rw [q0]
      exact rd_load ty23 (at_DState_1 hA) (hx2.trans (hx3.trans hx)) fun v6 h6 => ⟨Ext.refl _, (h6.ext (hx2.trans hx3))⟩
    · have q1 : Is _ (u 10) s.owner := hp.1
      exact (clone_ok q1 hx hz2).mono fun r w4 ⟨hx4, ho⟩ => ⟨hx4, ho.toI⟩
    · have o1 : OwnI _ _ _ (u 8) s.vars := hp.1
      have o2 : OwnI _ _ _ (u 11) s.owner := hp.2.1
      obtain ⟨a, n, cap, q1⟩ := ownI_form o1
      obtain ⟨a', n', cap', q1'⟩ := ownI_form o2
      rw [q1, q1']
      refine rd_build (cells := #[.slice a n cap, .slice a' n' cap', .slice none 0 0]) (by kernel_rfl) ⟨Ext.refl _, ?_⟩
      show _ = Value.agg #[u 8, u 11, .slice none 0 0]
      rw [q1, q1']; rfl
    · exact op_alloc zlSt fun w4 hx4 hB => ⟨hx4, w'.heap.size, rfl, Nat.le_refl _, hB.lt, hB⟩
  · rintro u T w4 hx4 hap ⟨-, -, o8, -, -, o11, q12, ⟨g, q3, hg0, hg1, hB3⟩, -⟩
    have q12 : u 12 = .agg #[u 8, u 11, .slice none 0 0] := q12
    have o8 : OwnI (T 2).1 (T 2).2 w4 (u 8) s.vars := o8
    have o11 : OwnI (T 5).1 (T 5).2 w4 (u 11) s.owner := o11
    have t2 := hap.1 2 (by decide)
    have t5 := hap.1 5 (by decide)
    have t7 := hap.1 7 (by decide)
    have d25 := hap.2 2 (by decide) 5 (by decide) (by decide)
    have d27 := hap.2 2 (by decide) 7 (by decide) (by decide)
    have d57 := hap.2 5 (by decide) 7 (by decide) (by decide)
    generalize u 8 = v8 at *
    generalize u 11 = v11 at *
    have hs4 := hx4.size
    rw [q12, q3]
    refine opu_blkS (x := (⟨s.vars, s.owner, []⟩ : DState)) (lo := 0) (hi := w4.heap.size) ty32 rfl hB3 rfl
      (ownI_state (l2 := 0) (h2 := 0) o8 o11 (ownI_zcap none) (by omega) (by omega) (by omega) (by omega) (by omega) (by omega)) fun w5 hc5 hB5 => ?_
    have hs5 := hc5.size
    have hx15 : Ext w1 w5 := Ext.chgI (hx2.trans (hx3.trans hx4)) hc5 (by omega)
    replace o8 := o8.chg hc5 (by omega)
    replace o11 := o11.chg hc5 (by omega)
    have hB25 := ((hB2.ext hx3).ext hx4).chgI hc5 (by omega)
    refine rd_fld fd32_2 ?_
    refine rd_load ty27 (at_DState_2 hA) hx15 fun v14 h14 => ?_
    refine rd_len u27 h14 ?_
    refine loopC s.stacks.length (fun k us w' => us = [.int .i64 (k : Int)] ∧ w5.heap.size ≤ w'.heap.size ∧ Ext w1 w' ∧ OwnI (T 2).1 (T 2).2 w' v8 s.vars ∧ OwnI (T 5).1 (T 5).2 w' v11 s.owner ∧
      (∃ v1 hi, ∃ l : List RInts, hi ≤ w'.heap.size ∧ w5.heap.size ≤ hi ∧ l.map RV.l = s.stacks.take k ∧ Blk g 32 w' [v8, v11, v1] ∧ RowI w5.heap.size hi 23 w' v1 l) ∧ Blk w1.heap.size 32 w' [.slice none 0 0, .slice none 0 0, .slice none 0 0]) 0 (Nat.zero_le _)
      ⟨rfl, Nat.le_refl _, hx15, o8, o11, ⟨.slice none 0 0, w5.heap.size, [], Nat.le_refl _, Nat.le_refl _, by simp, hB5, rowI_nil _ _ _ _⟩, hB25⟩ ?_
    rintro k m uu w7 hkm ⟨hu, hs7, hx7, o8, o11, ⟨v1, hi, l, hhi, hhi2, hl, hB7, r7⟩, hB27⟩
    simp only [List.map_cons, List.map_nil, List.cons.injEq, and_true] at hu
    rw [hu]
    have hll : l.length = k := by have := congrArg List.length hl; simp at this; omega
    refine rd_lss ?_
    refine br (fun hlt => ?_) (fun hge => ?_)
    · have hk : k < s.stacks.length := by omega
      refine rd_indexN u27 ty23 h14 hk fun b o hA2 => ?_
      refine rd_load ty23 hA2 hx7 fun v19 h19 => ?_
      have hx8 := ext_drew w7
      have hs8 := hx8.size
      refine rd_fld fd32_2 ?_
      refine rd_blkV ty27 (hB7.ext hx8) rfl ?_
      refine (clone_row h19 (hx7.trans hx8) (hz4 _ (List.getElem_mem hk))).mono ?_
      rintro r23 w9 ⟨hx9, r9⟩
      have hs9 := hx9.size
      refine ⟨hx9, ?_⟩
      refine op_pushX (α := RInts) u27 ty23 z23 zc23 (by decide) ((r7.ext hx8).ext hx9) (by omega) (ownI_rv r9) (by omega) (by omega) (by rw [maxLen_eq]; omega) (by omega) fun v25 w10 hc10 r10 => ?_
      have hs10 := hc10.size
      have hx79 := hx8.trans hx9
      refine rd_fld fd32_2 ?_
      refine opu_blkC (α := List RInts) ty27 rfl rfl ((hB7.ext hx79).chgI hc10 (by omega)) (by simp) r10.own fun w11 hc11 hB11 => ?_
      have hs11 := hc11.size
      refine rd_inc (by omega) ?_
      refine ⟨m - 1, by omega, k + 1, by omega, rfl, by omega, Ext.chgI (Ext.chgI (hx7.trans hx79) hc10 (by omega)) hc11 (by omega), ((o8.ext hx79).chg hc10 (by omega)).chg hc11 (by omega), ((o11.ext hx79).chg hc10 (by omega)).chg hc11 (by omega), ⟨v25, w10.heap.size, _, by omega, by omega, ?_, hB11, r10.chg hc11 (by omega)⟩, ((hB27.ext hx79).chgI hc10 (by omega)).chgI hc11 (by omega)⟩
      rw [List.map_append, hl, List.take_succ_eq_append_getElem hk]; rfl
    · have hk : k = s.stacks.length := by omega
      refine rd_blkS hB7 ty32 ?_
      have ost : OwnI w2.heap.size w7.heap.size w7 (.agg #[v8, v11, v1]) (⟨s.vars, s.owner, ⟨v1, l⟩⟩ : DStV) :=
        ownI_stv (s := ⟨s.vars, s.owner, ⟨v1, l⟩⟩) o8 o11 (ownI_rv r7) (by omega) (by omega) (by omega) (by omega) (by omega) (by omega)
      refine opu_blkS ty32 rfl hB27 rfl ost fun w13 hc13 hB13 => ?_
      have hs13 := hc13.size
      refine rd_blkR hB13 ty32 ?_
      refine ⟨Ext.chgI (hx1.trans hx7) hc13 (by omega), _, (ost.chg hc13 (by omega)).mono (by omega) (by omega), ?_⟩
      show (⟨s.vars, s.owner, l.map RV.l⟩ : DState) = s
      rw [hl, hk, List.take_length]
def cqQ (s : DState) (g1 : Nat) (w0 : World) : ParQ := fun i u T w => match i with
  | 0 => ∃ a, u 5 = .slice (some a) 0 0
  | 1 => u 6 = .pointer (some ⟨g1, 0 + 0, none⟩)
  | 2 => Is w0 (u 7) s.vars
  | 3 => OwnI (T 3).1 (T 3).2 w (u 8) s.vars
  | 4 => ∃ a, u 9 = .slice (some a) 0 0
  | 5 => u 10 = .pointer (some ⟨g1, 0 + 1, none⟩)
  | 6 => Is w0 (u 11) s.owner
  | 7 => OwnI (T 7).1 (T 7).2 w (u 12) s.owner
  | 8 => u 13 = .agg #[u 8, u 12, .slice none 0 0]
  | 9 => ∃ g, u 3 = .pointer (some ⟨g, 0, none⟩) ∧ (T 9).1 ≤ g ∧ g < (T 9).2 ∧ Blk g 32 w [.slice none 0 0, .slice none 0 0, .slice none 0 0]
  | _ => True
theorem l21Copy_ok {w W : World} {v : Value} {s : DState} (h : Is W v s) (e : Ext W w) (hsz : StSz s) :
    CALL Tryz.prog 66 [v] w fun r w' => Ext w w' ∧ ∃ z : DStV, OwnI w.heap.size w'.heap.size w' r z ∧ z.er = s := by
  obtain ⟨hz1, hz2, hz3, hz4⟩ := hsz
  refine F66_call ?_
  unfold F66
  refine op_box h e fun w1 hx1 hA => ?_
  refine op_alloc zlSt fun w2 hx2 hB2 => ?_
  have hg2 := hB2.lt
  have hs1 := hx1.size
  have hx3 := ext_drew w2
  have hs3 := hx3.size
  refine PAR.mk (cqQ s w.heap.size (World.drew1 w2)) ?_ ?_ ?_
  · intro i u u' T T' wa wb hxa hxb hd hq
    match i, hd, hq with
    | 0, hd, ⟨a, hq⟩ => exact ⟨a, (hd (0, 5) (by decide)).1.trans hq⟩
    | 1, hd, hq => exact (hd (1, 6) (by decide)).1.trans hq
    | 2, hd, hq => have := (hd (2, 7) (by decide)).1; show Is _ (u' 7) _; simp only [this]; exact hq
    | 3, hd, hq =>
      obtain ⟨e1, e2⟩ := hd (3, 8) (by decide)
      simp only at e1 e2
      show OwnI (T' 3).1 (T' 3).2 wb (u' 8) s.vars
      rw [e1, e2]; exact OwnI.ext hq hxb
    | 4, hd, ⟨a, hq⟩ => exact ⟨a, (hd (4, 9) (by decide)).1.trans hq⟩
    | 5, hd, hq => exact (hd (5, 10) (by decide)).1.trans hq
    | 6, hd, hq => have := (hd (6, 11) (by decide)).1; show Is _ (u' 11) _; simp only [this]; exact hq
    | 7, hd, hq =>
      obtain ⟨e1, e2⟩ := hd (7, 12) (by decide)
      simp only at e1 e2
      show OwnI (T' 7).1 (T' 7).2 wb (u' 12) s.owner
      rw [e1, e2]; exact OwnI.ext hq hxb
    | 8, hd, hq =>
      have e1 := (hd (8, 13) (by decide)).1
      have e2 := (hd (3, 8) (by decide)).1
      have e3 := (hd (7, 12) (by decide)).1
      simp only at e1 e2 e3
      show u' 13 = .agg #[u' 8, u' 12, .slice none 0 0]
      rw [e1, e2, e3]; exact hq
    | 9, hd, ⟨g, q1, q2, q3, q4⟩ =>
      obtain ⟨e1, e2⟩ := hd (9, 3) (by decide)
      simp only at e1 e2
      exact ⟨g, e1.trans q1, by rw [e2]; exact q2, by rw [e2]; exact q3, q4.ext hxb⟩
    | n + 10, _, _ => trivial
  · refine ⟨fun u T w' hx _ _ => ?_, fun u T w' hx _ _ => ?_, fun u T w' hx _ hp => ?_, fun u T w' hx _ hp => ?_, fun u T w' hx _ _ => ?_, fun u T w' hx _ _ => ?_, fun u T w' hx _ hp => ?_, fun u T w' hx _ hp => ?_, fun u T w' hx _ hp => ?_, fun u T w' hx _ _ => ?_, trivial⟩
    · exact op_build0I (α := Int) u23 ty3 fun a w4 hx4 _ => ⟨hx4, a, rfl⟩
    · exact rd_fld fd32_0 ⟨Ext.refl _, rfl⟩
    · have q0 : u 6 = _ := hp.1
      rw [q0]
      exact rd_load ty23 (at_DState_0 hA) (hx2.trans (hx3.trans hx)) fun v6 h6 => ⟨Ext.refl _, (h6.ext (hx2.trans hx3))⟩
    · obtain ⟨a, q0⟩ : ∃ a, u 5 = .slice (some a) 0 0 := hp.1
      have q1 : Is _ (u 7) s.vars := hp.2.1
      rw [q0]
      exact op_appendN (α := Int) u23 ty3 zc3 q1 hx (by rw [maxLen_eq]; omega) (by omega) fun v4 w4 hx4 r4 => ⟨hx4, r4.own⟩
    · exact op_build0I (α := Int) u23 ty3 fun a w4 hx4 _ => ⟨hx4, a, rfl⟩
    · exact rd_fld fd32_1 ⟨Ext.refl _, rfl⟩
    · have q0 : u 10 = _ := hp.1
      rw [q0]
      exact rd_load ty23 (at_DState_1 hA) (hx2.trans (hx3.trans hx)) fun v6 h6 => ⟨Ext.refl _, (h6.ext (hx2.trans hx3))⟩
    · obtain ⟨a, q0⟩ : ∃ a, u 9 = .slice (some a) 0 0 := hp.1
      have q1 : Is _ (u 11) s.owner := hp.2.1
      rw [q0]
      exact op_appendN (α := Int) u23 ty3 zc3 q1 hx (by rw [maxLen_eq]; omega) (by omega) fun v4 w4 hx4 r4 => ⟨hx4, r4.own⟩
    · have o1 : OwnI _ _ _ (u 8) s.vars := hp.1
      have o2 : OwnI _ _ _ (u 12) s.owner := hp.2.1
      obtain ⟨a, n, cap, q1⟩ := ownI_form o1
      obtain ⟨a', n', cap', q1'⟩ := ownI_form o2
      rw [q1, q1']
      refine rd_build (cells := #[.slice a n cap, .slice a' n' cap', .slice none 0 0]) (by kernel_rfl) ⟨Ext.refl _, ?_⟩
      show _ = Value.agg #[u 8, u 12, .slice none 0 0]
      rw [q1, q1']; rfl
    · exact op_alloc zlSt fun w4 hx4 hB => ⟨hx4, w'.heap.size, rfl, Nat.le_refl _, hB.lt, hB⟩
  · rintro u T w4 hx4 hap ⟨-, -, -, o8, -, -, -, o11, q12, ⟨g, q3, hg0, hg1, hB3⟩, -⟩
    have q12 : u 13 = .agg #[u 8, u 12, .slice none 0 0] := q12
    have o8 : OwnI (T 3).1 (T 3).2 w4 (u 8) s.vars := o8
    have o11 : OwnI (T 7).1 (T 7).2 w4 (u 12) s.owner := o11
    have t2 := hap.1 3 (by decide)
    have t5 := hap.1 7 (by decide)
    have t7 := hap.1 9 (by decide)
    have d25 := hap.2 3 (by decide) 7 (by decide) (by decide)
    have d27 := hap.2 3 (by decide) 9 (by decide) (by decide)
    have d57 := hap.2 7 (by decide) 9 (by decide) (by decide)
    generalize u 8 = v8 at *
    generalize u 12 = v11 at *
    have hs4 := hx4.size
    rw [q12, q3]
    refine opu_blkS (x := (⟨s.vars, s.owner, []⟩ : DState)) (lo := 0) (hi := w4.heap.size) ty32 rfl hB3 rfl
      (ownI_state (l2 := 0) (h2 := 0) o8 o11 (ownI_zcap none) (by omega) (by omega) (by omega) (by omega) (by omega) (by omega)) fun w5 hc5 hB5 => ?_
    have hs5 := hc5.size
    have hx15 : Ext w1 w5 := Ext.chgI (hx2.trans (hx3.trans hx4)) hc5 (by omega)
    replace o8 := o8.chg hc5 (by omega)
    replace o11 := o11.chg hc5 (by omega)
    have hB25 := ((hB2.ext hx3).ext hx4).chgI hc5 (by omega)
    refine loopC s.stacks.length (fun k us w' => us = [.int .i64 (k : Int)] ∧ w5.heap.size ≤ w'.heap.size ∧ Ext w1 w' ∧ OwnI (T 3).1 (T 3).2 w' v8 s.vars ∧ OwnI (T 7).1 (T 7).2 w' v11 s.owner ∧
      (∃ v1 hi, ∃ l : List RInts, hi ≤ w'.heap.size ∧ w5.heap.size ≤ hi ∧ l.map RV.l = s.stacks.take k ∧ Blk g 32 w' [v8, v11, v1] ∧ RowI w5.heap.size hi 23 w' v1 l) ∧ Blk w1.heap.size 32 w' [.slice none 0 0, .slice none 0 0, .slice none 0 0]) 0 (Nat.zero_le _)
      ⟨rfl, Nat.le_refl _, hx15, o8, o11, ⟨.slice none 0 0, w5.heap.size, [], Nat.le_refl _, Nat.le_refl _, by simp, hB5, rowI_nil _ _ _ _⟩, hB25⟩ ?_
    rintro k m uu w7 hkm ⟨hu, hs7, hx7, o8, o11, ⟨v1, hi, l, hhi, hhi2, hl, hB7, r7⟩, hB27⟩
    simp only [List.map_cons, List.map_nil, List.cons.injEq, and_true] at hu
    rw [hu]
    have hll : l.length = k := by have := congrArg List.length hl; simp at this; omega
    refine rd_fld fd32_2 ?_
    refine rd_load ty27 (at_DState_2 hA) hx7 fun v16 h16 => ?_
    refine rd_len u27 h16 ?_
    refine rd_lss ?_
    refine br (fun hlt => ?_) (fun hge => ?_)
    · have hk : k < s.stacks.length := by omega
      have hx8 := ext_drew w7
      have hs8 := hx8.size
      refine rd_fld fd32_2 ?_
      refine rd_blkV ty27 (hB7.ext hx8) rfl ?_
      refine rd_fld fd32_2 ?_
      refine rd_load ty27 (at_DState_2 hA) (hx7.trans hx8) fun v14 h14 => ?_
      refine rd_indexN u27 ty23 h14 hk fun b o hA2 => ?_
      refine rd_load ty23 hA2 (hx7.trans hx8) fun v19 h19 => ?_
      have hlk := hz4 _ (List.getElem_mem hk)
      refine op_build0I (α := Int) u23 ty3 fun a23 w8' hx8' _ => ?_
      refine ⟨hx8', ?_⟩
      have hs8' := hx8'.size
      refine op_appendN (α := Int) u23 ty3 zc3 h19 (hx7.trans (hx8.trans hx8')) (by rw [maxLen_eq]; omega) (by omega) fun r23 w9 hx9' r9' => ?_
      have hs9' := hx9'.size
      refine ⟨hx9', ?_⟩
      have hx9 := hx8'.trans hx9'
      have hs9 := hx9.size
      have r9 := r9'.mono hs8' (Nat.le_refl _)
      refine op_pushX (α := RInts) u27 ty23 z23 zc23 (by decide) ((r7.ext hx8).ext hx9) (by omega) (ownI_rv r9) (by omega) (by omega) (by rw [maxLen_eq]; omega) (by omega) fun v25 w10 hc10 r10 => ?_
      have hs10 := hc10.size
      have hx79 := hx8.trans hx9
      refine rd_fld fd32_2 ?_
      refine opu_blkC (α := List RInts) ty27 rfl rfl ((hB7.ext hx79).chgI hc10 (by omega)) (by simp) r10.own fun w11 hc11 hB11 => ?_
      have hs11 := hc11.size
      refine rd_inc (by omega) ?_
      refine ⟨m - 1, by omega, k + 1, by omega, rfl, by omega, Ext.chgI (Ext.chgI (hx7.trans hx79) hc10 (by omega)) hc11 (by omega), ((o8.ext hx79).chg hc10 (by omega)).chg hc11 (by omega), ((o11.ext hx79).chg hc10 (by omega)).chg hc11 (by omega), ⟨v25, w10.heap.size, _, by omega, by omega, ?_, hB11, r10.chg hc11 (by omega)⟩, ((hB27.ext hx79).chgI hc10 (by omega)).chgI hc11 (by omega)⟩
      rw [List.map_append, hl, List.take_succ_eq_append_getElem hk]; rfl
    · have hk : k = s.stacks.length := by omega
      refine rd_blkS hB7 ty32 ?_
      have ost : OwnI w2.heap.size w7.heap.size w7 (.agg #[v8, v11, v1]) (⟨s.vars, s.owner, ⟨v1, l⟩⟩ : DStV) :=
        ownI_stv (s := ⟨s.vars, s.owner, ⟨v1, l⟩⟩) o8 o11 (ownI_rv r7) (by omega) (by omega) (by omega) (by omega) (by omega) (by omega)
      refine opu_blkS ty32 rfl hB27 rfl ost fun w13 hc13 hB13 => ?_
      have hs13 := hc13.size
      refine rd_blkR hB13 ty32 ?_
      refine ⟨Ext.chgI (hx1.trans hx7) hc13 (by omega), _, (ost.chg hc13 (by omega)).mono (by omega) (by omega), ?_⟩
      show (⟨s.vars, s.owner, l.map RV.l⟩ : DState) = s
      rw [hl, hk, List.take_length]
end Go.Proofs.YteephmhilnlkpaaGreat
