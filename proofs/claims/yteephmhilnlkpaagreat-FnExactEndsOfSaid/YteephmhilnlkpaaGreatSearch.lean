/-
  All states of a program: the program's search and the reference's.
-/
import Derived.Test.YteephmhilnlkpaaGreatLook
import Derived.Test.YteephmhilnlkpaaGreatStepS
import Derived.Test.YteephmhilnlkpaaGreatPushF
import Derived.Test.YteephmhilnlkpaaGreatOver
import Derived.Test.YteephmhilnlkpaaGreatGo
namespace Go.Sh
set_option linter.unusedVariables false
open Rep (rep)
abbrev RSts := RV DState 32
structure DTrail where
  states : RSts
  ahead : RInts
  went : RInts
  whole : Bool
theorem DTrail.ext_iff {x y : DTrail} : x = y ↔ (x.states = y.states ∧ x.ahead = y.ahead ∧ x.went = y.went ∧ x.whole = y.whole) := ⟨fun h => by rw [h]; exact ⟨rfl, rfl, rfl, rfl⟩, fun h => by obtain ⟨h0, h1, h2, h3⟩ := h; cases x; cases y; simp only at h0 h1 h2 h3; simp only [h0, h1, h2, h3]⟩
instance : Rep DTrail := Rep.via fun x => (x.states, x.ahead, x.went, x.whole)
theorem at_DTrail_0 {w : World} {b o : Nat} {x : DTrail} (h : At w b o x) : At w b (o + 0) x.states := at_fst (α := RSts) (β := RInts × RInts × Bool) (p := (x.states, x.ahead, x.went, x.whole)) h
theorem at_DTrail_1 {w : World} {b o : Nat} {x : DTrail} (h : At w b o x) : At w b (o + 1) x.ahead := at_fst (α := RInts) (β := RInts × Bool) (p := (x.ahead, x.went, x.whole)) (at_snd (α := RSts) (β := RInts × RInts × Bool) (p := (x.states, x.ahead, x.went, x.whole)) h)
theorem at_DTrail_2 {w : World} {b o : Nat} {x : DTrail} (h : At w b o x) : At w b (o + 2) x.went := at_fst (α := RInts) (β := Bool) (p := (x.went, x.whole)) (at_snd (α := RInts) (β := RInts × Bool) (p := (x.ahead, x.went, x.whole)) (at_snd (α := RSts) (β := RInts × RInts × Bool) (p := (x.states, x.ahead, x.went, x.whole)) h))
theorem at_DTrail_3 {w : World} {b o : Nat} {x : DTrail} (h : At w b o x) : At w b (o + 3) x.whole := at_snd (α := RInts) (β := Bool) (p := (x.went, x.whole)) (at_snd (α := RInts) (β := RInts × Bool) (p := (x.ahead, x.went, x.whole)) (at_snd (α := RSts) (β := RInts × RInts × Bool) (p := (x.states, x.ahead, x.went, x.whole)) h))
theorem rep_DTrail {w : World} {x : DTrail} {F0 : List Nat} {c0 : List Value} (h0 : rep F0 w c0 x.states) {F1 : List Nat} {c1 : List Value} (h1 : rep F1 w c1 x.ahead) {F2 : List Nat} {c2 : List Value} (h2 : rep F2 w c2 x.went) {F3 : List Nat} {c3 : List Value} (h3 : rep F3 w c3 x.whole) : rep (F0 ++ (F1 ++ (F2 ++ F3))) w (c0 ++ (c1 ++ (c2 ++ c3))) x := mine_prod h0 (mine_prod h1 (mine_prod h2 (h3)))
instance : RepZ DTrail := ⟨⟨(RepZ.zv : RSts), (RepZ.zv : RInts), (RepZ.zv : RInts), (RepZ.zv : Bool)⟩, RepZ.zc (RSts × RInts × RInts × Bool), fun w => RepZ.zr (α := RSts × RInts × RInts × Bool) w⟩
theorem lens_DTrail_0 {γ : Type} {H : List Nat → World → γ → Prop} {F : List Nat} {w : World} {b o : Nat} {G : List Nat} {x : DTrail} {upd : DTrail → γ} (h : Lens H F w b o G x upd) :
    ∃ G1, Lens H F w b (o + 0) G1 x.states (fun y => upd ⟨y, x.ahead, x.went, x.whole⟩) := by
  have h' : Lens H F w b o G (x.states, x.ahead, x.went, x.whole) (fun p : RSts × RInts × RInts × Bool => upd ⟨p.1, p.2.1, p.2.2.1, p.2.2.2⟩) := ⟨h.here, h.sub, fun w' G' y' hc hO hs => h.back w' G' _ hc hO hs⟩
  obtain ⟨G0, h'⟩ := h'.fst
  exact ⟨_, h'⟩
theorem lens_DTrail_1 {γ : Type} {H : List Nat → World → γ → Prop} {F : List Nat} {w : World} {b o : Nat} {G : List Nat} {x : DTrail} {upd : DTrail → γ} (h : Lens H F w b o G x upd) :
    ∃ G1, Lens H F w b (o + 1) G1 x.ahead (fun y => upd ⟨x.states, y, x.went, x.whole⟩) := by
  have h' : Lens H F w b o G (x.states, x.ahead, x.went, x.whole) (fun p : RSts × RInts × RInts × Bool => upd ⟨p.1, p.2.1, p.2.2.1, p.2.2.2⟩) := ⟨h.here, h.sub, fun w' G' y' hc hO hs => h.back w' G' _ hc hO hs⟩
  obtain ⟨G0, h'⟩ := h'.snd
  obtain ⟨G1, h'⟩ := h'.fst
  exact ⟨_, h'⟩
theorem lens_DTrail_2 {γ : Type} {H : List Nat → World → γ → Prop} {F : List Nat} {w : World} {b o : Nat} {G : List Nat} {x : DTrail} {upd : DTrail → γ} (h : Lens H F w b o G x upd) :
    ∃ G1, Lens H F w b (o + 2) G1 x.went (fun y => upd ⟨x.states, x.ahead, y, x.whole⟩) := by
  have h' : Lens H F w b o G (x.states, x.ahead, x.went, x.whole) (fun p : RSts × RInts × RInts × Bool => upd ⟨p.1, p.2.1, p.2.2.1, p.2.2.2⟩) := ⟨h.here, h.sub, fun w' G' y' hc hO hs => h.back w' G' _ hc hO hs⟩
  obtain ⟨G0, h'⟩ := h'.snd
  obtain ⟨G1, h'⟩ := h'.snd
  obtain ⟨G2, h'⟩ := h'.fst
  exact ⟨_, h'⟩
theorem lens_DTrail_3 {γ : Type} {H : List Nat → World → γ → Prop} {F : List Nat} {w : World} {b o : Nat} {G : List Nat} {x : DTrail} {upd : DTrail → γ} (h : Lens H F w b o G x upd) :
    ∃ G1, Lens H F w b (o + 3) G1 x.whole (fun y => upd ⟨x.states, x.ahead, x.went, y⟩) := by
  have h' : Lens H F w b o G (x.states, x.ahead, x.went, x.whole) (fun p : RSts × RInts × RInts × Bool => upd ⟨p.1, p.2.1, p.2.2.1, p.2.2.2⟩) := ⟨h.here, h.sub, fun w' G' y' hc hO hs => h.back w' G' _ hc hO hs⟩
  obtain ⟨G0, h'⟩ := h'.snd
  obtain ⟨G1, h'⟩ := h'.snd
  obtain ⟨G2, h'⟩ := h'.snd
  exact ⟨_, h'⟩
theorem inv_DTrail {w : World} {F : List Nat} {cs : List Value} {x : DTrail} (h : rep F w cs x) : ∃ F0 c0 F1 c1 F2 c2 F3 c3, F = (F0 ++ (F1 ++ (F2 ++ F3))) ∧ cs = (c0 ++ (c1 ++ (c2 ++ c3))) ∧ rep F0 w c0 x.states ∧ rep F1 w c1 x.ahead ∧ rep F2 w c2 x.went ∧ rep F3 w c3 x.whole := by
  obtain ⟨F0, G0, c0, d0, rfl, rfl, h0, h⟩ := h
  obtain ⟨F1, G1, c1, d1, rfl, rfl, h1, h⟩ := h
  obtain ⟨F2, G2, c2, d2, rfl, rfl, h2, h⟩ := h
  exact ⟨_, _, _, _, _, _, _, _, rfl, rfl, h0, h1, h2, h⟩

section
variable {w : World}
theorem ownI_trail {z : DTrail} {lo hi h0 h1 : Nat} (m0 : OwnI lo h0 w z.states.v z.states) (m1 : OwnI h0 h1 w z.ahead.v z.ahead) (m2 : OwnI h1 hi w z.went.v z.went) (hle : lo ≤ h0 ∧ h0 ≤ h1 ∧ h1 ≤ hi) :
    OwnI lo hi w (.agg #[z.states.v, z.ahead.v, z.went.v, .bool z.whole]) z := by
  obtain ⟨F0, M0, B0⟩ := m0
  obtain ⟨F1, M1, B1⟩ := m1
  obtain ⟨F2, M2, B2⟩ := m2
  refine ⟨F0 ++ (F1 ++ (F2 ++ [])), ⟨⟨[z.states.v, z.ahead.v, z.went.v, .bool z.whole], rep_DTrail (mine_cell rfl M0.own) (mine_cell rfl M1.own) (mine_cell rfl M2.own) ⟨rfl, rfl⟩, rfl⟩, ?_, M0.wr.append (M1.wr.append (M2.wr.append (Wr.nil w)))⟩, fun x hx => ?_⟩
  · rw [List.append_nil, List.nodup_append, List.nodup_append]
    refine ⟨M0.nodup, ⟨M1.nodup, M2.nodup, fun p hp q hq e => ?_⟩, fun p hp q hq e => ?_⟩
    · subst e; have := B1 p hp; have := B2 p hq; omega
    · subst e
      have := B0 p hp
      rcases List.mem_append.1 hq with hq | hq
      · have := B1 p hq; omega
      · have := B2 p hq; omega
  · rw [List.append_nil] at hx
    rcases List.mem_append.1 hx with hx | hx
    · have := B0 x hx; omega
    · rcases List.mem_append.1 hx with hx | hx
      · have := B1 x hx; omega
      · have := B2 x hx; omega
/-- its fields, each of one's own -/
theorem trail_inv {lo hi : Nat} {v : Value} {z : DTrail} (h : OwnI lo hi w v z) : v = .agg #[z.states.v, z.ahead.v, z.went.v, .bool z.whole] ∧ RowI lo hi 32 w z.states.v z.states.l ∧ RowI lo hi 3 w z.ahead.v z.ahead.l ∧ RowI lo hi 3 w z.went.v z.went.l := by
  obtain ⟨F, ⟨⟨cs, hr, rfl⟩, hn, hw⟩, hF⟩ := h
  obtain ⟨F0, c0, F1, c1, F2, c2, F3, c3, rfl, rfl, ⟨rfl, h0⟩, ⟨rfl, h1⟩, ⟨rfl, h2⟩, ⟨rfl, rfl⟩⟩ := inv_DTrail hr
  have n0 := nodup_app hn
  have n1 := nodup_app n0.2.1
  have n2 := nodup_app n1.2.1
  exact ⟨rfl, rowI_iff.2 ⟨F0, h0, n0.1, fun b hb => hF b (by simp [hb])⟩, rowI_iff.2 ⟨F1, h1, n1.1, fun b hb => hF b (by simp [hb])⟩, rowI_iff.2 ⟨F2, h2, n2.1, fun b hb => hF b (by simp [hb])⟩⟩
end
def DTrail.er (z : DTrail) : Go.Proofs.YteephmhilnlkpaaGreat.Tr := ⟨z.states.l, z.ahead.l, z.went.l, z.whole⟩
end Go.Sh
namespace Go.Proofs.YteephmhilnlkpaaGreat
open Go Go.Sh Go.Proofs
set_option linter.unusedVariables false
/-- impl.placeOfState$1 -/
def F143 (a0 a1 : Value) (w : World) (R : Value → World → Prop) : Prop :=
  OP Tryz.prog (Instr.box 32 a0) w fun x2 w =>
  RD Tryz.prog (Instr.loadAt 32 x2) w fun x4 =>
  RD Tryz.prog (Instr.loadAt 32 a1) w fun x5 =>
  CALL Tryz.prog 144 [x4, x5] w fun x6 w =>
  R x6 w
def cfg143 : Cfg := { ext := extL, joins := [], loops := [], draws := [], pars := [] }
theorem F143_eq (a0 a1 : Value) (w : World) (R : Value → World → Prop) : vcF Tryz.prog cfg143 Tryz.f143 [a0, a1] w R = F143 a0 a1 w R := by kernel_rfl
theorem F143_call {a0 a1 : Value} {w : World} {R : Value → World → Prop} (h : F143 a0 a1 w R) : CALL Tryz.prog 143 [a0, a1] w R :=
  call_of (g := cfg143) ent mixed Tryz.func143 (Nat.le_of_ble_eq_true (by kernel_rfl)) (by kernel_rfl) (F143_eq a0 a1 w R ▸ h)

/-- impl.placeOfState -/
def F84 (a0 a1 : Value) (w : World) (R : Value → World → Prop) : Prop :=
  OP Tryz.prog (Instr.box 32 a1) w fun x3 w =>
  RD Tryz.prog (Instr.makeFunc (Go.Fn.func 143) [].toArray [x3].toArray) w fun x6 =>
  CALL Tryz.prog 142 [a0, x6] w fun x7 w =>
  R x7 w
def cfg84 : Cfg := { ext := extL, joins := [], loops := [], draws := [], pars := [] }
theorem F84_eq (a0 a1 : Value) (w : World) (R : Value → World → Prop) : vcF Tryz.prog cfg84 Tryz.f84 [a0, a1] w R = F84 a0 a1 w R := by kernel_rfl
theorem F84_call {a0 a1 : Value} {w : World} {R : Value → World → Prop} (h : F84 a0 a1 w R) : CALL Tryz.prog 84 [a0, a1] w R :=
  call_of (g := cfg84) ent mixed Tryz.func84 (Nat.le_of_ble_eq_true (by kernel_rfl)) (by kernel_rfl) (F84_eq a0 a1 w R ▸ h)

/-- impl.search -/
def F82 (a0 a1 : Value) (w : World) (R : Value → World → Prop) : Prop :=
  OP Tryz.prog (Instr.box 37 a0) w fun x2 w =>
  OP Tryz.prog (Instr.alloc 91 true (.tuple #[])) w fun x4 w =>
  CALL Tryz.prog 139 [a1, (Value.int .i64 1), (Value.int .i64 150)] w fun x10 w =>
  RD Tryz.prog (Instr.loadAt 37 x2) w fun x11 =>
  CALL Tryz.prog 140 [x11] w fun x12 w =>
  OP Tryz.prog (Instr.buildSlice 45 1 #[(0, x12)]) w fun x13 w =>
  OP Tryz.prog (Instr.buildSlice 23 1 #[(0, (Value.int .i64 (-1)))]) w fun x14 w =>
  OP Tryz.prog (Instr.buildSlice 23 1 #[(0, (Value.int .i64 (-1)))]) w fun x15 w =>
  RD Tryz.prog (Instr.build 91 #[(0, x13), (1, x14), (2, x15), (3, (Value.bool true))]) w fun x16 =>
  OP Tryz.prog (Instr.alloc 91 true (.tuple #[])) w fun x5 w =>
  OPU Tryz.prog (Instr.storeAt 91 x5 x16) w fun w =>
  LOOPI [6] [(Value.int .i64 0)] w fun u4 w next4 =>
   RD Tryz.prog (Instr.fieldAt 91 x5 0) w fun x18 =>
   RD Tryz.prog (Instr.loadAt 45 x18) w fun x19 =>
   RD Tryz.prog (Builtin.len_ #[45] 3 [x19].toArray) w fun x20 =>
   RD Tryz.prog (bin .lss 3 (.tmp 0) (.tmp 0) (u4 6) x20) w fun x21 =>
   BR x21
    (RD Tryz.prog (Instr.fieldAt 91 x5 0) w fun x24 =>
    RD Tryz.prog (Instr.loadAt 45 x24) w fun x25 =>
    RD Tryz.prog (Instr.indexAt 45 x25 (u4 6)) w fun x27 =>
    RD Tryz.prog (Instr.fieldAt 32 x27 2) w fun x28 =>
    RD Tryz.prog (Instr.loadAt 27 x28) w fun x29 =>
    RD Tryz.prog (Builtin.len_ #[27] 3 [x29].toArray) w fun x30 =>
    LOOPI [31] [(Value.int .i64 0)] w fun u7 w next7 =>
     RD Tryz.prog (bin .lss 3 (.tmp 0) (.tmp 0) (u7 31) x30) w fun x32 =>
     BR x32
      ((fun w => RD Tryz.prog (Instr.loadAt 37 x2) w fun x34 =>
      RD Tryz.prog (Instr.fieldAt 91 x5 0) w fun x35 =>
      RD Tryz.prog (Instr.loadAt 45 x35) w fun x36 =>
      RD Tryz.prog (Instr.indexAt 45 x36 (u4 6)) w fun x38 =>
      RD Tryz.prog (Instr.loadAt 32 x38) w fun x39 =>
      CALL Tryz.prog 72 [x34, x39, (u7 31)] w fun x41 w =>
      RD Tryz.prog (Op.unary .not x41) w fun x42 =>
      BR x42
       (RD Tryz.prog (bin .add 3 (.tmp 0) (.const undef) (u7 31) (Value.int .i64 1)) w fun x81 =>
       next7 [x81] w)
       ((fun w0 => PAR w0 [[(0, 43)], [(1, 44)], [(2, 45), (1, 44)], [(3, 46)], [(4, 47), (2, 45), (3, 46)], [(5, 48), (4, 47)], [(6, 49)], [(7, 50), (0, 43), (5, 48), (6, 49)], [(8, 8)]] (fun Q =>
        (∀ (u10 : Env) (T : Nat → Nat × Nat) (w : World), Ext w0 w → Apart [] w0.heap.size w.heap.size T → (True) → (fun w1 => RD Tryz.prog (Instr.loadAt 37 x2) w fun x43 =>
       Ext w1 w ∧ Q 0 (upd u10 43 x43) (updT T 0 (w1.heap.size, w.heap.size)) w) w) ∧
        (∀ (u10 : Env) (T : Nat → Nat × Nat) (w : World), Ext w0 w → Apart [] w0.heap.size w.heap.size T → (True) → (fun w1 => RD Tryz.prog (Instr.fieldAt 91 x5 0) w fun x44 =>
       Ext w1 w ∧ Q 1 (upd u10 44 x44) (updT T 1 (w1.heap.size, w.heap.size)) w) w) ∧
        (∀ (u10 : Env) (T : Nat → Nat × Nat) (w : World), Ext w0 w → Apart [1] w0.heap.size w.heap.size T → (Q 1 u10 T w ∧ True) → (fun w1 => RD Tryz.prog (Instr.loadAt 45 (u10 44)) w fun x45 =>
       Ext w1 w ∧ Q 2 (upd u10 45 x45) (updT T 2 (w1.heap.size, w.heap.size)) w) w) ∧
        (∀ (u10 : Env) (T : Nat → Nat × Nat) (w : World), Ext w0 w → Apart [] w0.heap.size w.heap.size T → (True) → (fun w1 => Ext w1 w ∧ Q 3 (upd u10 46 (u4 6)) (updT T 3 (w1.heap.size, w.heap.size)) w) w) ∧
        (∀ (u10 : Env) (T : Nat → Nat × Nat) (w : World), Ext w0 w → Apart [2, 3] w0.heap.size w.heap.size T → (Q 2 u10 T w ∧ Q 3 u10 T w ∧ True) → (fun w1 => RD Tryz.prog (Instr.indexAt 45 (u10 45) (u10 46)) w fun x47 =>
       Ext w1 w ∧ Q 4 (upd u10 47 x47) (updT T 4 (w1.heap.size, w.heap.size)) w) w) ∧
        (∀ (u10 : Env) (T : Nat → Nat × Nat) (w : World), Ext w0 w → Apart [4] w0.heap.size w.heap.size T → (Q 4 u10 T w ∧ True) → (fun w1 => RD Tryz.prog (Instr.loadAt 32 (u10 47)) w fun x48 =>
       Ext w1 w ∧ Q 5 (upd u10 48 x48) (updT T 5 (w1.heap.size, w.heap.size)) w) w) ∧
        (∀ (u10 : Env) (T : Nat → Nat × Nat) (w : World), Ext w0 w → Apart [] w0.heap.size w.heap.size T → (True) → (fun w1 => Ext w1 w ∧ Q 6 (upd u10 49 (u7 31)) (updT T 6 (w1.heap.size, w.heap.size)) w) w) ∧
        (∀ (u10 : Env) (T : Nat → Nat × Nat) (w : World), Ext w0 w → Apart [0, 5, 6] w0.heap.size w.heap.size T → (Q 0 u10 T w ∧ Q 5 u10 T w ∧ Q 6 u10 T w ∧ True) → (fun w1 => CALL Tryz.prog 74 [(u10 43), (u10 48), (u10 49)] w fun x50 w =>
       Ext w1 w ∧ Q 7 (upd u10 50 x50) (updT T 7 (w1.heap.size, w.heap.size)) w) w) ∧
        (∀ (u10 : Env) (T : Nat → Nat × Nat) (w : World), Ext w0 w → Apart [] w0.heap.size w.heap.size T → (True) → (fun w1 => OP Tryz.prog (Instr.alloc 32 true (.tuple #[])) w fun x8 w =>
       Ext w1 w ∧ Q 8 (upd u10 8 x8) (updT T 8 (w1.heap.size, w.heap.size)) w) w) ∧
        True)
        (fun Q => ∀ (u10 : Env) (T : Nat → Nat × Nat) (w : World), Ext w0 w → Apart [0, 1, 2, 3, 4, 5, 6, 7, 8] w0.heap.size w.heap.size T → (Q 0 u10 T w ∧ Q 1 u10 T w ∧ Q 2 u10 T w ∧ Q 3 u10 T w ∧ Q 4 u10 T w ∧ Q 5 u10 T w ∧ Q 6 u10 T w ∧ Q 7 u10 T w ∧ Q 8 u10 T w ∧ True) →
        OPU Tryz.prog (Instr.storeAt 32 (u10 8) (u10 50)) w fun w =>
       RD Tryz.prog (Instr.fieldAt 91 x5 0) w fun x51 =>
       RD Tryz.prog (Instr.loadAt 45 x51) w fun x52 =>
       RD Tryz.prog (Instr.loadAt 32 (u10 8)) w fun x53 =>
       CALL Tryz.prog 84 [x52, x53] w fun x54 w =>
       RD Tryz.prog (bin .geq 3 (.tmp 0) (.const undef) x54 (Value.int .i64 0)) w fun x55 =>
       BR x55
        (RD Tryz.prog (bin .add 3 (.tmp 0) (.const undef) (u7 31) (Value.int .i64 1)) w fun x81 =>
        next7 [x81] w)
        (RD Tryz.prog (Instr.fieldAt 91 x5 0) w fun x56 =>
        RD Tryz.prog (Instr.loadAt 45 x56) w fun x57 =>
        RD Tryz.prog (Builtin.len_ #[45] 3 [x57].toArray) w fun x58 =>
        RD Tryz.prog (bin .eql 3 (.tmp 0) (.tmp 0) x58 x10) w fun x60 =>
        BR x60
         (RD Tryz.prog (Instr.fieldAt 91 x5 3) w fun x61 =>
         OPU Tryz.prog (Instr.storeAt 4 x61 (Value.bool false)) w fun w =>
         RD Tryz.prog (Instr.loadAt 91 x5) w fun x62 =>
         OPU Tryz.prog (Instr.storeAt 91 x4 x62) w fun w =>
         RD Tryz.prog (loadRes 91 x4) w fun r4 => R r4 w)
         (RD Tryz.prog (Instr.fieldAt 91 x5 0) w fun x63 =>
         RD Tryz.prog (Instr.loadAt 45 x63) w fun x64 =>
         RD Tryz.prog (Instr.loadAt 32 (u10 8)) w fun x65 =>
         OP Tryz.prog (Instr.buildSlice 45 1 #[(0, x65)]) w fun x66 w =>
         OP Tryz.prog (Builtin.append_ #[45, 45] 45 [x64, x66].toArray) w fun x67 w =>
         RD Tryz.prog (Instr.fieldAt 91 x5 0) w fun x68 =>
         OPU Tryz.prog (Instr.storeAt 45 x68 x67) w fun w =>
         RD Tryz.prog (Instr.fieldAt 91 x5 1) w fun x69 =>
         RD Tryz.prog (Instr.loadAt 23 x69) w fun x70 =>
         OP Tryz.prog (Instr.buildSlice 23 1 #[(0, (u4 6))]) w fun x72 w =>
         OP Tryz.prog (Builtin.append_ #[23, 23] 23 [x70, x72].toArray) w fun x73 w =>
         RD Tryz.prog (Instr.fieldAt 91 x5 1) w fun x74 =>
         OPU Tryz.prog (Instr.storeAt 23 x74 x73) w fun w =>
         RD Tryz.prog (Instr.fieldAt 91 x5 2) w fun x75 =>
         RD Tryz.prog (Instr.loadAt 23 x75) w fun x76 =>
         OP Tryz.prog (Instr.buildSlice 23 1 #[(0, (u7 31))]) w fun x78 w =>
         OP Tryz.prog (Builtin.append_ #[23, 23] 23 [x76, x78].toArray) w fun x79 w =>
         RD Tryz.prog (Instr.fieldAt 91 x5 2) w fun x80 =>
         OPU Tryz.prog (Instr.storeAt 23 x80 x79) w fun w =>
         RD Tryz.prog (bin .add 3 (.tmp 0) (.const undef) (u7 31) (Value.int .i64 1)) w fun x81 =>
         next7 [x81] w)))) (World.drew1 w))) (World.drew1 w))
      (RD Tryz.prog (bin .add 3 (.tmp 0) (.const undef) (u4 6) (Value.int .i64 1)) w fun x23 =>
      next4 [x23] w))
    (RD Tryz.prog (Instr.loadAt 91 x5) w fun x82 =>
    OPU Tryz.prog (Instr.storeAt 91 x4 x82) w fun w =>
    RD Tryz.prog (loadRes 91 x4) w fun r4 => R r4 w)
def cfg82 : Cfg := { ext := extL, joins := [], loops := [(4, 4835703278458516698694080, [6]), (7, 4835703278458514551341440, [31])], draws := [(9, [0, 1, 2, 3, 4, 5, 6, 7, 8], 0)], pars := [(10, 2243003720663296, 9)] }
theorem F82_eq (a0 a1 : Value) (w : World) (R : Value → World → Prop) : vcF Tryz.prog cfg82 Tryz.f82 [a0, a1] w R = F82 a0 a1 w R := by kernel_rfl
theorem F82_call {a0 a1 : Value} {w : World} {R : Value → World → Prop} (h : F82 a0 a1 w R) : CALL Tryz.prog 82 [a0, a1] w R :=
  call_of (g := cfg82) ent mixed Tryz.func82 (Nat.le_of_ble_eq_true (by kernel_rfl)) (by kernel_rfl) (F82_eq a0 a1 w R ▸ h)

set_option linter.unusedVariables false
set_option linter.unusedSimpArgs false
/-- impl.Brought -/
def F139 (a0 a1 a2 : Value) (w : World) (R : Value → World → Prop) : Prop :=
  RD Tryz.prog (bin .lss 3 (.tmp 0) (.tmp 0) a0 a1) w fun x9 =>
  BR x9
  (R a1 w)
  (RD Tryz.prog (bin .lss 3 (.tmp 0) (.tmp 0) a2 a1) w fun x13 =>
  BR x13
   (R a1 w)
   (RD Tryz.prog (Builtin.min_ #[3, 3] 3 [a0, a2].toArray) w fun x18 =>
   R x18 w))
def cfg139 : Cfg := { ext := extL, joins := [], loops := [], draws := [], pars := [] }
theorem F139_eq (a0 a1 a2 : Value) (w : World) (R : Value → World → Prop) : vcF Tryz.prog cfg139 Tryz.f139 [a0, a1, a2] w R = F139 a0 a1 a2 w R := by kernel_rfl
theorem F139_call {a0 a1 a2 : Value} {w : World} {R : Value → World → Prop} (h : F139 a0 a1 a2 w R) : CALL Tryz.prog 139 [a0, a1, a2] w R :=
  call_of (g := cfg139) ent mixed Tryz.func139 (Nat.le_of_ble_eq_true (by kernel_rfl)) (by kernel_rfl) (F139_eq a0 a1 a2 w R ▸ h)


theorem implBrought_ok {w : World} {n : Int} {lo : Int} {hi : Int}    :
    CALL Tryz.prog 139 [.int .i64 n, .int .i64 lo, .int .i64 hi] w fun r w' => Ext w w' ∧ (r = .int .i64 (brought n lo hi)) := by
  refine F139_call ?_
  unfold F139
  refine rd_lss ?_
  refine br (fun c1 => ?_) (fun c1 => ?_)
  · refine ⟨Ext.refl w, ?_⟩
    first | (rw [show brought n lo hi = lo from if_pos (by omega)]) | (rw [show brought n lo hi = min n hi from if_neg (by omega)])
  · refine rd_lss ?_
    refine br (fun c2 => ?_) (fun c2 => ?_)
    · refine ⟨Ext.refl w, ?_⟩
      first | (rw [show brought n lo hi = lo from if_pos (by omega)]) | (rw [show brought n lo hi = min n hi from if_neg (by omega)])
    · refine rd_min ?_
      refine ⟨Ext.refl w, ?_⟩
      first | (rw [show brought n lo hi = lo from if_pos (by omega)]) | (rw [show brought n lo hi = min n hi from if_neg (by omega)])

/-- spec.Brought -/
def F133 (a0 a1 a2 : Value) (w : World) (R : Value → World → Prop) : Prop :=
  RD Tryz.prog (bin .lss 3 (.tmp 0) (.tmp 0) a2 a1) w fun x9 =>
  BR x9
  (R a1 w)
  (RD Tryz.prog (bin .lss 3 (.tmp 0) (.tmp 0) a0 a1) w fun x13 =>
  BR x13
   (R a1 w)
   (RD Tryz.prog (bin .gtr 3 (.tmp 0) (.tmp 0) a0 a2) w fun x18 =>
   BR x18
    (R a2 w)
    (R a0 w)))
def cfg133 : Cfg := { ext := extL, joins := [], loops := [], draws := [], pars := [] }
theorem F133_eq (a0 a1 a2 : Value) (w : World) (R : Value → World → Prop) : vcF Tryz.prog cfg133 Tryz.f133 [a0, a1, a2] w R = F133 a0 a1 a2 w R := by kernel_rfl
theorem F133_call {a0 a1 a2 : Value} {w : World} {R : Value → World → Prop} (h : F133 a0 a1 a2 w R) : CALL Tryz.prog 133 [a0, a1, a2] w R :=
  call_of (g := cfg133) ent mixed Tryz.func133 (Nat.le_of_ble_eq_true (by kernel_rfl)) (by kernel_rfl) (F133_eq a0 a1 a2 w R ▸ h)


theorem specBrought_ok {w : World} {n : Int} {lo : Int} {hi : Int}    :
    CALL Tryz.prog 133 [.int .i64 n, .int .i64 lo, .int .i64 hi] w fun r w' => Ext w w' ∧ (r = .int .i64 (brought n lo hi)) := by
  refine F133_call ?_
  unfold F133
  refine rd_lss ?_
  refine br (fun c1 => ?_) (fun c1 => ?_)
  · refine ⟨Ext.refl w, ?_⟩
    first | (rw [show brought n lo hi = lo from if_pos (by omega)]) | (rw [show brought n lo hi = min n hi from if_neg (by omega)]; congr 1; omega)
  · refine rd_lss ?_
    refine br (fun c2 => ?_) (fun c2 => ?_)
    · refine ⟨Ext.refl w, ?_⟩
      first | (rw [show brought n lo hi = lo from if_pos (by omega)]) | (rw [show brought n lo hi = min n hi from if_neg (by omega)]; congr 1; omega)
    · refine rd_gtr ?_
      refine br (fun c3 => ?_) (fun c3 => ?_)
      · refine ⟨Ext.refl w, ?_⟩
        first | (rw [show brought n lo hi = lo from if_pos (by omega)]) | (rw [show brought n lo hi = min n hi from if_neg (by omega)]; congr 1; omega)
      · refine ⟨Ext.refl w, ?_⟩
        first | (rw [show brought n lo hi = lo from if_pos (by omega)]) | (rw [show brought n lo hi = min n hi from if_neg (by omega)]; congr 1; omega)

/-- spec.l23At -/
def F83 (a0 a1 : Value) (w : World) (R : Value → World → Prop) : Prop :=
  OP Tryz.prog (Instr.box 32 a1) w fun x3 w =>
  LOOPI [5] [(Value.int .i64 0)] w fun u2 w next2 =>
   RD Tryz.prog (Builtin.len_ #[45] 3 [a0].toArray) w fun x8 =>
   RD Tryz.prog (bin .lss 3 (.tmp 0) (.tmp 0) (u2 5) x8) w fun x9 =>
   BR x9
    ((fun w => RD Tryz.prog (Instr.indexAt 45 a0 (u2 5)) w fun x14 =>
    RD Tryz.prog (Instr.loadAt 32 x14) w fun x15 =>
    RD Tryz.prog (Instr.loadAt 32 x3) w fun x16 =>
    CALL Tryz.prog 141 [x15, x16] w fun x17 w =>
    BR x17
     (R (u2 5) w)
     (RD Tryz.prog (bin .add 3 (.tmp 0) (.const undef) (u2 5) (Value.int .i64 1)) w fun x11 =>
     next2 [x11] w)) (World.drew1 w))
    (R (Value.int .i64 (-1)) w)
def cfg83 : Cfg := { ext := extL, joins := [], loops := [(2, 524272, [5])], draws := [(4, [0, 1, 2, 3, 4, 5], 0)], pars := [] }
theorem F83_eq (a0 a1 : Value) (w : World) (R : Value → World → Prop) : vcF Tryz.prog cfg83 Tryz.f83 [a0, a1] w R = F83 a0 a1 w R := by kernel_rfl
theorem F83_call {a0 a1 : Value} {w : World} {R : Value → World → Prop} (h : F83 a0 a1 w R) : CALL Tryz.prog 83 [a0, a1] w R :=
  call_of (g := cfg83) ent mixed Tryz.func83 (Nat.le_of_ble_eq_true (by kernel_rfl)) (by kernel_rfl) (F83_eq a0 a1 w R ▸ h)


theorem l23At_ok {w : World} {v0 : Value} {W0 : World} {l : (List DState)} {v1 : Value} {W1 : World} {s : DState}  (h0 : Is W0 v0 l) (e0 : Ext W0 w) (h1 : Is W1 v1 s) (e1 : Ext W1 w)  :
    CALL Tryz.prog 83 [v0, v1] w fun r w' => Ext w w' ∧ (r = .int .i64 (plcG s l)) := by
  refine F83_call ?_
  unfold F83
  have hl := is_len h0
  refine op_boxS ty32 rfl h1 e1 fun w1_ hx1_ hA3 hV3 => ?_
  refine loopC (l.length) (fun k us w' => us = [.int .i64 (k : Int)] ∧ Ext w1_ w' ∧ (s ∉ l.take k)) (0) (by omega) ⟨by simp, Ext.refl w1_, by simp⟩ ?_
  rintro k m2 uu2 w2_ hk2 ⟨hu, hx2_, hinv⟩
  simp only [List.map_cons, List.map_nil, List.cons.injEq, and_true] at hu
  try rw [hu]
  try clear hu
  have hln8 := is_len h0
  refine rd_len u45 h0 ?_
  refine rd_lss ?_
  refine br (fun c1 => ?_) (fun c1 => ?_)
  · have hx3_ := ext_drew w2_
    refine rd_indexN u45 ty32 h0 (by omega) fun b14 o14 h14 => ?_
    refine rd_load ty32 h14 (e0.trans (hx1_.trans (hx2_.trans hx3_))) fun v15 h15 => ?_
    refine rd_var hV3 (hx2_.trans hx3_) ?_
    refine (specSameState_ok h15 (e0.trans (hx1_.trans (hx2_.trans hx3_))) h1 (e1.trans (hx1_.trans (hx2_.trans hx3_)))).mono ?_
    rintro _ w4_ ⟨hx4_, rfl⟩
    refine br (fun c2 => ?_) (fun c2 => ?_)
    · refine ⟨(hx1_.trans (hx2_.trans (hx3_.trans hx4_))), ?_⟩
      rw [plcG_at (by omega) hinv c2]
    · refine rd_inc (by omega) ?_
      refine ⟨m2 - 1, by omega, k + 1, by omega, by simp, (hx2_.trans (hx3_.trans hx4_)), ?_⟩
      exact mem_take_succG (by omega) hinv c2
  · refine ⟨(hx1_.trans hx2_), ?_⟩
    rw [List.take_of_length_le (by omega)] at hinv
    rw [plcG_none hinv]

theorem placeCl_ok {w W0 W1 : World} {v0 : Value} {x s : DState} {b : Nat} (h0 : Is W0 v0 x) (e0 : Ext W0 w) (hA : At W1 b 0 s) (e1 : Ext W1 w) :
    CALL Tryz.prog 143 [v0, .pointer (some ⟨b, 0, none⟩)] w fun r w' => Ext w w' ∧ r = .bool (decide (x = s)) := by
  refine F143_call ?_
  unfold F143
  refine op_box h0 e0 fun w1 hx1 hA0 => ?_
  refine rd_load ty32 hA0 (Ext.refl _) fun v4 h4 => ?_
  refine rd_load ty32 hA (e1.trans hx1) fun v5 h5 => ?_
  refine (implSameState_ok h4 (Ext.refl _) h5 (e1.trans hx1)).mono ?_
  rintro _ w2 ⟨hx2, rfl⟩
  exact ⟨hx1.trans hx2, rfl⟩
theorem opn_funcC {P : Program} {f : Nat} {args caps : List Value} {w : World} {K : Value → World → Prop} (hE : enters P f = true) (h : CALL P f (args ++ caps) w K) : OPN P (callV (.func (.func f) #[] caps.toArray) args) w K := by
  obtain ⟨h⟩ := h
  refine .enter f (args ++ caps).toArray w ?_ h
  simp [callV, Deferred.ofValue, invoke, run_callFunc hE]
theorem entPl : enters Tryz.prog 143 = true := by kernel_rfl
/-- slices.IndexFunc[[]impl.State,impl.State] -/
def F142 (a0 a1 : Value) (w : World) (R : Value → World → Prop) : Prop :=
  RD Tryz.prog (Builtin.len_ #[45] 3 [a0].toArray) w fun x7 =>
  LOOPI [8] [(Value.int .i64 0)] w fun u2 w next2 =>
   RD Tryz.prog (bin .lss 3 (.tmp 0) (.tmp 0) (u2 8) x7) w fun x9 =>
   BR x9
    (RD Tryz.prog (Instr.indexAt 45 a0 (u2 8)) w fun x14 =>
    RD Tryz.prog (Instr.loadAt 32 x14) w fun x15 =>
    OPN Tryz.prog (callV a1 [x15]) w fun x16 w =>
    BR x16
     (R (u2 8) w)
     (RD Tryz.prog (bin .add 3 (.tmp 0) (.const undef) (u2 8) (Value.int .i64 1)) w fun x18 =>
     next2 [x18] w))
    (R (Value.int .i64 (-1)) w)
def cfg142 : Cfg := { ext := extL, joins := [], loops := [(2, 524080, [8])], draws := [], pars := [] }
theorem F142_eq (a0 a1 : Value) (w : World) (R : Value → World → Prop) : vcF Tryz.prog cfg142 Tryz.f142 [a0, a1] w R = F142 a0 a1 w R := by kernel_rfl
theorem F142_call {a0 a1 : Value} {w : World} {R : Value → World → Prop} (h : F142 a0 a1 w R) : CALL Tryz.prog 142 [a0, a1] w R :=
  call_of (g := cfg142) ent mixed Tryz.func142 (Nat.le_of_ble_eq_true (by kernel_rfl)) (by kernel_rfl) (F142_eq a0 a1 w R ▸ h)


theorem indexFuncSt_ok {w : World} {v0 : Value} {W0 : World} {l : (List DState)} {v1 : Value} {s : DState} {WA : World} {ba : Nat} (h0 : Is W0 v0 l) (e0 : Ext W0 w) (hf : v1 = .func (.func 143) #[] #[.pointer (some ⟨ba, 0, none⟩)]) (hA : At WA ba 0 s) (eA : Ext WA w) :
    CALL Tryz.prog 142 [v0, v1] w fun r w' => Ext w w' ∧ (r = .int .i64 (plcG s l)) := by
  refine F142_call ?_
  unfold F142
  subst hf
  have hl := is_len h0
  have hln7 := is_len h0
  refine rd_len u45 h0 ?_
  refine loopC (l.length) (fun k us w' => us = [.int .i64 (k : Int)] ∧ Ext w w' ∧ (s ∉ l.take k)) (0) (by omega) ⟨by simp, Ext.refl w, by simp⟩ ?_
  rintro k m2 uu2 w1_ hk2 ⟨hu, hx1_, hinv⟩
  simp only [List.map_cons, List.map_nil, List.cons.injEq, and_true] at hu
  try rw [hu]
  try clear hu
  refine rd_lss ?_
  refine br (fun c1 => ?_) (fun c1 => ?_)
  · refine rd_indexN u45 ty32 h0 (by omega) fun b14 o14 h14 => ?_
    refine rd_load ty32 h14 (e0.trans hx1_) fun v15 h15 => ?_
    refine opn_funcC (args := [v15]) (caps := [_]) entPl ((placeCl_ok h15 (e0.trans hx1_) hA (eA.trans hx1_)).mono ?_)
    rintro _ w9 ⟨hx9, rfl⟩
    refine br (fun c2 => ?_) (fun c2 => ?_)
    · refine ⟨(hx1_.trans hx9), ?_⟩
      rw [plcG_at (by omega) hinv c2]
    · refine rd_inc (by omega) ?_
      refine ⟨m2 - 1, by omega, k + 1, by omega, by simp, (hx1_.trans hx9), ?_⟩
      exact mem_take_succG (by omega) hinv c2
  · refine ⟨hx1_, ?_⟩
    rw [List.take_of_length_le (by omega)] at hinv
    rw [plcG_none hinv]

theorem implPlace_ok {w W0 W1 : World} {v0 v1 : Value} {l : List DState} {s : DState} (h0 : Is W0 v0 l) (e0 : Ext W0 w) (h1 : Is W1 v1 s) (e1 : Ext W1 w) :
    CALL Tryz.prog 84 [v0, v1] w fun r w' => Ext w w' ∧ r = .int .i64 (plcG s l) := by
  refine F84_call ?_
  unfold F84
  refine op_box h1 e1 fun w1 hx1 hA => ?_
  refine rd_of (v := .func (.func 143) #[] #[.pointer (some ⟨w.heap.size, 0, none⟩)]) (fun w' _ => by simp [Instr.makeFunc]) ?_
  refine (indexFuncSt_ok h0 (e0.trans hx1) rfl hA (Ext.refl w1)).mono ?_
  rintro _ w2 ⟨hx2, rfl⟩
  exact ⟨hx1.trans hx2, rfl⟩
theorem zlTr : zeroL Tryz.prog 91 = some [.slice none 0 0, .slice none 0 0, .slice none 0 0, .bool false] := by kernel_rfl
/-- what the operations ahead of a step yield -/
def seQ (c : DCode) (z : DTrail) (g : Nat) (i t : Nat) (w0 : World) : ParQ := fun j u T w => match j with
  | 0 => Is w0 (u 43) c
  | 1 => u 44 = .pointer (some ⟨g, 0 + 0, none⟩)
  | 2 => u 45 = z.states.v
  | 3 => u 46 = .int .i64 (i : Int)
  | 4 => ∃ b o, u 47 = .pointer (some ⟨b, o, none⟩) ∧ At w0 b o (stAt z.er i)
  | 5 => Is w0 (u 48) (stAt z.er i)
  | 6 => u 49 = .int .i64 (t : Int)
  | 7 => OwnI (T 7).1 (T 7).2 w (u 50) (stepD c (stAt z.er i) t)
  | 8 => ∃ gg, u 8 = .pointer (some ⟨gg, 0, none⟩) ∧ (T 8).1 ≤ gg ∧ gg < (T 8).2 ∧ Blk gg 32 w [.slice none 0 0, .slice none 0 0, .slice none 0 0]
  | _ => True
theorem search_ok {w W0 : World} {v0 : Value} {c : DCode} {m : Int} (h0 : Is W0 v0 c) (e0 : Ext W0 w) (hw : wCode c ≤ 1048576) (hc : CodeR c) :
    CALL Tryz.prog 82 [v0, .int .i64 m] w fun r w' => Ext w w' ∧ ∃ z : DTrail, OwnI w.heap.size w'.heap.size w' r z ∧ z.er = lookD c (brought m 1 150).toNat ∧ TrOk c (brought m 1 150).toNat z.er := by
  refine F82_call ?_
  unfold F82
  refine op_box h0 e0 fun w1 hx1 hA => ?_
  refine op_varZ (α := DTrail) zlTr fun w2 hx2 hv4 => ?_
  have hs1 := hx1.size
  have hs2 := hx2.size
  have hg4 := hv4.lt
  refine implBrought_ok.mono ?_
  rintro _ w3 ⟨hx3, rfl⟩
  have hs3 := hx3.size
  have hMi := brought_in m
  obtain ⟨M, hM, hM1, hM2⟩ : ∃ M : Nat, brought m 1 150 = (M : Int) ∧ 1 ≤ M ∧ M ≤ 150 := ⟨(brought m 1 150).toNat, by omega, by omega, by omega⟩
  rw [hM]
  have hMt : ((M : Nat) : Int).toNat = M := by omega
  rw [hMt]
  refine rd_load ty37 hA (hx2.trans hx3) fun v11 h11 => ?_
  refine (startIn_ok h11 (hx2.trans hx3) hw hc).mono ?_
  rintro r12 w4 ⟨hx4, o12⟩
  have o12 := o12.toI
  have hs4 := hx4.size
  refine op_buildR (β := DState) u45 ty32 z32 (by decide) o12 (by omega) fun v13 w5 hx5 r13 => ?_
  have hs5 := hx5.size
  refine op_buildR (β := Int) (lo2 := w5.heap.size) (hi2 := w5.heap.size) u23 ty3 z3 (by decide) (ownI_int (x := -1) (by unfold I64; omega)) (by omega) fun v14 w6 hx6 r14 => ?_
  have hs6 := hx6.size
  refine op_buildR (β := Int) (lo2 := w6.heap.size) (hi2 := w6.heap.size) u23 ty3 z3 (by decide) (ownI_int (x := -1) (by unfold I64; omega)) (by omega) fun v15 w7 hx7 r15 => ?_
  have hs7 := hx7.size
  have o13 := ownI_rv ((r13.ext hx6).ext hx7)
  have o14 := ownI_rv (r14.ext hx7)
  have o15 := ownI_rv r15
  obtain ⟨a13, n13, c13, e13⟩ := ownI_form r13.own
  obtain ⟨a14, n14, c14, e14⟩ := ownI_form r14.own
  obtain ⟨a15, n15, c15, e15⟩ := ownI_form r15.own
  have otr := ownI_trail (z := ⟨⟨v13, [startD c]⟩, ⟨v14, [-1]⟩, ⟨v15, [-1]⟩, true⟩) o13 o14 o15 (by omega)
  refine rd_build (cells := #[v13, v14, v15, .bool true]) (by rw [e13, e14, e15]; kernel_rfl) ?_
  refine op_varZ (α := DTrail) zlTr fun w8 hx8 hv5 => ?_
  have hs8 := hx8.size
  have hg5 := hv5.lt
  refine opu_varA ty91 hv5 (otr.ext hx8) (by omega) fun w9 hc9 hv9 => ?_
  have hs9 := hc9.size
  have hx39 : Ext w3 w9 := Ext.chgI (hx4.trans (hx5.trans (hx6.trans (hx7.trans hx8)))) hc9 (by omega)
  generalize hgd : w7.heap.size = g at *
  have hv9 := hv9.mono (lo' := w3.heap.size) (hi' := w9.heap.size) (Nat.le_refl _) (by omega)
  -- what a round ends with
  have fin : ∀ (z : DTrail) (w' : World) (hi : Nat), Ext w3 w' → VarI w3.heap.size hi w' g z → hi ≤ w'.heap.size → TrOk c M z.er → z.er = lookD c M →
      RD Tryz.prog (Instr.loadAt 91 (.pointer (some ⟨g, 0, none⟩))) w' fun x82 => OPU Tryz.prog (Instr.storeAt 91 (.pointer (some ⟨w1.heap.size, 0, none⟩)) x82) w' fun w'' =>
        RD Tryz.prog (loadRes 91 (.pointer (some ⟨w1.heap.size, 0, none⟩))) w'' fun r => Ext w w'' ∧ ∃ z : DTrail, OwnI w.heap.size w''.heap.size w'' r z ∧ z.er = lookD c M ∧ TrOk c M z.er := by
    intro z w' hi hx hv hhi hok hz
    refine rd_varI ty91 hv (Ext.refl _) fun v82 o82 => ?_
    refine opu_varA ty91 (hv4.ext (hx3.trans hx)) o82 (by omega) fun w'' hc hv4' => ?_
    have hsc := hc.size
    refine rd_varRI ty91 hv4' (Ext.refl _) fun r o => ?_
    exact ⟨Ext.chgI (hx1.trans (hx2.trans (hx3.trans hx))) hc (by omega), z, o.mono (by omega) (by omega), hz, hok⟩
  refine loopC M (fun k us w' => us = [.int .i64 (k : Int)] ∧ ∃ (z : DTrail) (hi : Nat), Ext w3 w' ∧ VarI w3.heap.size hi w' g z ∧ g < hi ∧ hi ≤ w'.heap.size ∧ TrOk c M z.er ∧ k ≤ z.states.l.length ∧ lookGo c M (M - k) k z.er = lookD c M) 0 (by omega)
    ⟨rfl, _, w9.heap.size, hx39, hv9, by omega, Nat.le_refl _, start_ok hc hM1, Nat.zero_le _, rfl⟩ ?_
  rintro k mk u w10 hkm ⟨hu, z, hi, hx10, hv10, hgh, hhi, hok, hkl, hlook⟩
  simp only [List.map_cons, List.map_nil, List.cons.injEq, and_true] at hu
  rw [hu]
  have hmany : 1 ≤ z.states.l.length ∧ z.states.l.length ≤ M := hok.many
  refine rd_fld fd91_0 ?_
  refine rd_loadV ty45 (at_DTrail_0 hv10.at) (Ext.refl _) ?_
  have hst := at_rv (at_DTrail_0 hv10.at)
  refine rd_len u45 hst ?_
  refine rd_lss ?_
  refine br (fun hlt => ?_) (fun hge => ?_)
  case refine_2 =>
    refine fin z w10 hi hx10 hv10 hhi hok ?_
    rw [← hlook, lookGo_end (f := z.er) (by show z.states.l.length ≤ k; omega)]
  have hkz : k < z.states.l.length := by omega
  refine rd_fld fd91_0 ?_
  refine rd_loadV ty45 (at_DTrail_0 hv10.at) (Ext.refl _) ?_
  refine rd_indexN u45 ty32 hst hkz fun b27 o27 h27 => ?_
  replace h27 : At w10 b27 o27 (stAt z.er k) := by rw [← stAt_get (f := z.er) hkz]; exact h27
  refine rd_fld fd32_2 ?_
  refine rd_load ty27 (at_DState_2 h27) (Ext.refl _) fun v29 h29 => ?_
  refine rd_len u27 h29 ?_
  have hsr : StateR c (stAt z.er k) := hok.right _ (by rw [← stAt_get (f := z.er) hkz]; exact List.getElem_mem _)
  obtain ⟨s, hsd⟩ : ∃ s, stAt z.er k = s := ⟨_, rfl⟩
  rw [hsd] at hsr ⊢
  have hn6 := hsr.2.2.1
  refine loopC s.stacks.length (fun t us w' => us = [.int .i64 (t : Int)] ∧ ∃ (z' : DTrail) (hi' : Nat), Ext w3 w' ∧ VarI w3.heap.size hi' w' g z' ∧ g < hi' ∧ hi' ≤ w'.heap.size ∧ TrOk c M z'.er ∧ k < z'.states.l.length ∧ stAt z'.er k = s ∧
      rowGo c M k s.stacks.length 0 z.er = rowGo c M k (s.stacks.length - t) t z'.er) 0 (by omega)
    ⟨rfl, z, hi, hx10, hv10, hgh, hhi, hok, hkz, hsd, rfl⟩ ?_
  rintro t mt u7 w11 htm ⟨hu7, z', hi', hx11, hv11, hgh', hhi', hok', hkz', hsd', hrow⟩
  simp only [List.map_cons, List.map_nil, List.cons.injEq, and_true] at hu7
  rw [hu7]
  refine rd_lss ?_
  refine br (fun htl => ?_) (fun htg => ?_)
  case refine_2 =>
    have ht : t = s.stacks.length := by omega
    subst ht
    rw [Nat.sub_self, rowGo] at hrow
    rw [← hsd] at hrow
    refine rd_inc (by omega) ?_
    refine ⟨mk - 1, by omega, k + 1, by omega, rfl, z', hi', hx11, hv11, hgh', hhi', hok', by omega, ?_⟩
    rw [← hlook, show M - k = (M - (k + 1)) + 1 by omega, lookGo_next (f := z.er) hkz hrow]
  have htn : t < s.stacks.length := by omega
  have hq : s.stacks.length - t = (s.stacks.length - (t + 1)) + 1 := by omega
  have hx12 := ext_drew w11
  have hs12 := hx12.size
  have hst' := at_rv (at_DTrail_0 hv11.at)
  refine rd_load ty37 hA (hx2.trans (hx3.trans (hx11.trans hx12))) fun v34 h34 => ?_
  refine rd_fld fd91_0 ?_
  refine rd_loadV ty45 (at_DTrail_0 hv11.at) hx12 ?_
  refine rd_indexN u45 ty32 hst' hkz' fun b38 o38 h38 => ?_
  replace h38 : At w11 b38 o38 s := by rw [← hsd', ← stAt_get (f := z'.er) hkz']; exact h38
  refine rd_load ty32 h38 hx12 fun v39 h39 => ?_
  refine (goes_ok h34 (hx2.trans (hx3.trans (hx11.trans hx12))) h39 hx12 hc hsr).mono ?_
  rintro _ w13 ⟨hx13, rfl⟩
  have hs13 := hx13.size
  refine rd_nodec ?_
  refine br (fun hng => ?_) (fun hg => ?_)
  · refine rd_inc (by omega) ?_
    refine ⟨mt - 1, by omega, t + 1, by omega, rfl, z', hi', hx11.trans (hx12.trans hx13), hv11.ext (hx12.trans hx13), hgh', by omega, hok', hkz', hsd', ?_⟩
    rw [hrow, hq, rowGo_go (visit_no (f := z'.er) (by rw [hsd']; exact hng))]
  have hgo : GoR c s t := Decidable.not_not.1 hg
  have hx14 := ext_drew w13
  have hs14 := hx14.size
  have hxx : Ext w11 (World.drew1 w13) := hx12.trans (hx13.trans hx14)
  generalize World.drew1 w13 = w14 at *
  refine PAR.mk (seQ c z' g k t w14) ?_ ?_ ?_
  · intro i u u' T T' wa wb hxa hxb hd hq
    match i, hd, hq with
    | 0, hd, hq => have := (hd (0, 43) (by decide)).1; show Is _ (u' 43) _; simp only [this]; exact hq
    | 1, hd, hq => exact (hd (1, 44) (by decide)).1.trans hq
    | 2, hd, hq => exact (hd (2, 45) (by decide)).1.trans hq
    | 3, hd, hq => exact (hd (3, 46) (by decide)).1.trans hq
    | 4, hd, ⟨b, o, q1, q2⟩ => exact ⟨b, o, (hd (4, 47) (by decide)).1.trans q1, q2⟩
    | 5, hd, hq => have := (hd (5, 48) (by decide)).1; show Is _ (u' 48) _; simp only [this]; exact hq
    | 6, hd, hq => exact (hd (6, 49) (by decide)).1.trans hq
    | 7, hd, hq =>
      obtain ⟨e1, e2⟩ := hd (7, 50) (by decide)
      simp only at e1 e2
      show OwnI (T' 7).1 (T' 7).2 wb (u' 50) _
      rw [e1, e2]; exact OwnI.ext hq hxb
    | 8, hd, ⟨gg, q1, q2, q3, q4⟩ =>
      obtain ⟨e1, e2⟩ := hd (8, 8) (by decide)
      simp only at e1 e2
      exact ⟨gg, e1.trans q1, by rw [e2]; exact q2, by rw [e2]; exact q3, q4.ext hxb⟩
    | n + 9, _, _ => trivial
  · refine ⟨fun u T w' hx _ _ => ?_, fun u T w' hx _ _ => ?_, fun u T w' hx _ hp => ?_, fun u T w' hx _ _ => ?_, fun u T w' hx _ hp => ?_, fun u T w' hx _ hp => ?_, fun u T w' hx _ _ => ?_, fun u T w' hx _ hp => ?_, fun u T w' hx _ _ => ?_, trivial⟩
    · exact rd_load ty37 hA (hx2.trans (hx3.trans (hx11.trans (hxx.trans hx)))) fun v h => ⟨Ext.refl _, h.ext (hx2.trans (hx3.trans (hx11.trans hxx)))⟩
    · exact rd_fld fd91_0 ⟨Ext.refl _, rfl⟩
    · have q0 : u 44 = _ := hp.1
      rw [q0]
      exact rd_loadV ty45 (at_DTrail_0 hv11.at) (hxx.trans hx) ⟨Ext.refl _, rfl⟩
    · exact ⟨Ext.refl _, rfl⟩
    · have q0 : u 45 = _ := hp.1
      have q1 : u 46 = _ := hp.2.1
      rw [q0, q1]
      refine rd_indexN u45 ty32 hst' hkz' fun b o h => ⟨Ext.refl _, b, o, rfl, ?_⟩
      rw [← stAt_get (f := z'.er) hkz']
      exact h.ext hxx
    · obtain ⟨b, o, q0, q1⟩ : ∃ b o, u 47 = .pointer (some ⟨b, o, none⟩) ∧ At w14 b o (stAt z'.er k) := hp.1
      rw [q0]
      exact rd_load ty32 q1 hx fun v h => ⟨Ext.refl _, h⟩
    · exact ⟨Ext.refl _, rfl⟩
    · have q0 : Is w14 (u 43) c := hp.1
      have q1 : Is w14 (u 48) (stAt z'.er k) := hp.2.1
      have q2 : u 49 = _ := hp.2.2.1
      rw [q2]
      have := stepped_ok q0 hx q1 hx hc (by rw [hsd']; exact hsr) (by rw [hsd']; exact hgo)
      exact this.mono fun r w5 ⟨hx5, ho⟩ => ⟨hx5, ho.toI⟩
    · exact op_alloc zlSt fun w5 hx5 hB => ⟨hx5, w'.heap.size, rfl, Nat.le_refl _, hB.lt, hB⟩
  rintro u10 T w15 hx15 hap ⟨-, -, -, -, -, -, -, o50, ⟨gg, q8, hgg0, hgg1, hB15⟩, -⟩
  have o50 : OwnI (T 7).1 (T 7).2 w15 (u10 50) (stepD c (stAt z'.er k) t) := o50
  rw [hsd'] at o50
  have t7 := hap.1 7 (by decide)
  have t8 := hap.1 8 (by decide)
  have d78 := hap.2 7 (by decide) 8 (by decide) (by decide)
  have hs15 := hx15.size
  have hsxx := hxx.size
  generalize u10 50 = v50 at *
  rw [q8]
  obtain ⟨ga, gb, gc, hge⟩ := agg3S o50
  subst hge
  refine opu_blkS ty32 rfl hB15 rfl o50 fun w16 hc16 hB16 => ?_
  have hs16 := hc16.size
  have hx16 : Ext w11 w16 := Ext.chgI (hxx.trans hx15) hc16 (by omega)
  have o16 := o50.chg hc16 (by omega)
  have hv16 := hv11.ext hx16
  refine rd_fld fd91_0 ?_
  refine rd_loadV ty45 (at_DTrail_0 hv16.at) (Ext.refl _) ?_
  have hst16 := at_rv (at_DTrail_0 hv16.at)
  refine rd_blkS hB16 ty32 ?_
  refine (implPlace_ok hst16 (Ext.refl _) o16.is (Ext.refl _)).mono ?_
  rintro _ w17 ⟨hx17, rfl⟩
  have hs17 := hx17.size
  refine rd_geq ?_
  refine br (fun hold => ?_) (fun hnew => ?_)
  · refine rd_inc (by omega) ?_
    refine ⟨mt - 1, by omega, t + 1, by omega, rfl, z', hi', hx11.trans (hx16.trans hx17), hv16.ext hx17, hgh', by omega, hok', hkz', hsd', ?_⟩
    rw [hrow, hq, rowGo_go (visit_old (f := z'.er) (by rw [hsd']; exact hgo) (by rw [hsd']; exact plcG_iff.1 hold))]
  have hno : stepD c (stAt z'.er k) t ∉ z'.er.states := fun h => hnew (by rw [hsd'] at h; exact plcG_iff.2 h)
  have hgo' : GoR c (stAt z'.er k) t := by rw [hsd']; exact hgo
  have hv17 := hv16.ext hx17
  refine rd_fld fd91_0 ?_
  refine rd_loadV ty45 (at_DTrail_0 hv17.at) (Ext.refl _) ?_
  have hst17 := at_rv (at_DTrail_0 hv17.at)
  refine rd_len u45 hst17 ?_
  refine rd_eql ?_
  refine br (fun hfull => ?_) (fun hroom => ?_)
  · have hfull' : z'.er.states.length = M := by show z'.states.l.length = M; omega
    refine rd_fld fd91_3 ?_
    obtain ⟨F, hO, hF⟩ := hv17
    obtain ⟨G, hL⟩ := lens_DTrail_3 (Lens.var hO)
    refine opu_varM ty4 hL (lo := w3.heap.size) (hi := w17.heap.size) (fun b hb => by have := hF b hb; omega) (by omega) mine_bool fun w18 hc18 hv18 => ?_
    have hs18 := hc18.size
    refine fin _ w18 w17.heap.size (Ext.chgI (hx11.trans (hx16.trans hx17)) hc18 (Nat.le_refl _)) hv18 (by omega) hok'.not ?_
    have hvis := visit_full (M := M) hgo' hno hfull'
    rw [← hlook, show M - k = (M - (k + 1)) + 1 by omega, lookGo_stop (f := z.er) hkz (by rw [hsd, hrow, hq, rowGo_stop (by rw [hvis]), hvis])]
    rfl
  have hroom' : ¬ z'.er.states.length = M := by show ¬ z'.states.l.length = M; omega
  have hle' : z'.states.l.length ≤ M := hok'.many.2
  have hla' : z'.ahead.l.length = z'.states.l.length := hok'.la
  have hlw' : z'.went.l.length = z'.states.l.length := hok'.lw
  have hB17 := hB16.ext hx17
  refine rd_fld fd91_0 ?_
  refine rd_loadV ty45 (at_DTrail_0 hv17.at) (Ext.refl _) ?_
  refine rd_blkS hB17 ty32 ?_
  refine op_pushF (β := DState) u45 ty32 z32 zc32 (by decide) ty45 hv11 ⟨by omega, hgh'⟩ (hx16.trans hx17) (fun hO => lens_DTrail_0 (Lens.var hO)) (o16.ext hx17) (by omega) (by omega) (by have := hx11.size; omega) (by rw [maxLen_eq]; omega) (by omega) (fun v67 w18 hc18 hv18 => ?_) fun a w1' hxa hop => hop.mono fun r w2' hr => rd_fld fd91_0 hr.2
  have hs18 := hc18.size
  refine rd_fld fd91_1 ?_
  refine rd_loadV ty23 (at_DTrail_1 hv18.at) (Ext.refl _) ?_
  refine op_pushF (β := Int) (lo2 := w18.heap.size) (hi2 := w18.heap.size) u23 ty3 z3 zc3 (by decide) ty23 hv18 ⟨by omega, by omega⟩ (Ext.refl _) (fun hO => lens_DTrail_1 (Lens.var hO)) (ownI_int (x := (k : Int)) (by unfold I64; omega)) (by omega) (by omega) (by have := hx11.size; omega) (by rw [maxLen_eq]; show z'.ahead.l.length + 1 ≤ _; omega) (by show (z'.ahead.l.length + 1) * _ ≤ _; omega) (fun v73 w19 hc19 hv19 => ?_) fun a w1' hxa hop => hop.mono fun r w2' hr => rd_fld fd91_1 hr.2
  have hs19 := hc19.size
  refine rd_fld fd91_2 ?_
  refine rd_loadV ty23 (at_DTrail_2 hv19.at) (Ext.refl _) ?_
  refine op_pushF (β := Int) (lo2 := w19.heap.size) (hi2 := w19.heap.size) u23 ty3 z3 zc3 (by decide) ty23 hv19 ⟨by omega, by omega⟩ (Ext.refl _) (fun hO => lens_DTrail_2 (Lens.var hO)) (ownI_int (x := (t : Int)) (by unfold I64; omega)) (by omega) (by omega) (by have := hx11.size; omega) (by rw [maxLen_eq]; show z'.went.l.length + 1 ≤ _; omega) (by show (z'.went.l.length + 1) * _ ≤ _; omega) (fun v79 w20 hc20 hv20 => ?_) fun a w1' hxa hop => hop.mono fun r w2' hr => rd_fld fd91_2 hr.2
  have hs20 := hc20.size
  refine rd_inc (by omega) ?_
  have hpush := hok'.push hc hkz' hgo' (by omega) hroom'
  have hvis := visit_new (M := M) hgo' hno hroom'
  rw [hsd'] at hpush hvis
  refine ⟨mt - 1, by omega, t + 1, by omega, rfl, _, w20.heap.size, Ext.chgI (Ext.chgI (Ext.chgI hx11 hc18 (Nat.le_refl _)) hc19 (Nat.le_refl _)) hc20 (Nat.le_refl _), hv20, by omega, Nat.le_refl _, hpush, by show k < (z'.states.l ++ [_]).length; simp; omega, ?_, ?_⟩
  · exact (stAt_push (f := z'.er) hkz').trans hsd'
  · rw [hrow, hq, rowGo_go hvis]; rfl
end Go.Proofs.YteephmhilnlkpaaGreat
