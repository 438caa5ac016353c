/-
  The program's structs as Lean data.
-/
import Derived.Test.YteephmhilnlkpaaGreatLens
import Derived.Laws.StructEq
namespace Go.Sh
set_option linter.unusedVariables false
set_option linter.unusedSimpArgs false
open Rep (rep)

section
variable {w : World} {b o : Nat}
theorem mine_prod {α β : Type} [Rep α] [Rep β] {F G : List Nat} {c1 c2 : List Value} {x : α} {y : β} (h1 : rep F w c1 x) (h2 : rep G w c2 y) : rep (F ++ G) w (c1 ++ c2) (x, y) := ⟨F, G, c1, c2, rfl, rfl, h1, h2⟩
theorem mine_cell {α : Type} [Rep α] (ha : Rep.agg α = false) {F : List Nat} {v : Value} {x : α} (h : OwnF F w v x) : rep F w [v] x := by
  obtain ⟨cs, hr, rfl⟩ := h
  have hl := Rep.len hr
  rw [Rep.sz ha] at hl
  obtain ⟨c, rfl⟩ := List.length_eq_one_iff.1 hl
  simpa [mkv, ha] using hr
end
structure DRace where
  g : Int
  a : Int
  b : Int
theorem DRace.ext_iff {x y : DRace} : x = y ↔ (x.g = y.g ∧ x.a = y.a ∧ x.b = y.b) := ⟨fun h => by rw [h]; exact ⟨rfl, rfl, rfl⟩, fun h => by obtain ⟨h0, h1, h2⟩ := h; cases x; cases y; simp only at h0 h1 h2; simp only [h0, h1, h2]⟩
instance : DecidableEq DRace := fun x y => decidable_of_iff (x.g = y.g ∧ x.a = y.a ∧ x.b = y.b) DRace.ext_iff.symm
instance : Rep DRace := Rep.via fun x => (x.g, x.a, x.b)
theorem at_DRace_0 {w : World} {b o : Nat} {x : DRace} (h : At w b o x) : At w b (o + 0) x.g := at_fst (α := Int) (β := Int × Int) (p := (x.g, x.a, x.b)) h
theorem at_DRace_1 {w : World} {b o : Nat} {x : DRace} (h : At w b o x) : At w b (o + 1) x.a := at_fst (α := Int) (β := Int) (p := (x.a, x.b)) (at_snd (α := Int) (β := Int × Int) (p := (x.g, x.a, x.b)) h)
theorem at_DRace_2 {w : World} {b o : Nat} {x : DRace} (h : At w b o x) : At w b (o + 2) x.b := at_snd (α := Int) (β := Int) (p := (x.a, x.b)) (at_snd (α := Int) (β := Int × Int) (p := (x.g, x.a, x.b)) h)
theorem rep_DRace {w : World} {x : DRace} {F0 : List Nat} {c0 : List Value} (h0 : rep F0 w c0 x.g) {F1 : List Nat} {c1 : List Value} (h1 : rep F1 w c1 x.a) {F2 : List Nat} {c2 : List Value} (h2 : rep F2 w c2 x.b) : rep (F0 ++ (F1 ++ F2)) w (c0 ++ (c1 ++ c2)) x := mine_prod h0 (mine_prod h1 (h2))
instance : RepZ DRace := ⟨⟨(RepZ.zv : Int), (RepZ.zv : Int), (RepZ.zv : Int)⟩, RepZ.zc (Int × Int × Int), fun w => RepZ.zr (α := Int × Int × Int) w⟩
theorem lens_DRace_0 {γ : Type} {H : List Nat → World → γ → Prop} {F : List Nat} {w : World} {b o : Nat} {G : List Nat} {x : DRace} {upd : DRace → γ} (h : Lens H F w b o G x upd) :
    ∃ G1, Lens H F w b (o + 0) G1 x.g (fun y => upd ⟨y, x.a, x.b⟩) := by
  have h' : Lens H F w b o G (x.g, x.a, x.b) (fun p : Int × Int × Int => upd ⟨p.1, p.2.1, p.2.2⟩) := ⟨h.here, h.sub, fun w' G' y' hc hO hs => h.back w' G' _ hc hO hs⟩
  obtain ⟨G0, h'⟩ := h'.fst
  exact ⟨_, h'⟩
theorem lens_DRace_1 {γ : Type} {H : List Nat → World → γ → Prop} {F : List Nat} {w : World} {b o : Nat} {G : List Nat} {x : DRace} {upd : DRace → γ} (h : Lens H F w b o G x upd) :
    ∃ G1, Lens H F w b (o + 1) G1 x.a (fun y => upd ⟨x.g, y, x.b⟩) := by
  have h' : Lens H F w b o G (x.g, x.a, x.b) (fun p : Int × Int × Int => upd ⟨p.1, p.2.1, p.2.2⟩) := ⟨h.here, h.sub, fun w' G' y' hc hO hs => h.back w' G' _ hc hO hs⟩
  obtain ⟨G0, h'⟩ := h'.snd
  obtain ⟨G1, h'⟩ := h'.fst
  exact ⟨_, h'⟩
theorem lens_DRace_2 {γ : Type} {H : List Nat → World → γ → Prop} {F : List Nat} {w : World} {b o : Nat} {G : List Nat} {x : DRace} {upd : DRace → γ} (h : Lens H F w b o G x upd) :
    ∃ G1, Lens H F w b (o + 2) G1 x.b (fun y => upd ⟨x.g, x.a, y⟩) := by
  have h' : Lens H F w b o G (x.g, x.a, x.b) (fun p : Int × Int × Int => upd ⟨p.1, p.2.1, p.2.2⟩) := ⟨h.here, h.sub, fun w' G' y' hc hO hs => h.back w' G' _ hc hO hs⟩
  obtain ⟨G0, h'⟩ := h'.snd
  obtain ⟨G1, h'⟩ := h'.snd
  exact ⟨_, h'⟩
theorem mk_DRace {w : World} {x : DRace} (h_g : I64 x.g) (h_a : I64 x.a) (h_b : I64 x.b) : Mine [] w (.agg #[.int .i64 x.g, .int .i64 x.a, .int .i64 x.b]) x := ⟨⟨[.int .i64 x.g, .int .i64 x.a, .int .i64 x.b], ⟨[], [], [.int .i64 x.g], [.int .i64 x.a, .int .i64 x.b], rfl, rfl, ⟨rfl, rfl, h_g⟩, ⟨[], [], [.int .i64 x.a], [.int .i64 x.b], rfl, rfl, ⟨rfl, rfl, h_a⟩, ⟨rfl, rfl, h_b⟩⟩⟩, rfl⟩, List.nodup_nil, Wr.nil w⟩
theorem un_DRace {w : World} {v : Value} {x : DRace} (h : Is w v x) : v = .agg #[.int .i64 x.g, .int .i64 x.a, .int .i64 x.b] ∧ I64 x.g ∧ I64 x.a ∧ I64 x.b := by
  obtain ⟨F, cs, ⟨_, _, _, _, rfl, rfl, ⟨rfl, rfl, h0⟩, ⟨_, _, _, _, rfl, rfl, ⟨rfl, rfl, h1⟩, ⟨rfl, rfl, h2⟩⟩⟩, rfl⟩ := h
  exact ⟨rfl, h0, h1, h2⟩
instance : Flat DRace := ⟨fun h => Flat.flat (α := Int × Int × Int) h⟩
theorem inv_DRace {w : World} {F : List Nat} {cs : List Value} {x : DRace} (h : rep F w cs x) : ∃ F0 c0 F1 c1 F2 c2, F = (F0 ++ (F1 ++ F2)) ∧ cs = (c0 ++ (c1 ++ c2)) ∧ rep F0 w c0 x.g ∧ rep F1 w c1 x.a ∧ rep F2 w c2 x.b := by
  obtain ⟨F0, G0, c0, d0, rfl, rfl, h0, h⟩ := h
  obtain ⟨F1, G1, c1, d1, rfl, rfl, h1, h⟩ := h
  exact ⟨_, _, _, _, _, _, rfl, rfl, h0, h1, h⟩

structure DState where
  vars : List Int
  owner : List Int
  stacks : List (List Int)
theorem DState.ext_iff {x y : DState} : x = y ↔ (x.vars = y.vars ∧ x.owner = y.owner ∧ x.stacks = y.stacks) := ⟨fun h => by rw [h]; exact ⟨rfl, rfl, rfl⟩, fun h => by obtain ⟨h0, h1, h2⟩ := h; cases x; cases y; simp only at h0 h1 h2; simp only [h0, h1, h2]⟩
instance : DecidableEq DState := fun x y => decidable_of_iff (x.vars = y.vars ∧ x.owner = y.owner ∧ x.stacks = y.stacks) DState.ext_iff.symm
instance : Rep DState := Rep.via fun x => (x.vars, x.owner, x.stacks)
theorem at_DState_0 {w : World} {b o : Nat} {x : DState} (h : At w b o x) : At w b (o + 0) x.vars := at_fst (α := List Int) (β := (List Int) × (List (List Int))) (p := (x.vars, x.owner, x.stacks)) h
theorem at_DState_1 {w : World} {b o : Nat} {x : DState} (h : At w b o x) : At w b (o + 1) x.owner := at_fst (α := List Int) (β := (List (List Int))) (p := (x.owner, x.stacks)) (at_snd (α := List Int) (β := (List Int) × (List (List Int))) (p := (x.vars, x.owner, x.stacks)) h)
theorem at_DState_2 {w : World} {b o : Nat} {x : DState} (h : At w b o x) : At w b (o + 2) x.stacks := at_snd (α := List Int) (β := (List (List Int))) (p := (x.owner, x.stacks)) (at_snd (α := List Int) (β := (List Int) × (List (List Int))) (p := (x.vars, x.owner, x.stacks)) h)
theorem rep_DState {w : World} {x : DState} {F0 : List Nat} {c0 : List Value} (h0 : rep F0 w c0 x.vars) {F1 : List Nat} {c1 : List Value} (h1 : rep F1 w c1 x.owner) {F2 : List Nat} {c2 : List Value} (h2 : rep F2 w c2 x.stacks) : rep (F0 ++ (F1 ++ F2)) w (c0 ++ (c1 ++ c2)) x := mine_prod h0 (mine_prod h1 (h2))
instance : RepZ DState := ⟨⟨(RepZ.zv : List Int), (RepZ.zv : List Int), (RepZ.zv : List (List Int))⟩, RepZ.zc ((List Int) × (List Int) × (List (List Int))), fun w => RepZ.zr (α := (List Int) × (List Int) × (List (List Int))) w⟩
theorem lens_DState_0 {γ : Type} {H : List Nat → World → γ → Prop} {F : List Nat} {w : World} {b o : Nat} {G : List Nat} {x : DState} {upd : DState → γ} (h : Lens H F w b o G x upd) :
    ∃ G1, Lens H F w b (o + 0) G1 x.vars (fun y => upd ⟨y, x.owner, x.stacks⟩) := by
  have h' : Lens H F w b o G (x.vars, x.owner, x.stacks) (fun p : (List Int) × (List Int) × (List (List Int)) => upd ⟨p.1, p.2.1, p.2.2⟩) := ⟨h.here, h.sub, fun w' G' y' hc hO hs => h.back w' G' _ hc hO hs⟩
  obtain ⟨G0, h'⟩ := h'.fst
  exact ⟨_, h'⟩
theorem lens_DState_1 {γ : Type} {H : List Nat → World → γ → Prop} {F : List Nat} {w : World} {b o : Nat} {G : List Nat} {x : DState} {upd : DState → γ} (h : Lens H F w b o G x upd) :
    ∃ G1, Lens H F w b (o + 1) G1 x.owner (fun y => upd ⟨x.vars, y, x.stacks⟩) := by
  have h' : Lens H F w b o G (x.vars, x.owner, x.stacks) (fun p : (List Int) × (List Int) × (List (List Int)) => upd ⟨p.1, p.2.1, p.2.2⟩) := ⟨h.here, h.sub, fun w' G' y' hc hO hs => h.back w' G' _ hc hO hs⟩
  obtain ⟨G0, h'⟩ := h'.snd
  obtain ⟨G1, h'⟩ := h'.fst
  exact ⟨_, h'⟩
theorem lens_DState_2 {γ : Type} {H : List Nat → World → γ → Prop} {F : List Nat} {w : World} {b o : Nat} {G : List Nat} {x : DState} {upd : DState → γ} (h : Lens H F w b o G x upd) :
    ∃ G1, Lens H F w b (o + 2) G1 x.stacks (fun y => upd ⟨x.vars, x.owner, y⟩) := by
  have h' : Lens H F w b o G (x.vars, x.owner, x.stacks) (fun p : (List Int) × (List Int) × (List (List Int)) => upd ⟨p.1, p.2.1, p.2.2⟩) := ⟨h.here, h.sub, fun w' G' y' hc hO hs => h.back w' G' _ hc hO hs⟩
  obtain ⟨G0, h'⟩ := h'.snd
  obtain ⟨G1, h'⟩ := h'.snd
  exact ⟨_, h'⟩
theorem inv_DState {w : World} {F : List Nat} {cs : List Value} {x : DState} (h : rep F w cs x) : ∃ F0 c0 F1 c1 F2 c2, F = (F0 ++ (F1 ++ F2)) ∧ cs = (c0 ++ (c1 ++ c2)) ∧ rep F0 w c0 x.vars ∧ rep F1 w c1 x.owner ∧ rep F2 w c2 x.stacks := by
  obtain ⟨F0, G0, c0, d0, rfl, rfl, h0, h⟩ := h
  obtain ⟨F1, G1, c1, d1, rfl, rfl, h1, h⟩ := h
  exact ⟨_, _, _, _, _, _, rfl, rfl, h0, h1, h⟩

section
variable {w : World} {b o : Nat}
theorem is_race {v : Value} {x : DRace} : Is w v x ↔ v = .agg #[.int .i64 x.g, .int .i64 x.a, .int .i64 x.b] ∧ I64 x.g ∧ I64 x.a ∧ I64 x.b := by
  constructor
  · rintro ⟨F, cs, ⟨F1, F2, c1, c2, rfl, rfl, ⟨rfl, rfl, h1⟩, ⟨F3, F4, c3, c4, rfl, rfl, ⟨rfl, rfl, h2⟩, ⟨rfl, rfl, h3⟩⟩⟩, rfl⟩
    exact ⟨rfl, h1, h2, h3⟩
  · rintro ⟨rfl, h1, h2, h3⟩
    exact ⟨[], [.int .i64 x.g, .int .i64 x.a, .int .i64 x.b], ⟨[], [], [.int .i64 x.g], [.int .i64 x.a, .int .i64 x.b], rfl, rfl, ⟨rfl, rfl, h1⟩, [], [], [.int .i64 x.a], [.int .i64 x.b], rfl, rfl, ⟨rfl, rfl, h2⟩, ⟨rfl, rfl, h3⟩⟩, rfl⟩
theorem mine_race {x : DRace} (h1 : I64 x.g) (h2 : I64 x.a) (h3 : I64 x.b) : Mine [] w (.agg #[.int .i64 x.g, .int .i64 x.a, .int .i64 x.b]) x :=
  ⟨⟨[.int .i64 x.g, .int .i64 x.a, .int .i64 x.b], ⟨[], [], [.int .i64 x.g], [.int .i64 x.a, .int .i64 x.b], rfl, rfl, ⟨rfl, rfl, h1⟩, [], [], [.int .i64 x.a], [.int .i64 x.b], rfl, rfl, ⟨rfl, rfl, h2⟩, ⟨rfl, rfl, h3⟩⟩, rfl⟩, List.nodup_nil, Wr.nil w⟩
theorem mine_state {F G H : List Nat} {a b c : Value} {s : DState} (h1 : Mine F w a s.vars) (h2 : Mine G w b s.owner) (h3 : Mine H w c s.stacks) (hn : (F ++ (G ++ H)).Nodup) : Mine (F ++ (G ++ H)) w (.agg #[a, b, c]) s :=
  ⟨⟨[a, b, c], mine_prod (mine_cell rfl h1.own) (mine_prod (mine_cell rfl h2.own) (mine_cell rfl h3.own)), rfl⟩, hn, h1.wr.append (h2.wr.append h3.wr)⟩
end
end Go.Sh
