/-
  The program's structs as Lean data.
-/
import Derived.Test.YthieonacgnppiaaMem
import Derived.Laws.StructEq
namespace Go.Sh
set_option linter.unusedVariables false
set_option linter.unusedSimpArgs false
open Rep (rep)

structure DRace where
  g : Int
  a : Int
  b : Int
instance : DecidableEq DRace := fun x y => decidable_of_iff (x.g = y.g ∧ x.a = y.a ∧ x.b = y.b) ⟨fun ⟨h1, h2, h3⟩ => by cases x; cases y; simp only at h1 h2 h3; rw [h1, h2, h3], fun h => by rw [h]; exact ⟨rfl, rfl, rfl⟩⟩
instance : Rep DRace := Rep.via fun r => (r.g, r.a, r.b)
structure DState where
  vars : List Int
  owner : List Int
  stacks : List (List Int)
instance : DecidableEq DState := fun x y => decidable_of_iff (x.vars = y.vars ∧ x.owner = y.owner ∧ x.stacks = y.stacks) ⟨fun ⟨h1, h2, h3⟩ => by cases x; cases y; simp only at h1 h2 h3; rw [h1, h2, h3], fun h => by rw [h]; exact ⟨rfl, rfl, rfl⟩⟩
instance : Rep DState := Rep.via fun s => (s.vars, s.owner, s.stacks)

section
variable {w : World} {b o : Nat}
theorem at_DRace_0 {x : DRace} (h : At w b o x) : At w b (o + 0) x.g := at_fst (α := Int) (β := Int × Int) (p := (x.g, x.a, x.b)) h
theorem at_DRace_1 {x : DRace} (h : At w b o x) : At w b (o + 1) x.a := at_fst (α := Int) (β := Int) (p := (x.a, x.b)) (at_snd (α := Int) (β := Int × Int) (p := (x.g, x.a, x.b)) h)
theorem at_DRace_2 {x : DRace} (h : At w b o x) : At w b (o + 2) x.b := at_snd (α := Int) (β := Int) (p := (x.a, x.b)) (at_snd (α := Int) (β := Int × Int) (p := (x.g, x.a, x.b)) h)
theorem at_DState_0 {x : DState} (h : At w b o x) : At w b (o + 0) x.vars := at_fst (α := List Int) (β := List Int × List (List Int)) (p := (x.vars, x.owner, x.stacks)) h
theorem at_DState_1 {x : DState} (h : At w b o x) : At w b (o + 1) x.owner := at_fst (α := List Int) (β := List (List Int)) (p := (x.owner, x.stacks)) (at_snd (α := List Int) (β := List Int × List (List Int)) (p := (x.vars, x.owner, x.stacks)) h)
theorem at_DState_2 {x : DState} (h : At w b o x) : At w b (o + 2) x.stacks := at_snd (α := List Int) (β := List (List Int)) (p := (x.owner, x.stacks)) (at_snd (α := List Int) (β := List Int × List (List Int)) (p := (x.vars, x.owner, x.stacks)) h)
theorem is_race {v : Value} {x : DRace} : Is w v x ↔ v = .agg #[.int .i64 x.g, .int .i64 x.a, .int .i64 x.b] ∧ I64 x.g ∧ I64 x.a ∧ I64 x.b := by
  constructor
  · rintro ⟨F, cs, ⟨F1, F2, c1, c2, rfl, rfl, ⟨rfl, rfl, h1⟩, ⟨F3, F4, c3, c4, rfl, rfl, ⟨rfl, rfl, h2⟩, ⟨rfl, rfl, h3⟩⟩⟩, rfl⟩
    exact ⟨rfl, h1, h2, h3⟩
  · rintro ⟨rfl, h1, h2, h3⟩
    exact ⟨[], [.int .i64 x.g, .int .i64 x.a, .int .i64 x.b], ⟨[], [], [.int .i64 x.g], [.int .i64 x.a, .int .i64 x.b], rfl, rfl, ⟨rfl, rfl, h1⟩, [], [], [.int .i64 x.a], [.int .i64 x.b], rfl, rfl, ⟨rfl, rfl, h2⟩, ⟨rfl, rfl, h3⟩⟩, rfl⟩
theorem mine_race {x : DRace} (h1 : I64 x.g) (h2 : I64 x.a) (h3 : I64 x.b) : Mine [] w (.agg #[.int .i64 x.g, .int .i64 x.a, .int .i64 x.b]) x :=
  ⟨⟨[.int .i64 x.g, .int .i64 x.a, .int .i64 x.b], ⟨[], [], [.int .i64 x.g], [.int .i64 x.a, .int .i64 x.b], rfl, rfl, ⟨rfl, rfl, h1⟩, [], [], [.int .i64 x.a], [.int .i64 x.b], rfl, rfl, ⟨rfl, rfl, h2⟩, ⟨rfl, rfl, h3⟩⟩, rfl⟩, List.nodup_nil, Wr.nil w⟩
theorem mine_prod {α β : Type} [Rep α] [Rep β] {F G : List Nat} {c1 c2 : List Value} {x : α} {y : β} (h1 : rep F w c1 x) (h2 : rep G w c2 y) : rep (F ++ G) w (c1 ++ c2) (x, y) := ⟨F, G, c1, c2, rfl, rfl, h1, h2⟩
theorem mine_cell {α : Type} [Rep α] (ha : Rep.agg α = false) {F : List Nat} {v : Value} {x : α} (h : OwnF F w v x) : rep F w [v] x := by
  obtain ⟨cs, hr, rfl⟩ := h
  have hl := Rep.len hr
  rw [Rep.sz ha] at hl
  obtain ⟨c, rfl⟩ := List.length_eq_one_iff.1 hl
  simpa [mkv, ha] using hr
theorem mine_state {F G H : List Nat} {a b c : Value} {s : DState} (h1 : Mine F w a s.vars) (h2 : Mine G w b s.owner) (h3 : Mine H w c s.stacks) (hn : (F ++ (G ++ H)).Nodup) : Mine (F ++ (G ++ H)) w (.agg #[a, b, c]) s :=
  ⟨⟨[a, b, c], mine_prod (mine_cell rfl h1.own) (mine_prod (mine_cell rfl h2.own) (mine_cell rfl h3.own)), rfl⟩, hn, h1.wr.append (h2.wr.append h3.wr)⟩
end
end Go.Sh
