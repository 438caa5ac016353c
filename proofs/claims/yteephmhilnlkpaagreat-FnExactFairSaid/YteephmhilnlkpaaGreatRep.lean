/-
  How Lean data lie in a world's cells; what each operation of the reading does to them.
-/
import Derived.Test.YteephmhilnlkpaaGreatBody
import Derived.Deep.MidRow
import Derived.Laws.OwnMore
import Derived.Laws.Slices
import Derived.Laws.Entries
import Derived.Laws.Strings
namespace Go.Sh
set_option linter.unusedVariables false
set_option linter.unusedSimpArgs false
open Go.RowKit (Below)

def I64 (x : Int) : Prop := -9223372036854775808 ≤ x ∧ x ≤ 9223372036854775807
theorem maxLen_eq : maxLen = 9223372036854775807 := rfl

/-- how a datum lies in cells: F are the blocks that it reaches -/
class Rep (α : Type) where
  size : Nat
  agg : Bool
  rep : List Nat → World → List Value → α → Prop
  pos : 0 < size
  sz : agg = false → size = 1
  len : ∀ {F w cs x}, rep F w cs x → cs.length = size
  one : ∀ {F w cs x}, rep F w cs x → ∀ v ∈ cs, v.oneCell' = true
  keep : ∀ {F w w' cs x}, rep F w cs x → (∀ b ∈ F, w'.heap[b]? = w.heap[b]?) → rep F w' cs x
  lt : ∀ {F w cs x}, rep F w cs x → ∀ b ∈ F, b < w.heap.size
open Rep (rep)

def mkv (α : Type) [Rep α] (cs : List Value) : Value := bif Rep.agg α then .agg cs.toArray else cs.headD undef
section
variable {α β : Type} [Rep α] [Rep β]
/-- the value v reads as x -/
def Is (w : World) (v : Value) (x : α) : Prop := ∃ F cs, rep F w cs x ∧ v = mkv α cs
/-- at offset o of block b lies x -/
def At (w : World) (b o : Nat) (x : α) : Prop := ∃ F cs, rep F w cs x ∧ w.rangeAt b o cs
/-- v reads as x, by these blocks -/
def OwnF (F : List Nat) (w : World) (v : Value) (x : α) : Prop := ∃ cs, rep F w cs x ∧ v = mkv α cs
/-- these blocks may be written -/
def Wr (F : List Nat) (w : World) : Prop := ∀ b ∈ F, ∃ c e, w.heap[b]? = some (.cells c e (0, 0))
/-- v reads as x, by these blocks, no two of them the same; they may be written -/
structure Mine (F : List Nat) (w : World) (v : Value) (x : α) : Prop where
  own : OwnF F w v x
  nodup : F.Nodup
  wr : Wr F w
/-- the same, by blocks from lo on -/
def Own (lo : Nat) (w : World) (v : Value) (x : α) : Prop := ∃ F, Mine F w v x ∧ ∀ b ∈ F, lo ≤ b

theorem Ext.heap {w w' : World} (h : Ext w w') {b : Nat} (hb : b < w.heap.size) : w'.heap[b]? = w.heap[b]? := h.block b hb
theorem rep_ext {F : List Nat} {w w' : World} {cs : List Value} {x : α} (h : rep F w cs x) (hx : Ext w w') : rep F w' cs x :=
  Rep.keep h fun b hb => hx.heap (Rep.lt h b hb)
theorem rangeAt_lt {w : World} {b o : Nat} {cs : List Value} (h : w.rangeAt b o cs) (hc : 0 < cs.length) : b < w.heap.size := by
  have := h 0 cs[0] (by simp [hc])
  exact World.block_lt_of_cell? w _ this
theorem rangeAt_keep {w w' : World} {b o : Nat} {cs : List Value} (h : w.rangeAt b o cs) (hb : w'.heap[b]? = w.heap[b]?) : w'.rangeAt b o cs :=
  fun j v hv => by rw [World.cell?_of_block (w := w) hb]; exact h j v hv
theorem rangeAt_ext {w w' : World} {b o : Nat} {cs : List Value} (h : w.rangeAt b o cs) (hx : Ext w w') : w'.rangeAt b o cs := by
  intro j v hv
  have hb := World.block_lt_of_cell? w _ (h j v hv)
  rw [World.cell?_of_block (w := w) (hx.heap hb)]; exact h j v hv
theorem Is.ext {w w' : World} {v : Value} {x : α} (h : Is w v x) (hx : Ext w w') : Is w' v x := by
  obtain ⟨F, cs, hr, hv⟩ := h; exact ⟨F, cs, rep_ext hr hx, hv⟩
theorem At.ext {w w' : World} {b o : Nat} {x : α} (h : At w b o x) (hx : Ext w w') : At w' b o x := by
  obtain ⟨F, cs, hr, hv⟩ := h; exact ⟨F, cs, rep_ext hr hx, rangeAt_ext hv hx⟩
theorem OwnF.ext {F : List Nat} {w w' : World} {v : Value} {x : α} (h : OwnF F w v x) (hx : Ext w w') : OwnF F w' v x := by
  obtain ⟨cs, hr, hv⟩ := h; exact ⟨cs, rep_ext hr hx, hv⟩
theorem OwnF.keep {F : List Nat} {w w' : World} {v : Value} {x : α} (h : OwnF F w v x) (hx : ∀ b ∈ F, w'.heap[b]? = w.heap[b]?) : OwnF F w' v x := by
  obtain ⟨cs, hr, hv⟩ := h; exact ⟨cs, Rep.keep hr hx, hv⟩
theorem OwnF.is {F : List Nat} {w : World} {v : Value} {x : α} (h : OwnF F w v x) : Is w v x := by
  obtain ⟨cs, hr, hv⟩ := h; exact ⟨F, cs, hr, hv⟩
theorem OwnF.lt {F : List Nat} {w : World} {v : Value} {x : α} (h : OwnF F w v x) : ∀ b ∈ F, b < w.heap.size := by
  obtain ⟨cs, hr, hv⟩ := h; exact Rep.lt hr
theorem Wr.keep {F : List Nat} {w w' : World} (h : Wr F w) (hk : ∀ b ∈ F, w'.heap[b]? = w.heap[b]?) : Wr F w' := fun b hb => by
  obtain ⟨c, e, he⟩ := h b hb; exact ⟨c, e, by rw [hk b hb]; exact he⟩
theorem Wr.lt {F : List Nat} {w : World} (h : Wr F w) : ∀ b ∈ F, b < w.heap.size := fun b hb => by
  obtain ⟨c, e, he⟩ := h b hb; exact (Array.getElem?_eq_some_iff.1 he).1
theorem Wr.ext {F : List Nat} {w w' : World} (h : Wr F w) (hx : Ext w w') : Wr F w' := h.keep fun b hb => hx.heap (h.lt b hb)
theorem Wr.nil (w : World) : Wr [] w := fun b hb => by cases hb
theorem Wr.append {F G : List Nat} {w : World} (h : Wr F w) (k : Wr G w) : Wr (F ++ G) w := fun b hb => by
  rcases List.mem_append.1 hb with hb | hb
  · exact h b hb
  · exact k b hb
theorem Wr.sub {F G : List Nat} {w : World} (h : Wr F w) (hs : ∀ b ∈ G, b ∈ F) : Wr G w := fun b hb => h b (hs b hb)
theorem Mine.keep {F : List Nat} {w w' : World} {v : Value} {x : α} (h : Mine F w v x) (hk : ∀ b ∈ F, w'.heap[b]? = w.heap[b]?) : Mine F w' v x := ⟨h.own.keep hk, h.nodup, h.wr.keep hk⟩
theorem Mine.ext {F : List Nat} {w w' : World} {v : Value} {x : α} (h : Mine F w v x) (hx : Ext w w') : Mine F w' v x := ⟨h.own.ext hx, h.nodup, h.wr.ext hx⟩
theorem Mine.is {F : List Nat} {w : World} {v : Value} {x : α} (h : Mine F w v x) : Is w v x := h.own.is
theorem Mine.lt {F : List Nat} {w : World} {v : Value} {x : α} (h : Mine F w v x) : ∀ b ∈ F, b < w.heap.size := h.own.lt
theorem Own.ext {lo : Nat} {w w' : World} {v : Value} {x : α} (h : Own lo w v x) (hx : Ext w w') : Own lo w' v x := by
  obtain ⟨F, hm, hl⟩ := h; exact ⟨F, hm.ext hx, hl⟩
theorem Own.is {lo : Nat} {w : World} {v : Value} {x : α} (h : Own lo w v x) : Is w v x := by
  obtain ⟨F, hm, hl⟩ := h; exact hm.is
theorem Own.mono {lo lo' : Nat} {w : World} {v : Value} {x : α} (h : Own lo w v x) (hl : lo' ≤ lo) : Own lo' w v x := by
  obtain ⟨F, hm, hb⟩ := h; exact ⟨F, hm, fun b hb' => Nat.le_trans hl (hb b hb')⟩
end

instance : Rep Int where
  size := 1
  agg := false
  rep F _ cs x := F = [] ∧ cs = [.int .i64 x] ∧ I64 x
  pos := by decide
  sz _ := rfl
  len := by rintro _ _ _ _ ⟨_, rfl, _⟩; rfl
  one := by rintro _ _ _ _ ⟨_, rfl, _⟩ v hv; simp at hv; subst hv; rfl
  keep := by rintro _ _ _ _ _ h _; exact h
  lt := by rintro _ _ _ _ ⟨rfl, _⟩ b hb; cases hb
instance : Rep Bool where
  size := 1
  agg := false
  rep F _ cs x := F = [] ∧ cs = [.bool x]
  pos := by decide
  sz _ := rfl
  len := by rintro _ _ _ _ ⟨_, rfl⟩; rfl
  one := by rintro _ _ _ _ ⟨_, rfl⟩ v hv; simp at hv; subst hv; rfl
  keep := by rintro _ _ _ _ _ h _; exact h
  lt := by rintro _ _ _ _ ⟨rfl, _⟩ b hb; cases hb
instance : Rep ByteArray where
  size := 1
  agg := false
  rep F _ cs x := F = [] ∧ cs = [.string x] ∧ x.size ≤ maxLen
  pos := by decide
  sz _ := rfl
  len := by rintro _ _ _ _ ⟨_, rfl, _⟩; rfl
  one := by rintro _ _ _ _ ⟨_, rfl, _⟩ v hv; simp at hv; subst hv; rfl
  keep := by rintro _ _ _ _ _ h _; exact h
  lt := by rintro _ _ _ _ ⟨rfl, _⟩ b hb; cases hb
instance {α β : Type} [Rep α] [Rep β] : Rep (α × β) where
  size := Rep.size α + Rep.size β
  agg := true
  rep F w cs x := ∃ F1 F2 c1 c2, F = F1 ++ F2 ∧ cs = c1 ++ c2 ∧ rep F1 w c1 x.1 ∧ rep F2 w c2 x.2
  pos := by have := Rep.pos (α := α); omega
  sz h := by cases h
  len := by rintro _ _ _ _ ⟨F1, F2, c1, c2, rfl, rfl, h1, h2⟩; rw [List.length_append, Rep.len h1, Rep.len h2]
  one := by
    rintro _ _ _ _ ⟨F1, F2, c1, c2, rfl, rfl, h1, h2⟩ v hv
    rcases List.mem_append.1 hv with hv | hv
    · exact Rep.one h1 v hv
    · exact Rep.one h2 v hv
  keep := by
    rintro _ _ _ _ _ ⟨F1, F2, c1, c2, rfl, rfl, h1, h2⟩ hk
    exact ⟨F1, F2, c1, c2, rfl, rfl, Rep.keep h1 fun b hb => hk b (by simp [hb]), Rep.keep h2 fun b hb => hk b (by simp [hb])⟩
  lt := by
    rintro _ _ _ _ ⟨F1, F2, c1, c2, rfl, rfl, h1, h2⟩ b hb
    rcases List.mem_append.1 hb with hb | hb
    · exact Rep.lt h1 b hb
    · exact Rep.lt h2 b hb
/-- a struct by way of the tuple of its fields -/
@[reducible] def Rep.via {α β : Type} [Rep β] (f : α → β) : Rep α where
  size := Rep.size β
  agg := true
  rep F w cs x := rep F w cs (f x)
  pos := Rep.pos
  sz h := by cases h
  len h := Rep.len h
  one h := Rep.one h
  keep h := Rep.keep h
  lt h := Rep.lt h

/-- the cells of a list's elements, one behind the other -/
def Cells {α : Type} [Rep α] : List Nat → World → List Value → List α → Prop
  | F, _, xs, [] => F = [] ∧ xs = []
  | F, w, xs, y :: ys => ∃ F1 F2 c1 c2, F = F1 ++ F2 ∧ xs = c1 ++ c2 ∧ rep F1 w c1 y ∧ Cells F2 w c2 ys
section
variable {α : Type} [Rep α]
theorem Cells.len {w : World} : ∀ {l : List α} {F : List Nat} {xs : List Value}, Cells F w xs l → xs.length = l.length * Rep.size α
  | [], _, _, ⟨_, h⟩ => by simp [h]
  | y :: ys, _, _, ⟨F1, F2, c1, c2, _, h, h1, h2⟩ => by rw [h, List.length_append, Rep.len h1, Cells.len h2, List.length_cons, Nat.add_mul]; omega
theorem Cells.one {w : World} : ∀ {l : List α} {F : List Nat} {xs : List Value}, Cells F w xs l → ∀ v ∈ xs, v.oneCell' = true
  | [], _, _, ⟨_, h⟩, v, hv => by rw [h] at hv; cases hv
  | y :: ys, _, _, ⟨F1, F2, c1, c2, _, h, h1, h2⟩, v, hv => by
    rw [h] at hv
    rcases List.mem_append.1 hv with hv | hv
    · exact Rep.one h1 v hv
    · exact Cells.one h2 v hv
theorem Cells.keep {w w' : World} : ∀ {l : List α} {F : List Nat} {xs : List Value}, Cells F w xs l → (∀ b ∈ F, w'.heap[b]? = w.heap[b]?) → Cells F w' xs l
  | [], _, _, h, _ => h
  | y :: ys, _, _, ⟨F1, F2, c1, c2, hF, h, h1, h2⟩, hk =>
    ⟨F1, F2, c1, c2, hF, h, Rep.keep h1 fun b hb => hk b (by rw [hF]; simp [hb]), Cells.keep h2 fun b hb => hk b (by rw [hF]; simp [hb])⟩
theorem Cells.lt {w : World} : ∀ {l : List α} {F : List Nat} {xs : List Value}, Cells F w xs l → ∀ b ∈ F, b < w.heap.size
  | [], _, _, ⟨h, _⟩, b, hb => by rw [h] at hb; cases hb
  | y :: ys, _, _, ⟨F1, F2, c1, c2, hF, h, h1, h2⟩, b, hb => by
    rw [hF] at hb
    rcases List.mem_append.1 hb with hb | hb
    · exact Rep.lt h1 b hb
    · exact Cells.lt h2 b hb
theorem Cells.append {w : World} : ∀ {l m : List α} {F G : List Nat} {xs ys : List Value}, Cells F w xs l → Cells G w ys m → Cells (F ++ G) w (xs ++ ys) (l ++ m)
  | [], _, _, _, _, _, ⟨hF, hx⟩, k => by subst hF hx; exact k
  | y :: l, _, _, _, _, _, ⟨F1, F2, c1, c2, hF, hx, h1, h2⟩, k => by
    subst hF hx
    exact ⟨F1, F2 ++ _, c1, c2 ++ _, by simp, by simp, h1, Cells.append h2 k⟩
theorem Cells.split {w : World} : ∀ {l m : List α} {F : List Nat} {xs : List Value}, Cells F w xs (l ++ m) → ∃ F1 F2 x1 x2, F = F1 ++ F2 ∧ xs = x1 ++ x2 ∧ Cells F1 w x1 l ∧ Cells F2 w x2 m
  | [], _, F, xs, h => ⟨[], F, [], xs, rfl, rfl, ⟨rfl, rfl⟩, h⟩
  | y :: l, m, _, _, ⟨F1, F2, c1, c2, hF, hx, h1, h2⟩ => by
    obtain ⟨G1, G2, x1, x2, rfl, rfl, k1, k2⟩ := Cells.split h2
    exact ⟨F1 ++ G1, G2, c1 ++ x1, x2, by simp [hF], by simp [hx], ⟨F1, G1, c1, x1, rfl, rfl, h1, k1⟩, k2⟩
theorem Cells.single {w : World} {F : List Nat} {cs : List Value} {x : α} (h : rep F w cs x) : Cells F w cs [x] := ⟨F, [], cs, [], by simp, by simp, h, rfl, rfl⟩
theorem Cells.single_inv {w : World} {F : List Nat} {cs : List Value} {x : α} (h : Cells F w cs [x]) : rep F w cs x := by
  obtain ⟨F1, F2, c1, c2, rfl, rfl, h1, rfl, rfl⟩ := h; simpa using h1
end
instance {α : Type} [Rep α] : Rep (List α) where
  size := 1
  agg := false
  rep F w cs l := ∃ a cap Fi xs, cs = [.slice a l.length cap] ∧ l.length ≤ cap ∧ cap ≤ maxLen ∧ Cells Fi w xs l ∧
    ((l = [] ∧ F = []) ∨ ∃ b o, a = some ⟨b, o, none⟩ ∧ F = b :: Fi ∧ w.rangeAt b o xs ∧ b < w.heap.size)
  pos := by decide
  sz _ := rfl
  len := by rintro _ _ _ _ ⟨_, _, _, _, rfl, _⟩; rfl
  one := by rintro _ _ _ _ ⟨_, _, _, _, rfl, _⟩ v hv; simp at hv; subst hv; rfl
  keep := by
    rintro _ _ _ _ _ ⟨a, cap, Fi, xs, hcs, h1, h2, hc, h⟩ hk
    rcases h with ⟨rfl, rfl⟩ | ⟨b, o, ha, hF, hr, hb⟩
    · exact ⟨a, cap, Fi, xs, hcs, h1, h2, hc, .inl ⟨rfl, rfl⟩⟩
    · subst hF
      have hbb := hk b (by simp)
      refine ⟨a, cap, Fi, xs, hcs, h1, h2, Cells.keep hc fun c hc => hk c (by simp [hc]), .inr ⟨b, o, ha, rfl, rangeAt_keep hr hbb, ?_⟩⟩
      rcases Nat.lt_or_ge b (Array.size (World.heap _)) with h' | h'
      · exact h'
      · rw [Array.getElem?_eq_none h'] at hbb
        simp [Array.getElem?_eq_getElem hb] at hbb
  lt := by
    rintro _ _ _ _ ⟨a, cap, Fi, xs, hcs, h1, h2, hc, h⟩ c hm
    rcases h with ⟨rfl, rfl⟩ | ⟨b, o, ha, hF, hr, hb⟩
    · cases hm
    · subst hF
      rcases List.mem_cons.1 hm with rfl | hm
      · exact hb
      · exact Cells.lt hc c hm
end Go.Sh
