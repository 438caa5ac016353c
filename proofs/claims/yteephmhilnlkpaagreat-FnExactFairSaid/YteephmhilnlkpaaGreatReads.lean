/-
  What came in, read as data: from the form's own reading to Lean data.
-/
import Derived.Test.YteephmhilnlkpaaGreatRep
import GoSem.ClaimChange
import Derived.ChangeArms
import Derived.WideShapes
namespace Go.Sh
set_option linter.unusedVariables false
set_option linter.unusedSimpArgs false
open Rep (rep)

/-- whatever is read at type t is an α -/
def Reads (P : Program) (t : TypeId) (α : Type) [Rep α] (n : Nat) : Prop :=
  ∀ (H : Type) (enc : TypeId × Value → H) (w : World) (spare : Nat → Bool) (held : Bool) (cs : List Value) (y : DataW H × List MemPlace), DataW.trod enc P w 0 spare held n t cs = some y → ∃ F x, rep F w cs (x : α)

section
variable {P : Program} {t : TypeId}
theorem reads_int (ht : P.underlying t = some (.int .i64)) (n : Nat) : Reads P t Int n := by
  intro H enc w spare held cs y h
  obtain ⟨m, rfl, _, hw⟩ := DataW.trod_int ht h
  refine ⟨[], m, rfl, rfl, ?_⟩
  simpa [Lit.wf, IntKind.min, IntKind.max, IntKind.signed, IntKind.bits, I64] using hw
theorem reads_str (ht : P.underlying t = some .string) (n : Nat) : Reads P t ByteArray n := by
  intro H enc w spare held cs y h
  obtain ⟨s, rfl, _, hs⟩ := DataW.trod_string ht h
  exact ⟨[], s, rfl, rfl, hs⟩
theorem reads_bool (ht : P.underlying t = some .bool) (n : Nat) : Reads P t Bool n := by
  intro H enc w spare held cs y h
  obtain ⟨b, rfl, _⟩ := DataW.trod_bool ht h
  exact ⟨[], b, rfl, rfl⟩
theorem mapM_some {α β : Type} {f : α → Option β} : ∀ {l : List α} {r : List β}, l.mapM f = some r → l.length = r.length ∧ ∀ (i : Nat) x, l[i]? = some x → ∃ y, f x = some y ∧ r[i]? = some y
  | [], r, h => by simp at h; subst h; simp
  | a :: l, r, h => by
    simp only [List.mapM_cons, Option.pure_def, Option.bind_eq_bind, Option.bind_eq_some_iff, Option.some.injEq] at h
    obtain ⟨b, hb, bs, hbs, rfl⟩ := h
    obtain ⟨h1, h2⟩ := mapM_some hbs
    refine ⟨by simp [h1], fun i x hx => ?_⟩
    cases i with
    | zero => simp at hx; subst hx; exact ⟨b, hb, by simp⟩
    | succ i => obtain ⟨y, hy, hr⟩ := h2 i x (by simpa using hx); exact ⟨y, hy, by simpa using hr⟩
theorem cells_range {w : World} {a : Addr} {n : Nat} {cs : List Value} (h : w.cells? 0 a n = some cs) : cs.length = n ∧ ∀ j v, cs[j]? = some v → w.cell? (a.add j) = some v := by
  unfold World.cells? at h
  simp only [Nat.zero_le, if_true] at h
  obtain ⟨h1, h2⟩ := mapM_some h
  simp only [List.length_range] at h1
  refine ⟨h1.symm, fun j v hv => ?_⟩
  have hj : j < cs.length := (List.getElem?_eq_some_iff.1 hv).1
  obtain ⟨y, hy, hr⟩ := h2 j j (by rw [List.getElem?_range (by omega)])
  rw [hr] at hv
  cases hv
  exact hy
theorem cell_spot {w : World} {a : Addr} {v : Value} (h : w.cell? a = some v) : a.spot = none := by
  unfold World.cell? at h
  split at h
  · split at h
    · cases h
    · rename_i hs; simpa using hs
  · cases h
/-- the cells of so many elements, one behind the other -/
theorem cells_all {α : Type} [Rep α] {w : World} {b o : Nat} : ∀ (n : Nat), (∀ i, i < n → ∃ (cs : List Value) (F : List Nat) (x : α), w.rangeAt b (o + i * Rep.size α) cs ∧ rep F w cs x) →
    ∃ (F : List Nat) (xs : List Value) (l : List α), l.length = n ∧ Cells F w xs l ∧ w.rangeAt b o xs
  | 0, _ => ⟨[], [], [], rfl, ⟨rfl, rfl⟩, fun j v hv => by simp at hv⟩
  | n + 1, h => by
    obtain ⟨F, xs, l, hl, hc, hr⟩ := cells_all n fun i hi => h i (by omega)
    obtain ⟨cs, G, x, hra, hx⟩ := h n (by omega)
    refine ⟨F ++ G, xs ++ cs, l ++ [x], by simp [hl], Cells.append hc (Cells.single hx), ?_⟩
    intro j v hv
    have hlen := Cells.len hc
    rw [hl] at hlen
    rcases Nat.lt_or_ge j xs.length with hj | hj
    · rw [List.getElem?_append_left hj] at hv; exact hr j v hv
    · rw [List.getElem?_append_right hj] at hv
      have := hra (j - xs.length) v hv
      rwa [show o + n * Rep.size α + (j - xs.length) = o + j by omega] at this
theorem reads_slice {e : TypeId} {α : Type} [Rep α] {n : Nat} (ht : P.underlying t = some (.slice e)) (hc : P.cellsOf e = Rep.size α) (he : Reads P e α n) : Reads P t (List α) (n + 1) := by
  intro H enc w spare held cs y h
  rcases DataW.trod_slice ht h with ⟨rfl, _⟩ | ⟨a, len, cap, elems, rest, m, hm, rfl, _, _, h1, h2, h3, h4, _⟩
  · exact ⟨[], [], none, 0, [], [], rfl, Nat.le_refl _, Nat.zero_le _, ⟨rfl, rfl⟩, .inl ⟨rfl, rfl⟩⟩
  · obtain rfl : m = n := by omega
    by_cases h0 : len = 0
    · subst h0
      exact ⟨[], [], some a, cap, [], [], rfl, Nat.zero_le _, h2, ⟨rfl, rfl⟩, .inl ⟨rfl, rfl⟩⟩
    · have key : ∀ i, i < len → ∃ (cs : List Value) (F : List Nat) (x : α), cs.length = Rep.size α ∧ (∀ j v, cs[j]? = some v → w.cell? ((a.add (i * P.cellsOf e)).add j) = some v) ∧ rep F w cs x := by
        intro i hi
        have hy := h4 i hi
        rw [List.getElem?_eq_getElem (by omega)] at hy
        obtain ⟨cs, hcs, hy⟩ := Option.bind_eq_some_iff.1 hy
        obtain ⟨F, x, hx⟩ := he H enc w spare held cs _ hy
        obtain ⟨hl, hcell⟩ := cells_range hcs
        exact ⟨cs, F, x, by rw [hl, hc], hcell, hx⟩
      have hsp : a.spot = none := by
        obtain ⟨cs, F, x, hl, hcell, _⟩ := key 0 (by omega)
        have hp := Rep.pos (α := α)
        have := hcell 0 (cs[0]'(by omega)) (by rw [List.getElem?_eq_getElem])
        simpa [Addr.add] using cell_spot this
      obtain ⟨b, o, sp⟩ := a
      simp only at hsp
      subst hsp
      obtain ⟨F, xs, l, hl, hC, hR⟩ := cells_all (α := α) (w := w) (b := b) (o := o) len fun i hi => by
        obtain ⟨cs, F, x, _, hcell, hx⟩ := key i hi
        refine ⟨cs, F, x, fun j v hv => ?_, hx⟩
        have := hcell j v hv
        rw [hc] at this
        rwa [Addr.add_mid, Addr.add_mid] at this
      have hb : b < w.heap.size := rangeAt_lt hR (by rw [Cells.len hC, hl]; exact Nat.mul_pos (by omega) Rep.pos)
      subst hl
      exact ⟨b :: F, l, some ⟨b, o, none⟩, cap, F, xs, rfl, h1, h2, hC, .inr ⟨b, o, rfl, rfl, hR, hb⟩⟩
theorem reads_via {α β : Type} [Rep β] {f : α → β} {g : β → α} (hg : ∀ y, f (g y) = y) {n : Nat} (h : Reads P t β n) : @Reads P t α (Rep.via f) n := by
  intro H enc w spare held cs y hy
  obtain ⟨F, x, hx⟩ := h H enc w spare held cs y hy
  exact ⟨F, g x, show rep F w cs (f (g x)) by rw [hg]; exact hx⟩
theorem drop_take_split {cs : List Value} {o a b : Nat} : (cs.drop o).take (a + b) = (cs.drop o).take a ++ (cs.drop (o + a)).take b := by
  rw [List.take_add, List.drop_drop]
/-- what a struct's fields read as: two fields and more, by pairs -/
inductive FldR (P : Program) (n : Nat) : Nat → List Field → (α : Type) → Rep α → Prop
  | one {off : Nat} {f : Field} {α : Type} [i : Rep α] (h1 : f.offset = off) (h2 : P.cellsOf f.type = Rep.size α) (h3 : Reads P f.type α n) : FldR P n off [f] α i
  | cons {off : Nat} {f : Field} {fs : List Field} {α β : Type} [i : Rep α] [j : Rep β] (h1 : f.offset = off) (h2 : P.cellsOf f.type = Rep.size α) (h3 : Reads P f.type α n) (h4 : FldR P n (off + Rep.size α) fs β j) : FldR P n off (f :: fs) (α × β) inferInstance
theorem fldR_rep {n : Nat} {H : Type} {enc : TypeId × Value → H} {w : World} {spare : Nat → Bool} {held : Bool} {cs : List Value} {off : Nat} {fs : List Field} {α : Type} {i : Rep α} (h : FldR P n off fs α i) :
    (∀ f ∈ fs, ∃ y, DataW.trod enc P w 0 spare held n f.type ((cs.drop f.offset).take (P.cellsOf f.type)) = some y) → cs.length = off + @Rep.size α i → ∃ F x, @Rep.rep α i F w (cs.drop off) x := by
  induction h with
  | @one off f α i h1 h2 h3 =>
    intro hy hl
    obtain ⟨y, hf⟩ := hy f (by simp)
    subst h1
    rw [h2, List.take_of_length_le (by simp; omega)] at hf
    exact h3 _ _ _ _ _ _ _ hf
  | @cons off f fs α β i j h1 h2 h3 h4 ih =>
    intro hy hl
    obtain ⟨y, hf⟩ := hy f (by simp)
    have hl' : cs.length = off + (Rep.size α + Rep.size β) := hl
    obtain ⟨F2, x2, hx2⟩ := ih (fun g hg => hy g (by simp [hg])) (by omega)
    subst h1
    rw [h2] at hf
    obtain ⟨F1, x1, hx1⟩ := h3 _ _ _ _ _ _ _ hf
    refine ⟨F1 ++ F2, (x1, x2), F1, F2, _, _, rfl, ?_, hx1, hx2⟩
    have := drop_take_split (cs := cs) (o := f.offset) (a := Rep.size α) (b := Rep.size β)
    rw [List.take_of_length_le (by simp; omega), List.take_of_length_le (l := cs.drop (f.offset + Rep.size α)) (by simp; omega)] at this
    exact this
theorem reads_struct {fs : Array Field} {α : Type} [i : Rep α] {n : Nat} (ht : P.underlying t = some (.struct fs)) (hc : P.cellsOf t = Rep.size α) (hf : FldR P n 0 fs.toList α i) : Reads P t α (n + 1) := by
  intro H enc w spare held cs y h
  obtain ⟨xs, m, hm, _, hlen, hxl, hx⟩ := DataW.trod_struct ht h
  obtain rfl : m = n := by omega
  have := fldR_rep (enc := enc) (w := w) (spare := spare) (held := held) (cs := cs) hf (fun f hf => by
    obtain ⟨k, hk, hkf⟩ := List.getElem_of_mem hf
    have h1 : fs[k]? = some f := by rw [← hkf]; simp
    have h2 := hx k f h1
    have hk' : k < xs.length := by rw [hxl]; simpa using hk
    rw [List.getElem?_eq_getElem hk'] at h2
    exact ⟨_, h2⟩) (by rw [hlen, hc]; simp)
  simpa using this
theorem reads_zero {α : Type} [Rep α] : Reads P t α 0 := by intro H enc w spare held cs y h; simp [DataW.trod] at h
theorem reads_all_slice {e : TypeId} {α : Type} [Rep α] (ht : P.underlying t = some (.slice e)) (hc : P.cellsOf e = Rep.size α) (he : ∀ n, Reads P e α n) : ∀ n, Reads P t (List α) n
  | 0 => reads_zero
  | n + 1 => reads_slice ht hc (he n)
theorem reads_all_struct {fs : Array Field} {α : Type} [i : Rep α] (ht : P.underlying t = some (.struct fs)) (hc : P.cellsOf t = Rep.size α) (hf : ∀ n, FldR P n 0 fs.toList α i) : ∀ n, Reads P t α n
  | 0 => reads_zero
  | n + 1 => reads_struct ht hc (hf n)
theorem is_of_slice {e : TypeId} {α : Type} [Rep α] {H : Type} {enc : TypeId × Value → H} {w W : World} {r : Reach} {b0 : Nat} {spare : Nat → Bool} {held : Bool} {v : Value} {d : DataW H} {p : List MemPlace} (ht : P.underlying t = some (.slice e)) (hr : ∀ n, Reads P t (List α) n) (hv : Value.okWide P W r b0 t v)
    (h : DataW.Trod enc P w 0 spare held t v d p) : ∃ x : List α, Is w v x := by
  obtain ⟨a, len, cap, rfl⟩ := WideShapes.okWide_slice ht hv
  obtain ⟨n, hn⟩ := h
  obtain ⟨F, x, hx⟩ := hr n H enc w spare held _ _ hn
  exact ⟨x, F, _, hx, rfl⟩
theorem is_of_str {H : Type} {enc : TypeId × Value → H} {w W : World} {r : Reach} {b0 : Nat} {spare : Nat → Bool} {held : Bool} {v : Value} {d : DataW H} {p : List MemPlace} (ht : P.underlying t = some .string) (hv : Value.okWide P W r b0 t v)
    (h : DataW.Trod enc P w 0 spare held t v d p) : ∃ x : ByteArray, Is w v x := by
  obtain ⟨s, rfl⟩ := WideShapes.okWide_string ht hv
  obtain ⟨n, hn⟩ := h
  obtain ⟨F, x, hx⟩ := reads_str ht n H enc w spare held _ _ hn
  exact ⟨x, F, _, hx, rfl⟩
theorem is_of_int {H : Type} {enc : TypeId × Value → H} {w W : World} {r : Reach} {b0 : Nat} {spare : Nat → Bool} {held : Bool} {v : Value} {d : DataW H} {p : List MemPlace} (ht : P.underlying t = some (.int .i64)) (hv : Value.okWide P W r b0 t v)
    (h : DataW.Trod enc P w 0 spare held t v d p) : ∃ x : Int, Is w v x := by
  obtain ⟨s, rfl⟩ := WideShapes.okWide_int ht hv
  obtain ⟨n, hn⟩ := h
  obtain ⟨F, x, hx⟩ := reads_int ht n H enc w spare held _ _ hn
  exact ⟨x, F, _, hx, rfl⟩
theorem is_of_struct {fs : Array Field} {α : Type} [Rep α] {H : Type} {enc : TypeId × Value → H} {w W : World} {r : Reach} {b0 : Nat} {spare : Nat → Bool} {held : Bool} {v : Value} {d : DataW H} {p : List MemPlace} (ht : P.underlying t = some (.struct fs)) (ha : Rep.agg α = true) (hr : ∀ n, Reads P t α n) (hv : Value.okWide P W r b0 t v)
    (h : DataW.Trod enc P w 0 spare held t v d p) : ∃ x : α, Is w v x := by
  simp only [Value.okWide, ht] at hv
  obtain ⟨cs, rfl, _⟩ := hv
  obtain ⟨n, hn⟩ := h
  obtain ⟨F, x, hx⟩ := hr n H enc w spare held _ _ hn
  exact ⟨x, F, _, hx, by simp [mkv, ha, Value.cells]⟩
end
end Go.Sh
