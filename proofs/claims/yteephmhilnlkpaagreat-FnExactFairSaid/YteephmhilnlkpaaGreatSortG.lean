/-
  The library's sort, told in terms of the data: what its contract (the shelf's words) leaves of a slice of one's own.
-/
import Derived.Test.YteephmhilnlkpaaGreatPush
import Derived.Test.YteephmhilnlkpaaGreatMake
import Derived.Test.YteephmhilnlkpaaGreatMk
import Derived.Shelf.SlSortCmp.InsertionK
namespace Go.Sh
set_option linter.unusedVariables false
set_option linter.unusedSimpArgs false
set_option linter.unusedSectionVars false
open Rep (rep)
open Go.Sort Go.Proofs
section
variable {α : Type} [Inhabited α] {enc : α → List Value} {k : Nat}
theorem flat_len (hk : ∀ x, (enc x).length = k) : ∀ (l : List α), (l.flatMap enc).length = l.length * k
  | [] => by simp
  | x :: l => by rw [List.flatMap_cons, List.length_append, hk, flat_len hk l, List.length_cons, Nat.add_mul]; omega
theorem flat_get (hk : ∀ x, (enc x).length = k) (h0 : 0 < k) : ∀ {l : List α} {t : Nat}, t < l.length * k → (l.flatMap enc)[t]? = some ((enc l[t / k]!)[t % k]!)
  | [], t, h => by simp at h
  | x :: l, t, h => by
    rw [List.flatMap_cons]
    rcases Nat.lt_or_ge t k with ht | ht
    · rw [List.getElem?_append_left (by rw [hk]; exact ht), Nat.div_eq_of_lt ht, Nat.mod_eq_of_lt ht]
      have : t < (enc x).length := by rw [hk]; exact ht
      rw [List.getElem?_eq_getElem this]
      simp [this]
    · rw [List.getElem?_append_right (by rw [hk]; exact ht), hk]
      have h' : t - k < l.length * k := by rw [List.length_cons, Nat.add_mul] at h; omega
      rw [flat_get hk h0 h']
      have e1 : t / k = (t - k) / k + 1 := by
        have : t = (t - k) + k := by omega
        conv => lhs; rw [this]
        rw [Nat.add_div_right _ h0]
      have e2 : t % k = (t - k) % k := by
        have : t = (t - k) + k := by omega
        conv => lhs; rw [this]
        rw [Nat.add_mod_right]
      rw [e1, e2]
      simp
theorem flatK_get (hk : ∀ x, (enc x).length = k) (h0 : 0 < k) {l : List α} {t : Nat} (h : t < l.length * k) : (l.flatMap enc)[t]? = some (flatK enc k l.toArray)[t]! := by
  rw [flat_get hk h0 h, get_flatK enc k l.toArray t (by simpa using h)]
  simp
end
section
variable {α : Type} [Rep α] [Flat α] [Inhabited α] {w : World} {enc : α → List Value} {b o n cap : Nat} {l : List α}
theorem cells_enc (henc : ∀ {F w cs} {x : α}, rep F w cs x → cs = enc x) : ∀ {l : List α} {F : List Nat} {xs : List Value}, Cells F w xs l → xs = l.flatMap enc
  | [], _, _, ⟨_, h⟩ => by simp [h]
  | y :: ys, _, _, ⟨F1, F2, c1, c2, _, h, h1, h2⟩ => by rw [h, henc h1, cells_enc henc h2, List.flatMap_cons]
theorem enc_cells {w' : World} (henc : ∀ {F w cs} {x : α}, rep F w cs x → cs = enc x) : ∀ {l : List α}, (∀ x ∈ l, ∃ F cs, rep F w cs x) → Cells [] w' (l.flatMap enc) l
  | [], _ => ⟨rfl, rfl⟩
  | y :: ys, h => by
    obtain ⟨F, cs, hr⟩ := h y (by simp)
    have hF := Flat.flat hr
    subst hF
    have hc := henc hr
    subst hc
    exact ⟨[], [], enc y, ys.flatMap enc, rfl, rfl, Rep.keep hr (by simp), enc_cells henc fun x hx => h x (by simp [hx])⟩
theorem cells_mem : ∀ {l : List α} {F : List Nat} {xs : List Value}, Cells F w xs l → ∀ x ∈ l, ∃ F cs, rep F w cs x
  | y :: ys, _, _, ⟨F1, F2, c1, c2, _, h, h1, h2⟩, x, hx => by
    rcases List.mem_cons.1 hx with rfl | hx
    · exact ⟨_, _, h1⟩
    · exact cells_mem h2 x hx
/-- what the sort asks of the row -/
theorem holdsK_of (henc : ∀ {F w cs} {x : α}, rep F w cs x → cs = enc x) (hk : ∀ x, (enc x).length = Rep.size α) (hw : ∃ c e, w.heap[b]? = some (.cells c e (0, 0))) {xs : List Value} (hc : Cells [] w xs l) (hr : w.rangeAt b o xs) : HoldsK enc (Rep.size α) w b o l.toArray := by
  intro j hj
  rw [size_flatK] at hj
  have hj' : j < l.length * Rep.size α := by simpa using hj
  have := cells_enc henc hc
  subst this
  have h1 := hr j _ (flatK_get hk Rep.pos hj')
  refine ⟨h1, ?_⟩
  obtain ⟨c, e, he⟩ := hw
  simp [World.frozen?, he]
/-- what is left of it -/
theorem sorted_mine (henc : ∀ {F w cs} {x : α}, rep F w cs x → cs = enc x) (hk : ∀ x, (enc x).length = Rep.size α) {d' : Array α} {m : Nat} {os : Array Obj} {w3 : World} (hw3 : w3 = sortWorldK enc (Rep.size α) w b o m d' os) (hw : ∃ c e, w.heap[b]? = some (.cells c e (0, 0))) {xs : List Value} (hc : Cells [] w xs l) (hr : w.rangeAt b o xs)
    (h1 : l.length ≤ cap) (h2 : cap ≤ maxLen) (hl : d'.size = l.length) (hp : ∀ x ∈ d'.toList, x ∈ l) : Chg [b] w w3 ∧ Mine [b] w3 (.slice (some ⟨b, o, none⟩) l.length cap) d'.toList := by
  subst hw3
  have hH := holdsK_of henc hk hw hc hr
  obtain ⟨c, e, he⟩ := hw
  have hb : b < w.heap.size := (Array.getElem?_eq_some_iff.1 he).1
  have hsz : (putRowK enc (Rep.size α) (Sort.ahead w m) b o d').heap.size = w.heap.size := by simp [putRowK, putRow, mapBlock, Sort.ahead]
  have hblk : ∀ i, i < w.heap.size → i ≠ b → (sortWorldK enc (Rep.size α) w b o m d' os).heap[i]? = w.heap[i]? := fun i hi hne => by
    unfold sortWorldK
    rw [heap_grow_old _ _ (by rw [hsz]; exact hi)]
    simp [putRowK, putRow, mapBlock, Sort.ahead, Array.getElem?_modify, hne.symm]
  have hbb : ∃ c', (sortWorldK enc (Rep.size α) w b o m d' os).heap[b]? = some (.cells c' e (0, 0)) := by
    unfold sortWorldK
    rw [heap_grow_old _ _ (by rw [hsz]; exact hb)]
    exact ⟨_, by simp [putRowK, putRow, mapBlock, Sort.ahead, Array.getElem?_modify, he, onCells]; rfl⟩
  have hsz2 : w.heap.size ≤ (sortWorldK enc (Rep.size α) w b o m d' os).heap.size := by
    unfold sortWorldK grow
    rw [Array.size_append, hsz]; omega
  refine ⟨⟨rfl, rfl, rfl, hsz2, fun i hi hm => hblk i hi fun e => hm (by simp [e])⟩, ⟨⟨_, ⟨some ⟨b, o, none⟩, cap, [], d'.toList.flatMap enc, rfl, by simpa [hl] using h1, h2, ?_, .inr ⟨b, o, rfl, rfl, ?_, by omega⟩⟩, by simp [mkv, Rep.agg, hl]⟩, by simp, fun i hi => ?_⟩⟩
  · exact enc_cells (w := w) henc fun x hx => cells_mem hc x (hp x hx)
  · intro j v hv
    have hj : j < d'.toList.length * Rep.size α := by
      have := (List.getElem?_eq_some_iff.1 hv).1
      rwa [flat_len hk] at this
    rw [flatK_get hk Rep.pos hj, Option.some.injEq] at hv
    have hj2 : j < (flatK enc (Rep.size α) d').size := by rw [size_flatK]; simpa using hj
    have := cell?_putRow id (Sort.ahead w m) b o (flatK enc (Rep.size α) l.toArray) (flatK enc (Rep.size α) d') hH (by simp [hl]) j hj2
    unfold sortWorldK
    rw [cell?_grow _ _ _ (by rw [hsz]; exact hb)]
    show (putRow id (Sort.ahead w m) b o (flatK enc (Rep.size α) d')).cell? _ = _
    rw [this, ← hv]
    simp
  · simp only [List.mem_cons, List.not_mem_nil, or_false] at hi
    subst hi
    obtain ⟨c', hc'⟩ := hbb
    exact ⟨c', e, hc'⟩
end
end Go.Sh
