/-
  Slices of races: copied, rid of what stands twice behind itself, cut to their length.
-/
import Derived.Test.YteephmhilnlkpaaGreatSortG
import Derived.Test.YteephmhilnlkpaaGreatSmall
import Derived.Test.YteephmhilnlkpaaGreatTypes
import Derived.Test.YteephmhilnlkpaaGreatFns0
namespace Go.Sh
set_option linter.unusedVariables false
set_option linter.unusedSimpArgs false
set_option linter.unusedSectionVars false
open Rep (rep)
section
variable {P : Program} {w : World} {α : Type} [Rep α] [Flat α] {b o n cap k : Nat} {l : List α}
/-- a slice of one's own of flat data that holds something: its parts -/
theorem mine_parts {F : List Nat} {v : Value} (hm : Mine F w v l) (hl : l ≠ []) : ∃ b o cap xs, v = .slice (some ⟨b, o, none⟩) l.length cap ∧ F = [b] ∧ l.length ≤ cap ∧ cap ≤ maxLen ∧ Cells [] w xs l ∧ w.rangeAt b o xs ∧ (∃ c e, w.heap[b]? = some (.cells c e (0, 0))) := by
  obtain ⟨⟨cs, ⟨a, cap, Fi, xs, rfl, h1, h2, hc, h4⟩, rfl⟩, hn, hw⟩ := hm
  rcases h4 with ⟨h4, _⟩ | ⟨b, o, rfl, rfl, hr, hb⟩
  · exact absurd h4 hl
  have hFi := Cells.flat (xs := xs) hc
  subst hFi
  exact ⟨b, o, cap, xs, rfl, rfl, h1, h2, hc, hr, hw b (by simp)⟩
theorem mine_of_parts {xs : List Value} (h1 : l.length ≤ cap) (h2 : cap ≤ maxLen) (hc : Cells [] w xs l) (hr : w.rangeAt b o xs) (hw : ∃ c e, w.heap[b]? = some (.cells c e (0, 0))) : Mine [b] w (.slice (some ⟨b, o, none⟩) l.length cap) l :=
  ⟨⟨_, ⟨some ⟨b, o, none⟩, cap, [], xs, rfl, h1, h2, hc, .inr ⟨b, o, rfl, rfl, hr, by obtain ⟨c, e, h⟩ := hw; exact (Array.getElem?_eq_some_iff.1 h).1⟩⟩, rfl⟩, by simp, fun i hi => by simp at hi; subst hi; exact hw⟩
/-- s[:k] -/
theorem rd_cutF {t e : TypeId} {by_ : Nat} {K : Value → Prop} (ht : P.underlying t = some (.slice e)) (he : tyI P e = some (Rep.size α, by_, Rep.agg α)) (hk : k ≤ n) (hn : n ≤ cap) (kk : K (.slice (some ⟨b, o, none⟩) k cap)) :
    RD P (Instr.sliceAt t (.slice (some ⟨b, o, none⟩) n cap) none (some (.int .i64 (k : Int))) none) w K := by
  refine rd_of (fun w' _ => ?_) kk
  have hbd : (Instr.sliceBounds true n cap none (some (.int .i64 (k : Int))) none).run P w' = .ok (0, k, cap) w' := by
    have h5 : (k : Int) ≤ (cap : Int) := by omega
    simp [Instr.sliceBounds, Instr.sliceBound, asIntOf, h5]
    intro h6
    omega
  simp only [Instr.sliceAt, Instr.slice, Sem.run_bind, run_underlying ht, Result.andThen_ok, hbd, run_sizeOf' he]
  simp [Addr.add_mid]
/-- s[k:] -/
theorem rd_dropF {t e : TypeId} {by_ : Nat} {K : Value → Prop} (ht : P.underlying t = some (.slice e)) (he : tyI P e = some (Rep.size α, by_, Rep.agg α)) (hk : k ≤ n) (hn : n ≤ cap) (kk : K (.slice (if cap = k then some ⟨b, o, none⟩ else some ⟨b, o + k * Rep.size α, none⟩) (n - k) (cap - k))) :
    RD P (Instr.sliceAt t (.slice (some ⟨b, o, none⟩) n cap) (some (.int .i64 (k : Int))) none none) w K := by
  refine rd_of (fun w' _ => ?_) kk
  have hb : (Instr.sliceBounds true n cap (some (.int .i64 (k : Int))) none none).run P w' = .ok (k, n, cap) w' := by
    have : (k : Int) ≤ (n : Int) := by omega
    simp [Instr.sliceBounds, Instr.sliceBound, asIntOf, this]
    try (intro h; omega)
  simp [Instr.sliceAt, Instr.slice, run_underlying ht, hb, run_sizeOf' he, Addr.add_mid]
/-- s[:k:k'] -/
theorem rd_clipF {t e : TypeId} {by_ j : Nat} {K : Value → Prop} (ht : P.underlying t = some (.slice e)) (he : tyI P e = some (Rep.size α, by_, Rep.agg α)) (hk : k ≤ j) (hn : j ≤ cap) {a : Option Addr} (kk : ∀ a', (k ≠ 0 → a' = a) → K (.slice a' k j)) :
    RD P (Instr.sliceAt t (.slice a n cap) none (some (.int .i64 (k : Int))) (some (.int .i64 (j : Int)))) w K := by
  have hb : ∀ w', (Instr.sliceBounds true n cap none (some (.int .i64 (k : Int))) (some (.int .i64 (j : Int)))).run P w' = .ok (0, k, j) w' := fun w' => by
    have h1 : (j : Int) ≤ (cap : Int) := by omega
    have h2 : (k : Int) ≤ (j : Int) := by omega
    simp [Instr.sliceBounds, Instr.sliceBound, asIntOf, h1, h2]
    try (intro h; omega)
  have : ∃ a', (∀ w', (Instr.sliceAt t (.slice a n cap) none (some (.int .i64 (k : Int))) (some (.int .i64 (j : Int)))).run P w' = .ok (.slice a' k j) w') ∧ (k ≠ 0 → a' = a) := by
    cases a with
    | none => exact ⟨none, fun w' => by simp [Instr.sliceAt, Instr.slice, run_underlying ht, hb, run_sizeOf' he], fun _ => rfl⟩
    | some a => exact ⟨some a, fun w' => by simp [Instr.sliceAt, Instr.slice, run_underlying ht, hb, run_sizeOf' he, Addr.add], fun _ => rfl⟩
  obtain ⟨a', h1, h2⟩ := this
  exact rd_of (fun w' _ => h1 w') (kk a' h2)
/-- clear(s[k:]): what lies ahead stays -/
theorem op_clearF [RepZ α] {t e ty : TypeId} {K : Value → World → Prop} (ht : P.underlying t = some (.slice e)) (hz : zeroL P e = some (RepZ.zc α)) (hm : Mine [b] w (.slice (some ⟨b, o, none⟩) n cap) l) (hl : l.length = n) (hk : k ≤ n) (hk0 : 0 < k) (hn : n ≤ cap)
    (kk : ∀ w', Chg [b] w w' → Mine [b] w' (.slice (some ⟨b, o, none⟩) k cap) (l.take k) → K (.tuple #[]) w') :
    OP P (Builtin.clear_ #[t] ty [Value.slice (if cap = k then some ⟨b, o, none⟩ else some ⟨b, o + k * Rep.size α, none⟩) (n - k) (cap - k)].toArray) w K := by
  have hne : l ≠ [] := fun e => by rw [e] at hl; simp at hl; omega
  obtain ⟨b', o', cap', xs, hv, hb', h1, h2, hc, hr, hw⟩ := mine_parts hm hne
  simp only [Value.slice.injEq, Option.some.injEq, Addr.mk.injEq] at hv
  obtain ⟨⟨rfl, rfl, _⟩, hnl, rfl⟩ := hv
  have htk : (l.take k).length = k := by simp; omega
  have e0 : l = l.take k ++ l.drop k := by simp
  have hc' := hc
  rw [e0] at hc'
  obtain ⟨F1, F2, x1, x2, hFF, rfl, c1, c2⟩ := Cells.split hc'
  obtain ⟨rfl, rfl⟩ := List.append_eq_nil_iff.1 hFF.symm
  have hx1 : x1.length = k * Rep.size α := by rw [Cells.len c1, htk]
  have hr1 := (rangeAt_append hr).1
  by_cases hnk : n = k
  · subst hnk
    refine ⟨.tuple #[], w, ?_, kk w (Chg.refl _ _) ?_⟩
    · rw [Nat.sub_self]
      by_cases hck : cap = n
      · rw [if_pos hck]; simp [Builtin.clear_, run_underlying ht]
      · rw [if_neg hck]; simp [Builtin.clear_, run_underlying ht]
    · have := mine_of_parts (l := l.take n) (cap := cap) (by omega) h2 c1 hr1 hw
      rwa [htk] at this
  · have hck : ¬ cap = k := by omega
    rw [if_neg hck]
    obtain ⟨c, e', he⟩ := hw
    unfold zeroL at hz
    cases hi : P.info? e with
    | none => simp [hi] at hz
    | some i =>
      simp only [hi] at hz
      obtain ⟨z, hzz, hzc⟩ := Option.map_eq_some_iff.1 hz
      have hzl : z.cells.size = Rep.size α := by
        rw [← Array.length_toList, hzc]; exact Rep.len (RepZ.zr (α := α) w)
      have hpos := Rep.pos (α := α)
      obtain ⟨m, hm'⟩ : ∃ m, n - k = m + 1 := ⟨n - k - 1, by omega⟩
      have hzs : (Builtin.zeroCells z.cells (n - k)).toList.length = (n - k) * Rep.size α := by simp [Builtin.zeroCells, hzl]
      have hfit : o + (k * Rep.size α) + 0 + (Builtin.zeroCells z.cells (n - k)).toList.length ≤ c.size := by
        rw [hzs]
        have hx : (x1 ++ x2).length = n * Rep.size α := by rw [Cells.len hc, hl]
        have hlast := hr (n * Rep.size α - 1) ((x1 ++ x2)[n * Rep.size α - 1]'(by rw [hx]; have := Nat.mul_pos (show 0 < n by omega) hpos; omega)) (List.getElem?_eq_getElem _)
        simp only [World.cell?, he] at hlast
        have := (Array.getElem?_eq_some_iff.1 (by simpa using hlast)).1
        have h3 : (n - k) * Rep.size α + k * Rep.size α = n * Rep.size α := by rw [← Nat.add_mul]; congr 1; omega
        have h4 := Nat.mul_pos (show 0 < n by omega) hpos
        omega
      have hone : ∀ v ∈ (Builtin.zeroCells z.cells (n - k)).toList, v.oneCell' = true := fun v hv => by
        simp only [Builtin.zeroCells, Array.toList_map, Array.toList_range, List.mem_map, List.mem_range] at hv
        obtain ⟨i, _, rfl⟩ := hv
        have hlt : i % z.cells.size < z.cells.size := Nat.mod_lt _ (by omega)
        have e3 : z.cells[i % z.cells.size]! = z.cells[i % z.cells.size]'hlt := by simp [hlt]
        rw [e3]
        refine Rep.one (RepZ.zr (α := α) w) _ ?_
        rw [← hzc]
        exact Array.getElem_mem_toList hlt
      have hst := run_storeCells_at (P := P) b (o + k * Rep.size α) e' (Builtin.zeroCells z.cells (n - k)).toList 0 c w he hfit hone
      simp only [Nat.add_zero] at hst
      refine ⟨.tuple #[], _, ?_, kk _ (setRow_chg w b (c.toList.take (o + k * Rep.size α) ++ (Builtin.zeroCells z.cells (n - k)).toList ++ c.toList.drop (o + k * Rep.size α + (Builtin.zeroCells z.cells (n - k)).toList.length)).toArray) ?_⟩
      · rw [hm'] at hst ⊢
        simp [Builtin.clear_, run_underlying ht, zeroValue, typeInfo, hi, hzz, hst]
      · have hB := setRow_heap w b c (c.toList.take (o + k * Rep.size α) ++ (Builtin.zeroCells z.cells (n - k)).toList ++ c.toList.drop (o + k * Rep.size α + (Builtin.zeroCells z.cells (n - k)).toList.length)).toArray e' _ he
        have := mine_of_parts (w := w.setRow b (c.toList.take (o + k * Rep.size α) ++ (Builtin.zeroCells z.cells (n - k)).toList ++ c.toList.drop (o + k * Rep.size α + (Builtin.zeroCells z.cells (n - k)).toList.length)).toArray) (b := b) (o := o) (l := l.take k) (cap := cap) (xs := x1) (by omega) h2 (c1.keep (by simp)) (fun j v hv => ?_) ⟨_, _, hB⟩
        · rwa [htk] at this
        · have hj := (List.getElem?_eq_some_iff.1 hv).1
          rw [hx1] at hj
          have h5 := hr1 j v hv
          simp only [World.cell?, he] at h5
          have h6 : c[o + j]? = some v := by simpa using h5
          simp only [World.cell?, hB]
          simp only [Option.isSome_none, Bool.false_eq_true, if_false, List.getElem?_toArray]
          rw [List.append_assoc, List.getElem?_append_left (by simp; have := (Array.getElem?_eq_some_iff.1 h6).1; omega), List.getElem?_take, if_pos (by omega)]
          simpa using h6
end
end Go.Sh
