/-
  Appending to rows of flat data: the row's one block is the old one or a new one.
-/
import Derived.Test.YteephmhilnlkpaaGreatLv
namespace Go.Sh
set_option linter.unusedVariables false
set_option linter.unusedSimpArgs false
set_option linter.unusedSectionVars false
open Rep (rep)
section
variable {P : Program} {w w0 w' : World} {α : Type} [Rep α] {lo hi e : Nat} {v : Value} {l : List α}
theorem RowG.flat [Flat α] {F : List Nat} (h : RowG F e w v l) : F = [] ∨ ∃ b, F = [b] := by
  rcases h with ⟨_, _, _, rfl⟩ | ⟨xs, Fi, _, hc, rfl, _⟩
  · exact .inl rfl
  · have := Cells.flat (xs := xs) hc
    subst this
    rcases hv : v.ownBlock with _ | b
    · exact .inl (by simp)
    · exact .inr ⟨b, by simp⟩
theorem ownI_zero [RepZ α] : OwnI lo hi w (mkv α (RepZ.zc α)) (RepZ.zv : α) := ⟨[], ⟨⟨RepZ.zc α, RepZ.zr w, rfl⟩, List.nodup_nil, Wr.nil w⟩, by simp⟩
theorem Chg.ofI {F : List Nat} (h : Chg F w w') (hF : ∀ b ∈ F, lo ≤ b ∧ b < hi) : ChgI lo hi w w' :=
  ⟨h.os, h.tape, h.output, h.size, fun b hb hx => h.block b hb fun hm => by have := hF b hm; omega⟩
theorem ChgI.ext_left {w1 : World} (hx : Ext w w1) (h : ChgI lo hi w1 w') : ChgI lo hi w w' :=
  ⟨h.os.trans hx.os, h.tape.trans hx.tape, h.output.trans hx.output, Nat.le_trans hx.size h.size, fun b hb ho => by rw [h.block b (Nat.lt_of_lt_of_le hb hx.size) ho, hx.block b hb]⟩
theorem op_pushD1 [Flat α] {t ty : TypeId} {by_ : Nat} {u : Value} {x : α} {lo2 hi2 : Nat} {K : Value → World → Prop} (ht : P.underlying t = some (.slice e)) (he : tyI P e = some (Rep.size α, by_, Rep.agg α)) (hz : zeroOf P e = true)
    (hzc : (P.info? e).map (fun i => (i.zero.map (·.cells.size))) = some (some (Rep.size α))) (hsz : Rep.size α ≤ 1000) (hv : RowI lo hi e w v l) (hx : OwnI lo2 hi2 w u x) (hm : l.length + 1 ≤ maxLen) (hb : (l.length + 1) * by_ ≤ 140737488355328)
    (k : ∀ v' w' lo' hi', ChgI lo hi w w' → RowI lo' hi' e w' v' (l ++ [x]) → (lo' = lo ∧ hi' = hi ∨ lo' = w.heap.size ∧ hi' = w'.heap.size) → K v' w') : OP P (Instr.buildSlice t 1 #[(0, u)]) w fun s w1 => OP P (Builtin.append_ #[t, t] ty [v, s].toArray) w1 K := by
  obtain ⟨F, h1, h2, h3⟩ := rowI_iff.1 hv
  obtain ⟨G, hmx, hG⟩ := hx
  have hGn : G = [] := by obtain ⟨cs, hr, _⟩ := hmx.own; exact Flat.flat hr
  subst hGn
  refine op_pushB (K := fun _ => K) ht he hz hzc hsz h1 h2 hmx (by simp) hm hb (fun w1 v' w' G' hx1 hc hR hN hs => ?_) fun _ _ _ h => h
  have hcI := ChgI.ext_left hx1 (hc.ofI h3)
  have hlt := hR.lt
  rcases hR.flat with rfl | ⟨b, rfl⟩
  · exact k v' w' lo hi hcI (rowI_iff.2 ⟨[], hR, hN, by simp⟩) (.inl ⟨rfl, rfl⟩)
  · rcases hs b (by simp) with h | h | h
    · exact k v' w' lo hi hcI (rowI_iff.2 ⟨[b], hR, hN, fun c hc => by simp at hc; subst hc; exact h3 _ h⟩) (.inl ⟨rfl, rfl⟩)
    · cases h
    · exact k v' w' w.heap.size w'.heap.size hcI (rowI_iff.2 ⟨[b], hR, hN, fun c hc => by simp at hc; subst hc; exact ⟨h, hlt _ (by simp)⟩⟩) (.inr ⟨rfl, rfl⟩)
end
end Go.Sh
