/-
  What is appended to a row that lies in a field of a variable.
-/
import Derived.Test.YteephmhilnlkpaaGreatLv
import Derived.Test.YteephmhilnlkpaaGreatMake
import Derived.Test.YteephmhilnlkpaaGreatMk
import Derived.Test.YteephmhilnlkpaaGreatPush
namespace Go.Sh
set_option linter.unusedVariables false
set_option linter.unusedSimpArgs false
open Go.RowKit (Below)
open Rep (rep)
section
variable {P : Program} {w w0 w' : World} {α β : Type} [Rep α] [Rep β] {lo hi e g o : Nat}
/-- a literal of one element: a row -/
theorem op_buildR {t : TypeId} {by_ : Nat} {u : Value} {x : β} {lo2 hi2 : Nat} {K : Value → World → Prop} (ht : P.underlying t = some (.slice e)) (he : tyI P e = some (Rep.size β, by_, Rep.agg β)) (hz : zeroOf P e = true) (hsz : Rep.size β ≤ 1000) (hx : OwnI lo2 hi2 w u x) (hlo : lo2 ≤ w.heap.size)
    (k : ∀ v w', Ext w w' → RowI lo2 w'.heap.size e w' v [x] → K v w') : OP P (Instr.buildSlice t 1 #[(0, u)]) w K := by
  obtain ⟨F, ⟨⟨cs, hr, rfl⟩, hn, hw⟩, hF⟩ := hx
  have hcl := mkv_cells hr
  have hlen := Rep.len hr
  have hvs : (mkv β cs).cells.size = Rep.size β := by rw [← Array.length_toList, hcl, hlen]
  obtain ⟨i, d, hi, hd, hs, hby, hg⟩ := tyI_info he
  unfold zeroOf at hz
  rw [hi] at hz
  obtain ⟨z, hz⟩ := Option.isSome_iff_exists.1 hz
  have hpos := Rep.pos (α := β)
  have hFlt := Rep.lt hr
  have hxx := ext_alloc w (.cells (mkv β cs).cells e)
  have hnew := (Array.getElem?_eq_some_iff.1 (heap_alloc_new w (.cells (mkv β cs).cells e))).1
  refine ⟨_, w.alloc (.cells (mkv β cs).cells e), ?_, k (.slice (some ⟨w.heap.size, 0, none⟩) 1 1) _ hxx (.inr ⟨w.heap.size :: F, ⟨cs, F, ⟨by simp [hlen], .inr ⟨w.heap.size, 1, (mkv β cs).cells, rfl, Nat.zero_le _, heap_alloc_new w _, Nat.le_refl _, by rw [maxLen_eq]; omega, by rw [hvs, Nat.one_mul], ?_⟩⟩, Cells.single (rep_ext hr hxx), rfl, hw.ext hxx⟩, ?_, ?_⟩)⟩
  · have hne : ¬ Rep.size β = 0 := by omega
    have h24 : ¬ 2 ^ 24 < Rep.size β := by omega
    simp only [Instr.buildSlice, Sem.run_bind, run_underlying ht, Result.andThen_ok, run_sizeOf' he, Nat.one_mul]
    simp [h24, hne, zeroValue, typeInfo, hi, hz, fill_one _ _ _ hvs, newRow]
  · rw [hcl, List.length_singleton, Nat.one_mul, List.take_of_length_le (by omega)]
  · exact List.nodup_cons.2 ⟨fun h => by have := hFlt _ h; omega, hn⟩
  · intro b hb
    rcases List.mem_cons.1 hb with rfl | hb
    · exact ⟨hlo, hnew⟩
    · exact ⟨(hF b hb).1, by have := hFlt b hb; have := hxx.size; omega⟩
/-- a struct of one's own is put into a variable -/
theorem op_boxV {t : TypeId} {v : Value} {x : α} {K : Value → World → Prop} (ha : Rep.agg α = true) (h : OwnI lo hi w v x) (k : ∀ w', Ext w w' → VarI lo hi w' w.heap.size x → K (.pointer (some ⟨w.heap.size, 0, none⟩)) w') : OP P (Instr.box t v) w K := by
  obtain ⟨F, ⟨⟨cs, hr, rfl⟩, hn, hw⟩, hF⟩ := h
  have : mkv α cs = .agg cs.toArray := by simp [mkv, ha]
  rw [this]
  refine op_boxB fun w' hx hB => k w' hx ⟨F, ⟨cs, rep_ext hr hx, ?_, hn, hw.ext hx, fun hm => by have := Rep.lt hr _ hm; omega, _, _, hB⟩, hF⟩
  simpa using hB.range
/-- what lies in a place that is a row with its value -/
theorem at_rv {x : RV β e} (h : At w g o x) : Is w x.v x.l := by
  obtain ⟨F, cs, ⟨rfl, hR⟩, hr⟩ := h
  exact hR.own.is
theorem at_rvr {x : RV β e} (h : At w g o x) : w.rangeAt g o [x.v] := by
  obtain ⟨F, cs, ⟨rfl, hR⟩, hr⟩ := h
  exact hr
theorem rdx_blkS {X : Nat → Prop} {t by_ g e : Nat} {cs : List Value} {K : Value → Prop} (hB : Blk g e w cs) (ht : tyI P t = some (cs.length, by_, true)) (hX : ¬ X g) (k : K (.agg cs.toArray)) : RDX P X (Instr.loadAt t (.pointer (some ⟨g, 0, none⟩))) w K := by
  refine ⟨_, fun w' hx' => ?_, k⟩
  obtain ⟨v, h1, h2⟩ := rd_blkS (P := P) (w := w') (K := fun v => v = .agg cs.toArray) (hB.keep (hx'.block g hB.lt hX)) ht rfl
  rw [← h2]; exact h1 w' (Ext.refl _)
/-- f.s = append(f.s, y) -/
theorem op_pushF {t ty : TypeId} {by_ by2 : Nat} {x : α} {s : RV β e} {upd : RV β e → α} {u : Value} {y : β} {lo2 hi2 : Nat} {K : World → Prop} {C : Value → World → Prop} (ht : P.underlying t = some (.slice e)) (he : tyI P e = some (Rep.size β, by_, Rep.agg β)) (hz : zeroOf P e = true)
    (hzc : (P.info? e).map (fun i => (i.zero.map (·.cells.size))) = some (some (Rep.size β))) (hsz : Rep.size β ≤ 1000) (hft : tyI P t = some (1, by2, false)) (hv : VarI lo hi w0 g x) (hg : lo ≤ g ∧ g < hi) (hx0 : Ext w0 w)
    (hL : ∀ {F : List Nat}, OAt F w0 g 0 x → ∃ G, Lens (VH g) (g :: F) w0 g o G s upd) (hx : OwnI lo2 hi2 w u y) (hl : hi ≤ lo2) (hl2 : w0.heap.size ≤ lo2) (hlo : lo ≤ w0.heap.size) (hm : s.l.length + 1 ≤ maxLen) (hb : (s.l.length + 1) * by_ ≤ 140737488355328)
    (k : ∀ v' w3, ChgI lo hi w0 w3 → VarI lo w3.heap.size w3 g (upd ⟨v', s.l ++ [y]⟩) → K w3)
    (hC : ∀ a w1, Ext w w1 → OP P (Builtin.append_ #[t, t] ty [s.v, a].toArray) w1 (fun r w2 => ExtX (fun b => lo ≤ b ∧ b < hi ∧ b ≠ g) w1 w2 ∧ OPU P (Instr.storeAt t (.pointer (some ⟨g, o, none⟩)) r) w2 K) → C a w1) : OP P (Instr.buildSlice t 1 #[(0, u)]) w C := by
  obtain ⟨F, hO, hF⟩ := hv
  obtain ⟨G, hLL⟩ := hL hO
  obtain ⟨cs, ⟨rfl, hrow⟩, hr, hnG, hw, hbG, hwb⟩ := hLL.here
  have hlt := hO.lts
  have hgF : g ∉ F := by obtain ⟨_, _, _, _, _, h, _⟩ := hO; exact h
  have hGs : ∀ c ∈ G, c ∈ g :: F := fun c hc => hLL.sub c (by simp [hc])
  have hGF : ∀ c ∈ G, c ∈ F := fun c hc => by
    rcases List.mem_cons.1 (hGs c hc) with h | h
    · exact absurd (h ▸ hc) hbG
    · exact h
  obtain ⟨GX, hMX, hGX⟩ := hx
  refine op_pushB (K := fun w1 r w2 => ExtX (fun b => lo ≤ b ∧ b < hi ∧ b ≠ g) w1 w2 ∧ OPU P (Instr.storeAt t (.pointer (some ⟨g, o, none⟩)) r) w2 K) ht he hz hzc hsz (hrow.keep fun c hc => hx0.heap (hlt c (hGs c hc))) hnG hMX (fun c hcm hcg => by have := hGX c hcm; have := hF c (hGF c hcg); omega) hm hb (fun w1 v' w2 G' hx1 hc2 hR2 hN2 hs2 => ⟨?_, ?_⟩) hC
  · exact hc2.toX fun c hc => ⟨(hF c (hGF c hc)).1, (hF c (hGF c hc)).2, fun e => hbG (e ▸ hc)⟩
  · refine opu_pushed hft hLL hlt (((hx0.trans hx1).chg G).trans hc2) hR2 hN2 (fun c hcm => ?_) fun w3 hc3 ⟨F', hO', hF'⟩ => ?_
    · rcases hs2 c hcm with h | h | h
      · exact .inl h
      · exact .inr (by have := hGX c h; omega)
      · exact .inr (Nat.le_trans hx0.size h)
    · refine k v' w3 (hc3.toI fun c hc => ?_) ⟨F', hO', fun c hc => ⟨?_, hO'.lts c (by simp [hc])⟩⟩
      · rcases List.mem_cons.1 hc with rfl | hc
        · exact hg
        · exact hF c (hGF c hc)
      · rcases hF' c hc with h | h
        · rcases List.mem_cons.1 h with rfl | h
          · exact hg.1
          · exact (hF c h).1
        · omega
end
end Go.Sh
