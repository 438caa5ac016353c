/-
  Literals of slices, and slices that grow.
-/
import Derived.Test.YteephmhilnlkpaaGreatLens
namespace Go.Sh
set_option linter.unusedVariables false
set_option linter.unusedSimpArgs false
set_option linter.unusedSectionVars false
open Go.RowKit (Below)
open Rep (rep)

theorem fold_set (off : Nat) : ∀ (l : List Value) (k : Nat) (cs : Array Value),
    ((l.zipIdx k).foldl (fun (cs : Array Value) (p : Value × Nat) => cs.setIfInBounds (off + p.2) p.1) cs).size = cs.size ∧
    ∀ i, ((l.zipIdx k).foldl (fun (cs : Array Value) (p : Value × Nat) => cs.setIfInBounds (off + p.2) p.1) cs)[i]? = if off + k ≤ i ∧ i < off + k + l.length ∧ i < cs.size then l[i - (off + k)]? else cs[i]?
  | [], k, cs => by
    refine ⟨rfl, fun i => ?_⟩
    rw [if_neg (by simp; omega)]
    rfl
  | v :: l, k, cs => by
    obtain ⟨h1, h2⟩ := fold_set off l (k + 1) (cs.setIfInBounds (off + k) v)
    simp only [List.zipIdx_cons, List.foldl_cons]
    refine ⟨by rw [h1]; simp, fun i => ?_⟩
    rw [h2]
    simp only [Array.size_setIfInBounds, List.length_cons]
    by_cases hi : i = off + k
    · subst hi
      rw [if_neg (by omega)]
      by_cases hs : off + k < cs.size
      · rw [if_pos (by omega)]; simp [hs]
      · rw [if_neg (by omega), Array.getElem?_eq_none (by rw [Array.size_setIfInBounds]; omega), Array.getElem?_eq_none (by omega)]
    · by_cases hr : off + (k + 1) ≤ i ∧ i < off + (k + 1) + l.length ∧ i < cs.size
      · rw [if_pos hr, if_pos (by omega)]
        have : i - (off + k) = (i - (off + (k + 1))) + 1 := by omega
        rw [this, List.getElem?_cons_succ]
      · rw [if_neg hr, if_neg (by omega), Array.getElem?_setIfInBounds_ne (by omega)]
theorem fill_one (v : Value) (cells : Array Value) (s : Nat) (hv : v.cells.size = s) (hc : cells.size = s) : Instr.fill (fun i => some (i * s, s)) cells [(0, v)] = some v.cells := by
  unfold Instr.fill
  simp only [Nat.zero_mul]
  rw [if_neg (by simp; omega)]
  unfold Instr.fill
  congr 1
  obtain ⟨h1, h2⟩ := fold_set 0 v.cells.toList 0 cells
  have e : v.cells.zipIdx.foldl (fun (cs : Array Value) (x : Value × Nat) => match x with | (c, j) => cs.setIfInBounds (0 + j) c) cells
      = (v.cells.toList.zipIdx 0).foldl (fun (cs : Array Value) (p : Value × Nat) => cs.setIfInBounds (0 + p.2) p.1) cells := by
    rw [← Array.foldl_toList, Array.toList_zipIdx]
  rw [e]
  apply Array.ext_getElem?
  intro i
  rw [h2]
  by_cases hi : i < s
  · rw [if_pos (by simp; omega)]; simp
  · rw [if_neg (by simp; omega), Array.getElem?_eq_none (by omega), Array.getElem?_eq_none (by omega)]

/-- nothing below lo has turned -/
abbrev Up (lo : Nat) (w w' : World) : Prop := ChgI lo w.heap.size w w'
section
variable {w w' w'' : World} {lo hi a b : Nat}
theorem Up.refl (lo : Nat) (w : World) : Up lo w w := ChgI.refl w
theorem ChgI.up (h : ChgI lo hi w w') : Up lo w w' := ⟨h.os, h.tape, h.output, h.size, fun i hi' ho => h.block i hi' (by omega)⟩
theorem Up.step (h : Up lo w w') (k : ChgI a b w' w'') (hl : lo ≤ a) : Up lo w w'' :=
  ⟨k.os.trans h.os, k.tape.trans h.tape, k.output.trans h.output, Nat.le_trans h.size k.size, fun i hi' ho => (k.block i (Nat.lt_of_lt_of_le hi' h.size) (by omega)).trans (h.block i hi' ho)⟩
theorem Up.ext (h : Up lo w w') (k : Ext w' w'') : Up lo w w'' :=
  ⟨k.os.trans h.os, k.tape.trans h.tape, k.output.trans h.output, Nat.le_trans h.size k.size, fun i hi' ho => (k.block i (Nat.lt_of_lt_of_le hi' h.size)).trans (h.block i hi' ho)⟩
end
/-- a slice of the call's own that is appended to, its blocks from lo up to hi; one that holds nothing and has no room has none -/
def RowI {α : Type} [Rep α] (lo hi : Nat) (e : TypeId) (w : World) (v : Value) (l : List α) : Prop := (∃ a, v = .slice a 0 0 ∧ l = []) ∨ ∃ F, RowF F e w v l ∧ F.Nodup ∧ ∀ b ∈ F, lo ≤ b ∧ b < hi
section
variable {P : Program} {w w0 w' : World} {α : Type} [Rep α] {lo hi a b e : Nat} {v : Value} {l : List α}
theorem ownI_zcap (a : Option Addr) : OwnI (α := List α) lo hi w (.slice a 0 0) [] :=
  ⟨[], ⟨⟨_, ⟨a, 0, [], [], rfl, Nat.le_refl _, Nat.zero_le _, ⟨rfl, rfl⟩, .inl ⟨rfl, rfl⟩⟩, rfl⟩, List.nodup_nil, Wr.nil w⟩, by simp⟩
theorem Row.toI (h : Row lo e w v l) : RowI lo w.heap.size e w v l := by
  obtain ⟨F, h1, h2, h3⟩ := h; exact .inr ⟨F, h1, h2, fun b hb => ⟨h3 b hb, h1.lt b hb⟩⟩
theorem RowI.ext (h : RowI lo hi e w v l) (hx : Ext w w') : RowI lo hi e w' v l := by
  rcases h with h | ⟨F, h1, h2, h3⟩
  · exact .inl h
  · exact .inr ⟨F, h1.ext hx, h2, h3⟩
theorem RowI.chg (h : RowI lo hi e w v l) (hc : ChgI a b w w') (hd : hi ≤ a ∨ b ≤ lo) : RowI lo hi e w' v l := by
  rcases h with h | ⟨F, h1, h2, h3⟩
  · exact .inl h
  · exact .inr ⟨F, h1.keep fun c hcm => hc.block c (h1.lt c hcm) (by have := h3 c hcm; omega), h2, h3⟩
theorem RowI.own (h : RowI lo hi e w v l) : OwnI lo hi w v l := by
  rcases h with ⟨a, rfl, rfl⟩ | ⟨F, h1, h2, h3⟩
  · exact ownI_zcap a
  · exact ⟨F, ⟨h1.own, h2, h1.wr⟩, h3⟩
theorem RowI.is (h : RowI lo hi e w v l) : Is w v l := h.own.is
theorem RowI.mono {lo' hi' : Nat} (h : RowI lo hi e w v l) (h1 : lo' ≤ lo) (h2 : hi ≤ hi') : RowI lo' hi' e w v l := by
  rcases h with h | ⟨F, h1, h2, h3⟩
  · exact .inl h
  · exact .inr ⟨F, h1, h2, fun b hb => by have := h3 b hb; omega⟩
theorem rowI_zcap (lo hi e : Nat) (w : World) (a : Option Addr) : RowI (α := α) lo hi e w (.slice a 0 0) [] := .inl ⟨a, rfl, rfl⟩
theorem rowI_nil (lo hi e : Nat) (w : World) : RowI (α := α) lo hi e w (.slice none 0 0) [] := .inl ⟨none, rfl, rfl⟩
theorem rowF_none (e : Nat) (w : World) : RowF (α := α) [] e w (.slice none 0 0) [] := ⟨[], [], ⟨by simp, .inl ⟨rfl, rfl⟩⟩, ⟨rfl, rfl⟩, rfl, Wr.nil _⟩
theorem op_of_eq {m1 m2 : Sem Value} {K : Value → World → Prop} (h : m1.run P w = m2.run P w) (k : OP P m2 w K) : OP P m1 w K := by
  obtain ⟨v, w', hr, hk⟩ := k; exact ⟨v, w', h.trans hr, hk⟩
/-- what has no room is appended to as nil is -/
theorem append_zcap {t ty : TypeId} {by_ n c : Nat} {x : Addr} {b o : Nat} {xs : List Value} (ht : P.underlying t = some (.slice e)) (he : tyI P e = some (Rep.size α, by_, Rep.agg α)) (hzc : (P.info? e).map (fun i => (i.zero.map (·.cells.size))) = some (some (Rep.size α)))
    (hl : xs.length = n * Rep.size α) (hr : w.rangeAt b o xs) (h0 : 0 < n) (hm : n ≤ maxLen) (hb : n * by_ ≤ 140737488355328) :
    (Builtin.append_ #[t, t] ty #[.slice (some x) 0 0, .slice (some ⟨b, o, none⟩) n c]).run P w = (Builtin.append_ #[t, t] ty #[.slice none 0 0, .slice (some ⟨b, o, none⟩) n c]).run P w := by
  obtain ⟨i, d, hi, hd, hs, hby, hg⟩ := tyI_info he
  simp only [hi, Option.map_some, Option.some.injEq] at hzc
  obtain ⟨z, hz, hzs⟩ := Option.map_eq_some_iff.1 hzc
  rw [maxLen_eq] at hm
  have h1 := run_append_nil (P := P) w t ty e i z ht hi hz ⟨b, o, none⟩ n c xs (by rw [hs]; exact hl) (fun j u hu => by rw [Addr.add_mid]; exact hr j u hu) h0 (by omega) (by rw [hby]; omega)
  have h2 := run_append_grow (P := P) w t ty e i z ht hi hz x 0 0 [] (by simp) (by simp) ⟨b, o, none⟩ n c xs (by rw [hs]; exact hl) (fun j u hu => by rw [Addr.add_mid]; exact hr j u hu) (by omega) (by omega) (growslice_fits (by omega) (by rw [hby]; simpa using hb))
  rw [h1, h2]
  simp
/-- a literal of one element -/
theorem op_build1 {t : TypeId} {by_ : Nat} {u : Value} {x : α} {K : Value → World → Prop} (ht : P.underlying t = some (.slice e)) (he : tyI P e = some (Rep.size α, by_, Rep.agg α)) (hz : zeroOf P e = true) (hsz : Rep.size α ≤ 1000)
    {F : List Nat} (hx : Mine F w u x)
    (k : ∀ w', Ext w w' → Mine (w.heap.size :: F) w' (.slice (some ⟨w.heap.size, 0, none⟩) 1 1) [x] → K (.slice (some ⟨w.heap.size, 0, none⟩) 1 1) w') : OP P (Instr.buildSlice t 1 #[(0, u)]) w K := by
  obtain ⟨⟨cs, hr, rfl⟩, hn, hw⟩ := hx
  have hcl := mkv_cells hr
  have hlen := Rep.len hr
  have hvs : (mkv α cs).cells.size = Rep.size α := by rw [← Array.length_toList, hcl, hlen]
  obtain ⟨i, d, hi, hd, hs, hby, hg⟩ := tyI_info he
  unfold zeroOf at hz
  rw [hi] at hz
  obtain ⟨z, hz⟩ := Option.isSome_iff_exists.1 hz
  have hpos := Rep.pos (α := α)
  refine ⟨_, w.alloc (.cells (mkv α cs).cells e), ?_, k _ (ext_alloc w _) ?_⟩
  · have hne : ¬ Rep.size α = 0 := by omega
    have h24 : ¬ 2 ^ 24 < Rep.size α := by omega
    simp only [Instr.buildSlice, Sem.run_bind, run_underlying ht, Result.andThen_ok, run_sizeOf' he, Nat.one_mul]
    simp [h24, hne, zeroValue, typeInfo, hi, hz, fill_one _ _ _ hvs, newRow]
  · have hx := ext_alloc w (.cells (mkv α cs).cells e)
    have hB : (w.alloc (.cells (mkv α cs).cells e)).heap[w.heap.size]? = some (.cells (mkv α cs).cells e (0, 0)) := heap_alloc_new w _
    have hFlt := Rep.lt hr
    refine ⟨⟨_, ⟨_, 1, F, cs, rfl, Nat.le_refl _, by rw [maxLen_eq]; omega, Cells.single (rep_ext hr hx), .inr ⟨w.heap.size, 0, rfl, rfl, ?_, ?_⟩⟩, rfl⟩, ?_, ?_⟩
    · intro j y hy
      simp only [World.cell?, hB]
      rw [← hcl] at hy
      simpa using hy
    · exact (Array.getElem?_eq_some_iff.1 hB).1
    · exact List.nodup_cons.2 ⟨fun h => by have := hFlt _ h; omega, hn⟩
    · intro c hc
      rcases List.mem_cons.1 hc with rfl | hc
      · exact ⟨_, _, hB⟩
      · exact hw.ext hx c hc
theorem op_build1I {t : TypeId} {by_ : Nat} {u : Value} {x : α} {K : Value → World → Prop} (ht : P.underlying t = some (.slice e)) (he : tyI P e = some (Rep.size α, by_, Rep.agg α)) (hz : zeroOf P e = true) (hsz : Rep.size α ≤ 1000)
    (hx : OwnI lo hi w u x) (hlo : lo ≤ w.heap.size)
    (k : ∀ v w', Ext w w' → OwnI lo w'.heap.size w' v [x] → K v w') : OP P (Instr.buildSlice t 1 #[(0, u)]) w K := by
  obtain ⟨F, hm, hF⟩ := hx
  refine op_build1 ht he hz hsz hm fun w' hxx hm' => k _ w' hxx ⟨_, hm', fun b hb => ⟨?_, hm'.lt b hb⟩⟩
  rcases List.mem_cons.1 hb with rfl | hb
  · exact hlo
  · exact (hF b hb).1
theorem op_build0I {t : TypeId} {by_ : Nat} {K : Value → World → Prop} (ht : P.underlying t = some (.slice e)) (he : tyI P e = some (Rep.size α, by_, Rep.agg α))
    (k : ∀ a w', Ext w w' → RowI (α := α) w'.heap.size w'.heap.size e w' (.slice (some a) 0 0) [] → K (.slice (some a) 0 0) w') : OP P (Instr.buildSlice t 0 #[]) w K :=
  op_build0 (α := α) ht he fun a w' hx hr => k _ w' hx (rowI_zcap _ _ _ _ _)
/-- append(v, x) -/
theorem op_pushG {t ty : TypeId} {by_ : Nat} {u : Value} {x : α} {lo2 hi2 : Nat} {K C : Value → World → Prop} (ht : P.underlying t = some (.slice e)) (he : tyI P e = some (Rep.size α, by_, Rep.agg α)) (hz : zeroOf P e = true)
    (hzc : (P.info? e).map (fun i => (i.zero.map (·.cells.size))) = some (some (Rep.size α))) (hsz : Rep.size α ≤ 1000) (hv : RowI lo hi e w v l) (hlo : lo ≤ w.heap.size) (hx : OwnI lo2 hi2 w u x) (hl : hi ≤ lo2) (hl2 : lo ≤ lo2) (hm : l.length + 1 ≤ maxLen) (hb : (l.length + 1) * by_ ≤ 140737488355328)
    (k : ∀ v' w', ChgI lo hi w w' → RowI lo w'.heap.size e w' v' (l ++ [x]) → K v' w')
    (hC : ∀ s w1, Ext w w1 → OP P (Builtin.append_ #[t, t] ty [v, s].toArray) w1 K → C s w1) : OP P (Instr.buildSlice t 1 #[(0, u)]) w C := by
  obtain ⟨G, hmx, hG⟩ := hx
  refine op_build1 ht he hz hsz hmx fun w1 hx1 hm1 => ?_
  obtain ⟨⟨cs, ⟨a, cap, Fi, xs, rfl, h1, h2, hc, h4⟩, hveq⟩, hn1, hw1⟩ := hm1
  simp only [mkv, Rep.agg, cond_false, List.headD_cons, Value.slice.injEq, List.length_cons, List.length_nil] at hveq
  obtain ⟨rfl, _, rfl⟩ := hveq
  rcases h4 with ⟨h4, _⟩ | ⟨b, o, hab, hFe, hra, hbl⟩
  · simp at h4
  simp only [List.cons.injEq] at hFe
  obtain ⟨_, rfl⟩ := hFe
  have key : ∀ (v : Value) (F : List Nat), RowF F e w v l → F.Nodup → (∀ b ∈ F, lo ≤ b ∧ b < hi) → OP P (Builtin.append_ #[t, t] ty [v, .slice (some ⟨w.heap.size, 0, none⟩) 1 1].toArray) w1 K := by
    intro v F hF hFn hFl
    have hF1 := hF.ext hx1
    have hd : (G ++ F).Nodup := by
      rw [List.nodup_append]
      refine ⟨hmx.nodup, hFn, fun p hp q hq e => ?_⟩
      subst e
      have := hG p hp
      have := hFl p hq
      omega
    refine op_append (m := [x]) ht he hzc hF1 hFn rfl hc (.inr ⟨b, o, hab, hra⟩) (hw1.sub (by simp +contextual)) hd (by simpa using hm) (by simpa using hb) fun v' w' F' hch hfull hr' hn' hs' => ?_
    have hown : ∀ c ∈ v.ownBlock.toList, lo ≤ c ∧ c < hi := fun c hc => by
      obtain ⟨xs, Fi, _, _, rfl, _⟩ := hF
      exact hFl c (by simp only [List.mem_append]; exact .inl hc)
    refine k v' w' ((Ext.toI hx1).trans (hch.toI hown)) (.inr ⟨F', hr', hn', fun c hc => ⟨?_, hr'.lt c hc⟩⟩)
    rcases hs' c hc with h | h | h
    · exact (hFl c h).1
    · have := hG c h; omega
    · have := hx1.size; omega
  refine hC _ w1 hx1 ?_
  rcases hv with ⟨a0, rfl, rfl⟩ | ⟨F, hF, hFn, hFl⟩
  · have kn := key (.slice none 0 0) [] (rowF_none e w) List.nodup_nil (by simp)
    cases a0 with
    | none => exact kn
    | some x0 =>
      simp only [Option.some.injEq, Addr.mk.injEq] at hab
      obtain ⟨rfl, rfl, _⟩ := hab
      exact op_of_eq (append_zcap (α := α) (n := 1) ht he hzc (by simpa using Cells.len hc) hra (by omega) (by rw [maxLen_eq]; omega) (by simpa using hb)) kn
  · exact key v F hF hFn hFl
/-- append(v, x) -/
theorem op_push {t ty : TypeId} {by_ : Nat} {u : Value} {x : α} {lo2 hi2 : Nat} {K : Value → World → Prop} (ht : P.underlying t = some (.slice e)) (he : tyI P e = some (Rep.size α, by_, Rep.agg α)) (hz : zeroOf P e = true)
    (hzc : (P.info? e).map (fun i => (i.zero.map (·.cells.size))) = some (some (Rep.size α))) (hsz : Rep.size α ≤ 1000) (hv : RowI lo hi e w v l) (hlo : lo ≤ w.heap.size) (hx : OwnI lo2 hi2 w u x) (hl : hi ≤ lo2) (hl2 : lo ≤ lo2) (hm : l.length + 1 ≤ maxLen) (hb : (l.length + 1) * by_ ≤ 140737488355328)
    (k : ∀ v' w', ChgI lo hi w w' → RowI lo w'.heap.size e w' v' (l ++ [x]) → K v' w') : OP P (Instr.buildSlice t 1 #[(0, u)]) w fun s w1 => OP P (Builtin.append_ #[t, t] ty [v, s].toArray) w1 K :=
  op_pushG ht he hz hzc hsz hv hlo hx hl hl2 hm hb k fun _ _ _ h => h
theorem op_pushX {t ty : TypeId} {by_ : Nat} {u : Value} {x : α} {lo2 hi2 : Nat} {K : Value → World → Prop} (ht : P.underlying t = some (.slice e)) (he : tyI P e = some (Rep.size α, by_, Rep.agg α)) (hz : zeroOf P e = true)
    (hzc : (P.info? e).map (fun i => (i.zero.map (·.cells.size))) = some (some (Rep.size α))) (hsz : Rep.size α ≤ 1000) (hv : RowI lo hi e w v l) (hlo : lo ≤ w.heap.size) (hx : OwnI lo2 hi2 w u x) (hl : hi ≤ lo2) (hl2 : lo ≤ lo2) (hm : l.length + 1 ≤ maxLen) (hb : (l.length + 1) * by_ ≤ 140737488355328)
    (k : ∀ v' w', ChgI lo hi w w' → RowI lo w'.heap.size e w' v' (l ++ [x]) → K v' w') : OP P (Instr.buildSlice t 1 #[(0, u)]) w fun s w1 => Ext w w1 ∧ OP P (Builtin.append_ #[t, t] ty [v, s].toArray) w1 K :=
  op_pushG ht he hz hzc hsz hv hlo hx hl hl2 hm hb k fun _ _ hx h => ⟨hx, h⟩
/-- append(v, src...) of data without blocks of their own -/
theorem op_appendI [Flat α] {t ty : TypeId} {by_ : Nat} {src : Value} {m : List α} {K : Value → World → Prop} (ht : P.underlying t = some (.slice e)) (he : tyI P e = some (Rep.size α, by_, Rep.agg α))
    (hzc : (P.info? e).map (fun i => (i.zero.map (·.cells.size))) = some (some (Rep.size α))) (hv : RowI lo hi e w v l) (hlo : lo ≤ w.heap.size) (hs : Is w0 src m) (hx : Ext w0 w) (hm : l.length + m.length ≤ maxLen) (hb : (l.length + m.length) * by_ ≤ 140737488355328)
    (k : ∀ v' w', ChgI lo hi w w' → RowI lo w'.heap.size e w' v' (l ++ m) → K v' w') : OP P (Builtin.append_ #[t, t] ty [v, src].toArray) w K := by
  obtain ⟨a, cap, Fi, xs, rfl, h1, h2, hc, h4⟩ := is_list (hs.ext hx)
  have hFi := Cells.flat (xs := xs) hc
  subst hFi
  have key : ∀ (v : Value) (F : List Nat), RowF F e w v l → F.Nodup → (∀ b ∈ F, lo ≤ b ∧ b < hi) → OP P (Builtin.append_ #[t, t] ty [v, .slice a m.length cap].toArray) w K := by
    intro v F hF hFn hFl
    refine op_append (m := m) ht he hzc hF hFn rfl hc (by rcases h4 with h | ⟨b, o, ha, hr, _⟩; exact .inl h; exact .inr ⟨b, o, ha, hr⟩) (Wr.nil _) (by simpa using hFn) hm hb fun v' w' F' hch hfull hr' hn' hs' => ?_
    have hown : ∀ c ∈ v.ownBlock.toList, lo ≤ c ∧ c < hi := fun c hc => by
      obtain ⟨xs, Fi, _, _, rfl, _⟩ := hF
      exact hFl c (by simp only [List.mem_append]; exact .inl hc)
    refine k v' w' (hch.toI hown) (.inr ⟨F', hr', hn', fun c hc => ⟨?_, hr'.lt c hc⟩⟩)
    rcases hs' c hc with h | h | h
    · exact (hFl c h).1
    · simp at h
    · omega
  rcases hv with ⟨a0, rfl, rfl⟩ | ⟨F, hF, hFn, hFl⟩
  · have kn := key (.slice none 0 0) [] (rowF_none e w) List.nodup_nil (by simp)
    cases a0 with
    | none => exact kn
    | some x0 =>
      by_cases hm0 : m = []
      · subst hm0
        refine ⟨.slice (some x0) 0 0, w, ?_, k _ w (ChgI.refl w) (rowI_zcap _ _ _ _ _)⟩
        have hf : (Builtin.firstCells (Rep.size α) 0 (.slice a 0 cap)).run P w = .ok #[] w := by
          cases a with
          | none => rfl
          | some a => simp [Builtin.firstCells, loadCells, loadCellsFrom]
        simp [Builtin.append_, run_underlying ht, run_sizeOf' he, Builtin.lenOf, hf, storeCells]
      · rcases h4 with h | ⟨b, o, rfl, hr, _⟩
        · exact absurd h hm0
        · exact op_of_eq (append_zcap (α := α) ht he hzc (Cells.len hc) hr (List.length_pos_iff.2 hm0) (by simpa using hm) (by simpa using hb)) kn
  · exact key v F hF hFn hFl
/-- s[:k] -/
theorem is_take {a : Option Addr} {cap : Nat} {l : List α} (h : Is w (.slice a l.length cap) l) (k : Nat) (hk : k ≤ l.length) : Is w (.slice a k cap) (l.take k) := by
  obtain ⟨F, cs, ⟨a', cap', Fi, xs, rfl, h1, h2, hc, h4⟩, hv⟩ := h
  simp only [mkv, Rep.agg, cond_false, List.headD_cons, Value.slice.injEq] at hv
  obtain ⟨rfl, _, rfl⟩ := hv
  have e : l = l.take k ++ l.drop k := by simp
  have hlen : (l.take k).length = k := by simp; omega
  rw [e] at hc
  obtain ⟨F1, F2, x1, x2, rfl, rfl, c1, c2⟩ := Cells.split hc
  by_cases hd : l.take k = []
  · refine ⟨[], _, ⟨a, cap, F1, x1, rfl, by rw [hlen]; omega, h2, c1, .inl ⟨hd, rfl⟩⟩, ?_⟩
    rw [hlen]; rfl
  · rcases h4 with ⟨rfl, _⟩ | ⟨b, o, rfl, rfl, hr, hb⟩
    · simp at hd
    · refine ⟨_, _, ⟨some ⟨b, o, none⟩, cap, F1, x1, rfl, by rw [hlen]; omega, h2, c1, .inr ⟨b, o, rfl, rfl, (rangeAt_append hr).1, hb⟩⟩, ?_⟩
      rw [hlen]; rfl
theorem rd_slice_to {t : TypeId} {by_ : Nat} {v : Value} {l : List α} {i : Int} {K : Value → Prop} (ht : P.underlying t = some (.slice e)) (he : tyI P e = some (Rep.size α, by_, Rep.agg α)) (h : Is w0 v l) (h0 : 0 ≤ i) (h1 : i.toNat ≤ l.length)
    (k : ∀ v', Is w0 v' (l.take i.toNat) → K v') : RD P (Instr.sliceAt t v none (some (.int .i64 i)) none) w K := by
  obtain ⟨a, cap, Fi, xs, rfl, hc1, hcm, _, h4⟩ := is_list h
  have hb : ∀ w', (Instr.sliceBounds true l.length cap none (some (.int .i64 i)) none).run P w' = .ok (0, i.toNat, cap) w' := fun w' => by
    have : i ≤ (cap : Int) := by omega
    simp [Instr.sliceBounds, Instr.sliceBound, asIntOf, h0, this]
  refine rd_of (v := .slice a i.toNat cap) (fun w' _ => ?_) (k _ (is_take h i.toNat h1))
  have hz : (if cap = 0 then a else a.map (fun x => x.add (0 * Rep.size α))) = a := by
    split
    · rfl
    · cases a <;> simp [Addr.add_mid, Addr.add]
  simp only [Instr.sliceAt, Instr.slice, Sem.run_bind, run_underlying ht, Result.andThen_ok, hb, run_sizeOf' he]
  simp
  exact fun _ => by cases a <;> simp [Addr.add_mid, Addr.add]
/-- s[i:j] -/
theorem rd_slice_both {t : TypeId} {by_ : Nat} {v : Value} {l : List α} {i j : Int} {K : Value → Prop} (ht : P.underlying t = some (.slice e)) (he : tyI P e = some (Rep.size α, by_, Rep.agg α)) (h : Is w0 v l) (h0 : 0 ≤ i) (h1 : i ≤ j) (h2 : j.toNat ≤ l.length)
    (k : ∀ v', Is w0 v' ((l.take j.toNat).drop i.toNat) → K v') : RD P (Instr.sliceAt t v (some (.int .i64 i)) (some (.int .i64 j)) none) w K := by
  obtain ⟨a, cap, Fi, xs, rfl, hc1, hcm, _, h4⟩ := is_list h
  have hb : ∀ w', (Instr.sliceBounds true l.length cap (some (.int .i64 i)) (some (.int .i64 j)) none).run P w' = .ok (i.toNat, j.toNat, cap) w' := fun w' => by
    have h3 : j ≤ (cap : Int) := by omega
    have h5 : 0 ≤ j := by omega
    simp [Instr.sliceBounds, Instr.sliceBound, asIntOf, h0, h1, h3, h5]
    intro h6
    omega
  have hl : (l.take j.toNat).length = j.toNat := by rw [List.length_take]; omega
  have ht1 : Is w0 (.slice a (l.take j.toNat).length cap) (l.take j.toNat) := by rw [hl]; exact is_take h j.toNat h2
  have hd := is_drop ht1 i.toNat (by omega) (Rep.size α) rfl
  rw [hl] at hd
  refine rd_of (fun w' _ => ?_) (k _ hd)
  simp only [Instr.sliceAt, Instr.slice, Sem.run_bind, run_underlying ht, Result.andThen_ok, hb, run_sizeOf' he]
  simp
/-- at offset o of block b lie the cells of x, which is read in W -/
def AtB {α : Type} [Rep α] (W w : World) (b o : Nat) (x : α) : Prop := ∃ F cs, rep F W cs x ∧ w.rangeAt b o cs
theorem AtB.keep {W w' : World} {b o : Nat} {x : α} (h : AtB W w b o x) (hb : w'.heap[b]? = w.heap[b]?) : AtB W w' b o x := by
  obtain ⟨F, cs, hr, ha⟩ := h; exact ⟨F, cs, hr, rangeAt_keep ha hb⟩
theorem AtB.ext {W : World} {b o : Nat} {x : α} (h : AtB W w b o x) (hx : Ext w w') : AtB W w' b o x := by
  obtain ⟨F, cs, hr, ha⟩ := h; exact ⟨F, cs, hr, rangeAt_ext ha hx⟩
theorem AtB.at {W : World} {b o : Nat} {x : α} (h : AtB W w b o x) (hx : Ext W w) : At w b o x := by
  obtain ⟨F, cs, hr, ha⟩ := h; exact ⟨F, cs, rep_ext hr hx, ha⟩
theorem AtB.fst {β : Type} [Rep β] {W : World} {b o : Nat} {p : α × β} (h : AtB W w b o p) : AtB W w b o p.1 := by
  obtain ⟨F, cs, ⟨F1, F2, c1, c2, rfl, rfl, h1, h2⟩, hr⟩ := h
  exact ⟨F1, c1, h1, (rangeAt_append hr).1⟩
theorem AtB.snd {β : Type} [Rep β] {W : World} {b o : Nat} {p : α × β} (h : AtB W w b o p) : AtB W w b (o + Rep.size α) p.2 := by
  obtain ⟨F, cs, ⟨F1, F2, c1, c2, rfl, rfl, h1, h2⟩, hr⟩ := h
  have := (rangeAt_append hr).2
  rw [Rep.len h1] at this
  exact ⟨F2, c2, h2, this⟩
theorem rd_loadAB {W : World} {t by_ b o : Nat} {x : α} {K : Value → Prop} (ht : tyI P t = some (Rep.size α, by_, Rep.agg α)) (h : AtB W w0 b o x) (hW : Ext W w0) (hx : Ext w0 w) (k : ∀ v, Is W v x → K v) :
    RD P (Instr.loadAt t (.pointer (some ⟨b, o, none⟩))) w K := by
  obtain ⟨F, cs, hr, hc⟩ := h
  exact rd_of (fun w' hx' => run_loadAt' ht (rep_ext hr (hW.trans (hx.trans hx'))) (rangeAt_ext hc (hx.trans hx'))) (k _ ⟨F, cs, hr, rfl⟩)
theorem atB_box {W w1 : World} {g : Nat} {x : α} {t : TypeId} (h : Is W v x) (hV : Var P t w1 g v) (ha : Rep.agg α = true) : AtB W w1 g 0 x := by
  obtain ⟨F, cs, hr, rfl⟩ := h
  obtain ⟨e, cs', _, hB, hv, _⟩ := hV
  have : cs' = cs := by
    simp only [mkv, ha, cond_true, Value.agg.injEq] at hv
    have := congrArg Array.toList hv
    simpa using this.symm
  subst this
  exact ⟨F, _, hr, hB.range⟩
/-- T{} -/
theorem rd_buildZ [RepZ α] {t : TypeId} {fs : Array Field} {K : Value → Prop} (hu : P.underlying t = some (.struct fs)) (hz : zeroL P t = some (RepZ.zc α)) (hf : (fs.toList.all fun f => (P.info? f.type).isSome) = true) (ha : Rep.agg α = true)
    (k : ∀ v, Is w v (RepZ.zv : α) → K v) : RD P (Instr.build t #[]) w K := by
  unfold zeroL at hz
  cases hi : P.info? t with
  | none => simp [hi] at hz
  | some i =>
    simp only [hi] at hz
    obtain ⟨z, hz', hzc⟩ := Option.map_eq_some_iff.1 hz
    have hm : ∀ w', ∃ ps, (fs.mapM fun f => do pure (f.offset, ← sizeOf f.type) : Sem (Array (Nat × Nat))).run P w' = .ok ps w' := by
      intro w'
      have : ∀ l : List Field, (l.all fun f => (P.info? f.type).isSome) = true → ∃ ps, (l.mapM fun f => do pure (f.offset, ← sizeOf f.type) : Sem (List (Nat × Nat))).run P w' = .ok ps w' := by
        intro l
        induction l with
        | nil => intro _; exact ⟨[], by simp⟩
        | cons f l ih =>
          intro h
          simp only [List.all_cons, Bool.and_eq_true] at h
          obtain ⟨j, hj⟩ := Option.isSome_iff_exists.1 h.1
          obtain ⟨ps, hps⟩ := ih h.2
          have hsz : (sizeOf f.type).run P w' = .ok j.size w' := by simp [sizeOf, typeInfo, hj]
          exact ⟨(f.offset, j.size) :: ps, by simp only [List.mapM_cons, Sem.run_bind, hsz, Result.andThen_ok, Sem.run_pure, hps]⟩
      obtain ⟨ps, hps⟩ := this fs.toList hf
      exact ⟨ps.toArray, by rw [Array.mapM_eq_mapM_toList]; simp only [map_eq_pure_bind, Sem.run_bind, hps, Result.andThen_ok, Sem.run_pure]⟩
    refine rd_of (v := mkv α (RepZ.zc α)) (fun w' _ => ?_) (k _ ⟨[], _, RepZ.zr w, rfl⟩)
    obtain ⟨ps, hps⟩ := hm w'
    have e : z.cells = (RepZ.zc α).toArray := by rw [← hzc]
    have hzv : (zeroValue t).run P w' = .ok z w' := by simp [zeroValue, typeInfo, hi, hz']
    simp only [Instr.build, Sem.run_bind, hzv, Result.andThen_ok, run_underlying hu, hps]
    simp [Instr.fill, mkv, ha, e]
end
end Go.Sh
