/-
  Parts of the proof, put together by program.
-/
import Derived.Test.YtjgfldfbljmhhaaGreatPSeenAll1
namespace Go.Sh
set_option linter.unusedVariables false
set_option linter.unusedSimpArgs false
set_option linter.unusedSectionVars false
open Go.RowKit (Below)
open Rep (rep)
theorem fold_set (off : Nat) : ∀ (l : List Value) (k : Nat) (cs : Array Value),
    ((l.zipIdx k).foldl (fun (cs : Array Value) (p : Value × Nat) => cs.setIfInBounds (off + p.2) p.1) cs).size = cs.size ∧
    ∀ i, ((l.zipIdx k).foldl (fun (cs : Array Value) (p : Value × Nat) => cs.setIfInBounds (off + p.2) p.1) cs)[i]? = if off + k ≤ i ∧ i < off + k + l.length ∧ i < cs.size then l[i - (off + k)]? else cs[i]?
  | [], k, cs => by
    refine ⟨rfl, fun i => ?_⟩
    rw [if_neg (by simp; omega)]
    rfl
  | v :: l, k, cs => by
    obtain ⟨h1, h2⟩ := fold_set off l (k + 1) (cs.setIfInBounds (off + k) v)
    simp only [List.zipIdx_cons, List.foldl_cons]
    refine ⟨by rw [h1]; simp, fun i => ?_⟩
    rw [h2]
    simp only [Array.size_setIfInBounds, List.length_cons]
    by_cases hi : i = off + k
    · subst hi
      rw [if_neg (by omega)]
      by_cases hs : off + k < cs.size
      · rw [if_pos (by omega)]; simp [hs]
      · rw [if_neg (by omega), Array.getElem?_eq_none (by rw [Array.size_setIfInBounds]; omega), Array.getElem?_eq_none (by omega)]
    · by_cases hr : off + (k + 1) ≤ i ∧ i < off + (k + 1) + l.length ∧ i < cs.size
      · rw [if_pos hr, if_pos (by omega)]
        have : i - (off + k) = (i - (off + (k + 1))) + 1 := by omega
        rw [this, List.getElem?_cons_succ]
      · rw [if_neg hr, if_neg (by omega), Array.getElem?_setIfInBounds_ne (by omega)]
theorem fill_one (v : Value) (cells : Array Value) (s : Nat) (hv : v.cells.size = s) (hc : cells.size = s) : Instr.fill (fun i => some (i * s, s)) cells [(0, v)] = some v.cells := by
  unfold Instr.fill
  simp only [Nat.zero_mul]
  rw [if_neg (by simp; omega)]
  unfold Instr.fill
  congr 1
  obtain ⟨h1, h2⟩ := fold_set 0 v.cells.toList 0 cells
  have e : v.cells.zipIdx.foldl (fun (cs : Array Value) (x : Value × Nat) => match x with | (c, j) => cs.setIfInBounds (0 + j) c) cells
      = (v.cells.toList.zipIdx 0).foldl (fun (cs : Array Value) (p : Value × Nat) => cs.setIfInBounds (0 + p.2) p.1) cells := by
    rw [← Array.foldl_toList, Array.toList_zipIdx]
  rw [e]
  apply Array.ext_getElem?
  intro i
  rw [h2]
  by_cases hi : i < s
  · rw [if_pos (by simp; omega)]; simp
  · rw [if_neg (by simp; omega), Array.getElem?_eq_none (by omega), Array.getElem?_eq_none (by omega)]
abbrev Up (lo : Nat) (w w' : World) : Prop := ChgI lo w.heap.size w w'
section
variable {w w' w'' : World} {lo hi a b : Nat}
theorem Up.refl (lo : Nat) (w : World) : Up lo w w := ChgI.refl w
theorem ChgI.up (h : ChgI lo hi w w') : Up lo w w' := ⟨h.os, h.tape, h.output, h.size, fun i hi' ho => h.block i hi' (by omega)⟩
theorem Up.step (h : Up lo w w') (k : ChgI a b w' w'') (hl : lo ≤ a) : Up lo w w'' :=
  ⟨k.os.trans h.os, k.tape.trans h.tape, k.output.trans h.output, Nat.le_trans h.size k.size, fun i hi' ho => (k.block i (Nat.lt_of_lt_of_le hi' h.size) (by omega)).trans (h.block i hi' ho)⟩
theorem Up.ext (h : Up lo w w') (k : Ext w' w'') : Up lo w w'' :=
  ⟨k.os.trans h.os, k.tape.trans h.tape, k.output.trans h.output, Nat.le_trans h.size k.size, fun i hi' ho => (k.block i (Nat.lt_of_lt_of_le hi' h.size)).trans (h.block i hi' ho)⟩
end
def RowI {α : Type} [Rep α] (lo hi : Nat) (e : TypeId) (w : World) (v : Value) (l : List α) : Prop := (∃ a, v = .slice a 0 0 ∧ l = []) ∨ ∃ F, RowF F e w v l ∧ F.Nodup ∧ ∀ b ∈ F, lo ≤ b ∧ b < hi
section
variable {P : Program} {w w0 w' : World} {α : Type} [Rep α] {lo hi a b e : Nat} {v : Value} {l : List α}
theorem ownI_zcap (a : Option Addr) : OwnI (α := List α) lo hi w (.slice a 0 0) [] :=
  ⟨[], ⟨⟨_, ⟨a, 0, [], [], rfl, Nat.le_refl _, Nat.zero_le _, ⟨rfl, rfl⟩, .inl ⟨rfl, rfl⟩⟩, rfl⟩, List.nodup_nil, Wr.nil w⟩, by simp⟩
theorem Row.toI (h : Row lo e w v l) : RowI lo w.heap.size e w v l := by
  obtain ⟨F, h1, h2, h3⟩ := h; exact .inr ⟨F, h1, h2, fun b hb => ⟨h3 b hb, h1.lt b hb⟩⟩
theorem RowI.ext (h : RowI lo hi e w v l) (hx : Ext w w') : RowI lo hi e w' v l := by
  rcases h with h | ⟨F, h1, h2, h3⟩
  · exact .inl h
  · exact .inr ⟨F, h1.ext hx, h2, h3⟩
theorem RowI.chg (h : RowI lo hi e w v l) (hc : ChgI a b w w') (hd : hi ≤ a ∨ b ≤ lo) : RowI lo hi e w' v l := by
  rcases h with h | ⟨F, h1, h2, h3⟩
  · exact .inl h
  · exact .inr ⟨F, h1.keep fun c hcm => hc.block c (h1.lt c hcm) (by have := h3 c hcm; omega), h2, h3⟩
theorem RowI.own (h : RowI lo hi e w v l) : OwnI lo hi w v l := by
  rcases h with ⟨a, rfl, rfl⟩ | ⟨F, h1, h2, h3⟩
  · exact ownI_zcap a
  · exact ⟨F, ⟨h1.own, h2, h1.wr⟩, h3⟩
theorem RowI.is (h : RowI lo hi e w v l) : Is w v l := h.own.is
theorem RowI.mono {lo' hi' : Nat} (h : RowI lo hi e w v l) (h1 : lo' ≤ lo) (h2 : hi ≤ hi') : RowI lo' hi' e w v l := by
  rcases h with h | ⟨F, h1, h2, h3⟩
  · exact .inl h
  · exact .inr ⟨F, h1, h2, fun b hb => by have := h3 b hb; omega⟩
theorem rowI_zcap (lo hi e : Nat) (w : World) (a : Option Addr) : RowI (α := α) lo hi e w (.slice a 0 0) [] := .inl ⟨a, rfl, rfl⟩
theorem rowI_nil (lo hi e : Nat) (w : World) : RowI (α := α) lo hi e w (.slice none 0 0) [] := .inl ⟨none, rfl, rfl⟩
theorem rowF_none (e : Nat) (w : World) : RowF (α := α) [] e w (.slice none 0 0) [] := ⟨[], [], ⟨by simp, .inl ⟨rfl, rfl⟩⟩, ⟨rfl, rfl⟩, rfl, Wr.nil _⟩
theorem op_of_eq {m1 m2 : Sem Value} {K : Value → World → Prop} (h : m1.run P w = m2.run P w) (k : OP P m2 w K) : OP P m1 w K := by
  obtain ⟨v, w', hr, hk⟩ := k; exact ⟨v, w', h.trans hr, hk⟩
theorem append_zcap {t ty : TypeId} {by_ n c : Nat} {x : Addr} {b o : Nat} {xs : List Value} (ht : P.underlying t = some (.slice e)) (he : tyI P e = some (Rep.size α, by_, Rep.agg α)) (hzc : (P.info? e).map (fun i => (i.zero.map (·.cells.size))) = some (some (Rep.size α)))
    (hl : xs.length = n * Rep.size α) (hr : w.rangeAt b o xs) (h0 : 0 < n) (hm : n ≤ maxLen) (hb : n * by_ ≤ 140737488355328) :
    (Builtin.append_ #[t, t] ty #[.slice (some x) 0 0, .slice (some ⟨b, o, none⟩) n c]).run P w = (Builtin.append_ #[t, t] ty #[.slice none 0 0, .slice (some ⟨b, o, none⟩) n c]).run P w := by
  obtain ⟨i, d, hi, hd, hs, hby, hg⟩ := tyI_info he
  simp only [hi, Option.map_some, Option.some.injEq] at hzc
  obtain ⟨z, hz, hzs⟩ := Option.map_eq_some_iff.1 hzc
  rw [maxLen_eq] at hm
  have h1 := run_append_nil (P := P) w t ty e i z ht hi hz ⟨b, o, none⟩ n c xs (by rw [hs]; exact hl) (fun j u hu => by rw [Addr.add_mid]; exact hr j u hu) h0 (by omega) (by rw [hby]; omega)
  have h2 := run_append_grow (P := P) w t ty e i z ht hi hz x 0 0 [] (by simp) (by simp) ⟨b, o, none⟩ n c xs (by rw [hs]; exact hl) (fun j u hu => by rw [Addr.add_mid]; exact hr j u hu) (by omega) (by omega) (growslice_fits (by omega) (by rw [hby]; simpa using hb))
  rw [h1, h2]
  simp
theorem op_build1 {t : TypeId} {by_ : Nat} {u : Value} {x : α} {K : Value → World → Prop} (ht : P.underlying t = some (.slice e)) (he : tyI P e = some (Rep.size α, by_, Rep.agg α)) (hz : zeroOf P e = true) (hsz : Rep.size α ≤ 1000)
    {F : List Nat} (hx : Mine F w u x)
    (k : ∀ w', Ext w w' → Mine (w.heap.size :: F) w' (.slice (some ⟨w.heap.size, 0, none⟩) 1 1) [x] → K (.slice (some ⟨w.heap.size, 0, none⟩) 1 1) w') : OP P (Instr.buildSlice t 1 #[(0, u)]) w K := by
  obtain ⟨⟨cs, hr, rfl⟩, hn, hw⟩ := hx
  have hcl := mkv_cells hr
  have hlen := Rep.len hr
  have hvs : (mkv α cs).cells.size = Rep.size α := by rw [← Array.length_toList, hcl, hlen]
  obtain ⟨i, d, hi, hd, hs, hby, hg⟩ := tyI_info he
  unfold zeroOf at hz
  rw [hi] at hz
  obtain ⟨z, hz⟩ := Option.isSome_iff_exists.1 hz
  have hpos := Rep.pos (α := α)
  refine ⟨_, w.alloc (.cells (mkv α cs).cells e), ?_, k _ (ext_alloc w _) ?_⟩
  · have hne : ¬ Rep.size α = 0 := by omega
    have h24 : ¬ 2 ^ 24 < Rep.size α := by omega
    simp only [Instr.buildSlice, Sem.run_bind, run_underlying ht, Result.andThen_ok, run_sizeOf' he, Nat.one_mul]
    simp [h24, hne, zeroValue, typeInfo, hi, hz, fill_one _ _ _ hvs, newRow]
  · have hx := ext_alloc w (.cells (mkv α cs).cells e)
    have hB : (w.alloc (.cells (mkv α cs).cells e)).heap[w.heap.size]? = some (.cells (mkv α cs).cells e (0, 0)) := heap_alloc_new w _
    have hFlt := Rep.lt hr
    refine ⟨⟨_, ⟨_, 1, F, cs, rfl, Nat.le_refl _, by rw [maxLen_eq]; omega, Cells.single (rep_ext hr hx), .inr ⟨w.heap.size, 0, rfl, rfl, ?_, ?_⟩⟩, rfl⟩, ?_, ?_⟩
    · intro j y hy
      simp only [World.cell?, hB]
      rw [← hcl] at hy
      simpa using hy
    · exact (Array.getElem?_eq_some_iff.1 hB).1
    · exact List.nodup_cons.2 ⟨fun h => by have := hFlt _ h; omega, hn⟩
    · intro c hc
      rcases List.mem_cons.1 hc with rfl | hc
      · exact ⟨_, _, hB⟩
      · exact hw.ext hx c hc
theorem op_build1I {t : TypeId} {by_ : Nat} {u : Value} {x : α} {K : Value → World → Prop} (ht : P.underlying t = some (.slice e)) (he : tyI P e = some (Rep.size α, by_, Rep.agg α)) (hz : zeroOf P e = true) (hsz : Rep.size α ≤ 1000)
    (hx : OwnI lo hi w u x) (hlo : lo ≤ w.heap.size)
    (k : ∀ v w', Ext w w' → OwnI lo w'.heap.size w' v [x] → K v w') : OP P (Instr.buildSlice t 1 #[(0, u)]) w K := by
  obtain ⟨F, hm, hF⟩ := hx
  refine op_build1 ht he hz hsz hm fun w' hxx hm' => k _ w' hxx ⟨_, hm', fun b hb => ⟨?_, hm'.lt b hb⟩⟩
  rcases List.mem_cons.1 hb with rfl | hb
  · exact hlo
  · exact (hF b hb).1
theorem op_build0I {t : TypeId} {by_ : Nat} {K : Value → World → Prop} (ht : P.underlying t = some (.slice e)) (he : tyI P e = some (Rep.size α, by_, Rep.agg α))
    (k : ∀ a w', Ext w w' → RowI (α := α) w'.heap.size w'.heap.size e w' (.slice (some a) 0 0) [] → K (.slice (some a) 0 0) w') : OP P (Instr.buildSlice t 0 #[]) w K :=
  op_build0 (α := α) ht he fun a w' hx hr => k _ w' hx (rowI_zcap _ _ _ _ _)
theorem op_pushG {t ty : TypeId} {by_ : Nat} {u : Value} {x : α} {lo2 hi2 : Nat} {K C : Value → World → Prop} (ht : P.underlying t = some (.slice e)) (he : tyI P e = some (Rep.size α, by_, Rep.agg α)) (hz : zeroOf P e = true)
    (hzc : (P.info? e).map (fun i => (i.zero.map (·.cells.size))) = some (some (Rep.size α))) (hsz : Rep.size α ≤ 1000) (hv : RowI lo hi e w v l) (hlo : lo ≤ w.heap.size) (hx : OwnI lo2 hi2 w u x) (hl : hi ≤ lo2) (hl2 : lo ≤ lo2) (hm : l.length + 1 ≤ maxLen) (hb : (l.length + 1) * by_ ≤ 140737488355328)
    (k : ∀ v' w', ChgI lo hi w w' → RowI lo w'.heap.size e w' v' (l ++ [x]) → K v' w')
    (hC : ∀ s w1, Ext w w1 → OP P (Builtin.append_ #[t, t] ty [v, s].toArray) w1 K → C s w1) : OP P (Instr.buildSlice t 1 #[(0, u)]) w C := by
  obtain ⟨G, hmx, hG⟩ := hx
  refine op_build1 ht he hz hsz hmx fun w1 hx1 hm1 => ?_
  obtain ⟨⟨cs, ⟨a, cap, Fi, xs, rfl, h1, h2, hc, h4⟩, hveq⟩, hn1, hw1⟩ := hm1
  simp only [mkv, Rep.agg, cond_false, List.headD_cons, Value.slice.injEq, List.length_cons, List.length_nil] at hveq
  obtain ⟨rfl, _, rfl⟩ := hveq
  rcases h4 with ⟨h4, _⟩ | ⟨b, o, hab, hFe, hra, hbl⟩
  · simp at h4
  simp only [List.cons.injEq] at hFe
  obtain ⟨_, rfl⟩ := hFe
  have key : ∀ (v : Value) (F : List Nat), RowF F e w v l → F.Nodup → (∀ b ∈ F, lo ≤ b ∧ b < hi) → OP P (Builtin.append_ #[t, t] ty [v, .slice (some ⟨w.heap.size, 0, none⟩) 1 1].toArray) w1 K := by
    intro v F hF hFn hFl
    have hF1 := hF.ext hx1
    have hd : (G ++ F).Nodup := by
      rw [List.nodup_append]
      refine ⟨hmx.nodup, hFn, fun p hp q hq e => ?_⟩
      subst e
      have := hG p hp
      have := hFl p hq
      omega
    refine op_append (m := [x]) ht he hzc hF1 hFn rfl hc (.inr ⟨b, o, hab, hra⟩) (hw1.sub (by simp +contextual)) hd (by simpa using hm) (by simpa using hb) fun v' w' F' hch hfull hr' hn' hs' => ?_
    have hown : ∀ c ∈ v.ownBlock.toList, lo ≤ c ∧ c < hi := fun c hc => by
      obtain ⟨xs, Fi, _, _, rfl, _⟩ := hF
      exact hFl c (by simp only [List.mem_append]; exact .inl hc)
    refine k v' w' ((Ext.toI hx1).trans (hch.toI hown)) (.inr ⟨F', hr', hn', fun c hc => ⟨?_, hr'.lt c hc⟩⟩)
    rcases hs' c hc with h | h | h
    · exact (hFl c h).1
    · have := hG c h; omega
    · have := hx1.size; omega
  refine hC _ w1 hx1 ?_
  rcases hv with ⟨a0, rfl, rfl⟩ | ⟨F, hF, hFn, hFl⟩
  · have kn := key (.slice none 0 0) [] (rowF_none e w) List.nodup_nil (by simp)
    cases a0 with
    | none => exact kn
    | some x0 =>
      simp only [Option.some.injEq, Addr.mk.injEq] at hab
      obtain ⟨rfl, rfl, _⟩ := hab
      exact op_of_eq (append_zcap (α := α) (n := 1) ht he hzc (by simpa using Cells.len hc) hra (by omega) (by rw [maxLen_eq]; omega) (by simpa using hb)) kn
  · exact key v F hF hFn hFl
theorem op_push {t ty : TypeId} {by_ : Nat} {u : Value} {x : α} {lo2 hi2 : Nat} {K : Value → World → Prop} (ht : P.underlying t = some (.slice e)) (he : tyI P e = some (Rep.size α, by_, Rep.agg α)) (hz : zeroOf P e = true)
    (hzc : (P.info? e).map (fun i => (i.zero.map (·.cells.size))) = some (some (Rep.size α))) (hsz : Rep.size α ≤ 1000) (hv : RowI lo hi e w v l) (hlo : lo ≤ w.heap.size) (hx : OwnI lo2 hi2 w u x) (hl : hi ≤ lo2) (hl2 : lo ≤ lo2) (hm : l.length + 1 ≤ maxLen) (hb : (l.length + 1) * by_ ≤ 140737488355328)
    (k : ∀ v' w', ChgI lo hi w w' → RowI lo w'.heap.size e w' v' (l ++ [x]) → K v' w') : OP P (Instr.buildSlice t 1 #[(0, u)]) w fun s w1 => OP P (Builtin.append_ #[t, t] ty [v, s].toArray) w1 K :=
  op_pushG ht he hz hzc hsz hv hlo hx hl hl2 hm hb k fun _ _ _ h => h
theorem op_pushX {t ty : TypeId} {by_ : Nat} {u : Value} {x : α} {lo2 hi2 : Nat} {K : Value → World → Prop} (ht : P.underlying t = some (.slice e)) (he : tyI P e = some (Rep.size α, by_, Rep.agg α)) (hz : zeroOf P e = true)
    (hzc : (P.info? e).map (fun i => (i.zero.map (·.cells.size))) = some (some (Rep.size α))) (hsz : Rep.size α ≤ 1000) (hv : RowI lo hi e w v l) (hlo : lo ≤ w.heap.size) (hx : OwnI lo2 hi2 w u x) (hl : hi ≤ lo2) (hl2 : lo ≤ lo2) (hm : l.length + 1 ≤ maxLen) (hb : (l.length + 1) * by_ ≤ 140737488355328)
    (k : ∀ v' w', ChgI lo hi w w' → RowI lo w'.heap.size e w' v' (l ++ [x]) → K v' w') : OP P (Instr.buildSlice t 1 #[(0, u)]) w fun s w1 => Ext w w1 ∧ OP P (Builtin.append_ #[t, t] ty [v, s].toArray) w1 K :=
  op_pushG ht he hz hzc hsz hv hlo hx hl hl2 hm hb k fun _ _ hx h => ⟨hx, h⟩
theorem op_appendI [Flat α] {t ty : TypeId} {by_ : Nat} {src : Value} {m : List α} {K : Value → World → Prop} (ht : P.underlying t = some (.slice e)) (he : tyI P e = some (Rep.size α, by_, Rep.agg α))
    (hzc : (P.info? e).map (fun i => (i.zero.map (·.cells.size))) = some (some (Rep.size α))) (hv : RowI lo hi e w v l) (hlo : lo ≤ w.heap.size) (hs : Is w0 src m) (hx : Ext w0 w) (hm : l.length + m.length ≤ maxLen) (hb : (l.length + m.length) * by_ ≤ 140737488355328)
    (k : ∀ v' w', ChgI lo hi w w' → RowI lo w'.heap.size e w' v' (l ++ m) → K v' w') : OP P (Builtin.append_ #[t, t] ty [v, src].toArray) w K := by
  obtain ⟨a, cap, Fi, xs, rfl, h1, h2, hc, h4⟩ := is_list (hs.ext hx)
  have hFi := Cells.flat (xs := xs) hc
  subst hFi
  have key : ∀ (v : Value) (F : List Nat), RowF F e w v l → F.Nodup → (∀ b ∈ F, lo ≤ b ∧ b < hi) → OP P (Builtin.append_ #[t, t] ty [v, .slice a m.length cap].toArray) w K := by
    intro v F hF hFn hFl
    refine op_append (m := m) ht he hzc hF hFn rfl hc (by rcases h4 with h | ⟨b, o, ha, hr, _⟩; exact .inl h; exact .inr ⟨b, o, ha, hr⟩) (Wr.nil _) (by simpa using hFn) hm hb fun v' w' F' hch hfull hr' hn' hs' => ?_
    have hown : ∀ c ∈ v.ownBlock.toList, lo ≤ c ∧ c < hi := fun c hc => by
      obtain ⟨xs, Fi, _, _, rfl, _⟩ := hF
      exact hFl c (by simp only [List.mem_append]; exact .inl hc)
    refine k v' w' (hch.toI hown) (.inr ⟨F', hr', hn', fun c hc => ⟨?_, hr'.lt c hc⟩⟩)
    rcases hs' c hc with h | h | h
    · exact (hFl c h).1
    · simp at h
    · omega
  rcases hv with ⟨a0, rfl, rfl⟩ | ⟨F, hF, hFn, hFl⟩
  · have kn := key (.slice none 0 0) [] (rowF_none e w) List.nodup_nil (by simp)
    cases a0 with
    | none => exact kn
    | some x0 =>
      by_cases hm0 : m = []
      · subst hm0
        refine ⟨.slice (some x0) 0 0, w, ?_, k _ w (ChgI.refl w) (rowI_zcap _ _ _ _ _)⟩
        have hf : (Builtin.firstCells (Rep.size α) 0 (.slice a 0 cap)).run P w = .ok #[] w := by
          cases a with
          | none => rfl
          | some a => simp [Builtin.firstCells, loadCells, loadCellsFrom]
        simp [Builtin.append_, run_underlying ht, run_sizeOf' he, Builtin.lenOf, hf, storeCells]
      · rcases h4 with h | ⟨b, o, rfl, hr, _⟩
        · exact absurd h hm0
        · exact op_of_eq (append_zcap (α := α) ht he hzc (Cells.len hc) hr (List.length_pos_iff.2 hm0) (by simpa using hm) (by simpa using hb)) kn
  · exact key v F hF hFn hFl
theorem is_take {a : Option Addr} {cap : Nat} {l : List α} (h : Is w (.slice a l.length cap) l) (k : Nat) (hk : k ≤ l.length) : Is w (.slice a k cap) (l.take k) := by
  obtain ⟨F, cs, ⟨a', cap', Fi, xs, rfl, h1, h2, hc, h4⟩, hv⟩ := h
  simp only [mkv, Rep.agg, cond_false, List.headD_cons, Value.slice.injEq] at hv
  obtain ⟨rfl, _, rfl⟩ := hv
  have e : l = l.take k ++ l.drop k := by simp
  have hlen : (l.take k).length = k := by simp; omega
  rw [e] at hc
  obtain ⟨F1, F2, x1, x2, rfl, rfl, c1, c2⟩ := Cells.split hc
  by_cases hd : l.take k = []
  · refine ⟨[], _, ⟨a, cap, F1, x1, rfl, by rw [hlen]; omega, h2, c1, .inl ⟨hd, rfl⟩⟩, ?_⟩
    rw [hlen]; rfl
  · rcases h4 with ⟨rfl, _⟩ | ⟨b, o, rfl, rfl, hr, hb⟩
    · simp at hd
    · refine ⟨_, _, ⟨some ⟨b, o, none⟩, cap, F1, x1, rfl, by rw [hlen]; omega, h2, c1, .inr ⟨b, o, rfl, rfl, (rangeAt_append hr).1, hb⟩⟩, ?_⟩
      rw [hlen]; rfl
theorem rd_slice_to {t : TypeId} {by_ : Nat} {v : Value} {l : List α} {i : Int} {K : Value → Prop} (ht : P.underlying t = some (.slice e)) (he : tyI P e = some (Rep.size α, by_, Rep.agg α)) (h : Is w0 v l) (h0 : 0 ≤ i) (h1 : i.toNat ≤ l.length)
    (k : ∀ v', Is w0 v' (l.take i.toNat) → K v') : RD P (Instr.sliceAt t v none (some (.int .i64 i)) none) w K := by
  obtain ⟨a, cap, Fi, xs, rfl, hc1, hcm, _, h4⟩ := is_list h
  have hb : ∀ w', (Instr.sliceBounds true l.length cap none (some (.int .i64 i)) none).run P w' = .ok (0, i.toNat, cap) w' := fun w' => by
    have : i ≤ (cap : Int) := by omega
    simp [Instr.sliceBounds, Instr.sliceBound, asIntOf, h0, this]
  refine rd_of (v := .slice a i.toNat cap) (fun w' _ => ?_) (k _ (is_take h i.toNat h1))
  have hz : (if cap = 0 then a else a.map (fun x => x.add (0 * Rep.size α))) = a := by
    split
    · rfl
    · cases a <;> simp [Addr.add_mid, Addr.add]
  simp only [Instr.sliceAt, Instr.slice, Sem.run_bind, run_underlying ht, Result.andThen_ok, hb, run_sizeOf' he]
  simp
  exact fun _ => by cases a <;> simp [Addr.add_mid, Addr.add]
theorem rd_slice_both {t : TypeId} {by_ : Nat} {v : Value} {l : List α} {i j : Int} {K : Value → Prop} (ht : P.underlying t = some (.slice e)) (he : tyI P e = some (Rep.size α, by_, Rep.agg α)) (h : Is w0 v l) (h0 : 0 ≤ i) (h1 : i ≤ j) (h2 : j.toNat ≤ l.length)
    (k : ∀ v', Is w0 v' ((l.take j.toNat).drop i.toNat) → K v') : RD P (Instr.sliceAt t v (some (.int .i64 i)) (some (.int .i64 j)) none) w K := by
  obtain ⟨a, cap, Fi, xs, rfl, hc1, hcm, _, h4⟩ := is_list h
  have hb : ∀ w', (Instr.sliceBounds true l.length cap (some (.int .i64 i)) (some (.int .i64 j)) none).run P w' = .ok (i.toNat, j.toNat, cap) w' := fun w' => by
    have h3 : j ≤ (cap : Int) := by omega
    have h5 : 0 ≤ j := by omega
    simp [Instr.sliceBounds, Instr.sliceBound, asIntOf, h0, h1, h3, h5]
    intro h6
    omega
  have hl : (l.take j.toNat).length = j.toNat := by rw [List.length_take]; omega
  have ht1 : Is w0 (.slice a (l.take j.toNat).length cap) (l.take j.toNat) := by rw [hl]; exact is_take h j.toNat h2
  have hd := is_drop ht1 i.toNat (by omega) (Rep.size α) rfl
  rw [hl] at hd
  refine rd_of (fun w' _ => ?_) (k _ hd)
  simp only [Instr.sliceAt, Instr.slice, Sem.run_bind, run_underlying ht, Result.andThen_ok, hb, run_sizeOf' he]
  simp
def AtB {α : Type} [Rep α] (W w : World) (b o : Nat) (x : α) : Prop := ∃ F cs, rep F W cs x ∧ w.rangeAt b o cs
theorem AtB.keep {W w' : World} {b o : Nat} {x : α} (h : AtB W w b o x) (hb : w'.heap[b]? = w.heap[b]?) : AtB W w' b o x := by
  obtain ⟨F, cs, hr, ha⟩ := h; exact ⟨F, cs, hr, rangeAt_keep ha hb⟩
theorem AtB.ext {W : World} {b o : Nat} {x : α} (h : AtB W w b o x) (hx : Ext w w') : AtB W w' b o x := by
  obtain ⟨F, cs, hr, ha⟩ := h; exact ⟨F, cs, hr, rangeAt_ext ha hx⟩
theorem AtB.at {W : World} {b o : Nat} {x : α} (h : AtB W w b o x) (hx : Ext W w) : At w b o x := by
  obtain ⟨F, cs, hr, ha⟩ := h; exact ⟨F, cs, rep_ext hr hx, ha⟩
theorem AtB.fst {β : Type} [Rep β] {W : World} {b o : Nat} {p : α × β} (h : AtB W w b o p) : AtB W w b o p.1 := by
  obtain ⟨F, cs, ⟨F1, F2, c1, c2, rfl, rfl, h1, h2⟩, hr⟩ := h
  exact ⟨F1, c1, h1, (rangeAt_append hr).1⟩
theorem AtB.snd {β : Type} [Rep β] {W : World} {b o : Nat} {p : α × β} (h : AtB W w b o p) : AtB W w b (o + Rep.size α) p.2 := by
  obtain ⟨F, cs, ⟨F1, F2, c1, c2, rfl, rfl, h1, h2⟩, hr⟩ := h
  have := (rangeAt_append hr).2
  rw [Rep.len h1] at this
  exact ⟨F2, c2, h2, this⟩
theorem rd_loadAB {W : World} {t by_ b o : Nat} {x : α} {K : Value → Prop} (ht : tyI P t = some (Rep.size α, by_, Rep.agg α)) (h : AtB W w0 b o x) (hW : Ext W w0) (hx : Ext w0 w) (k : ∀ v, Is W v x → K v) :
    RD P (Instr.loadAt t (.pointer (some ⟨b, o, none⟩))) w K := by
  obtain ⟨F, cs, hr, hc⟩ := h
  exact rd_of (fun w' hx' => run_loadAt' ht (rep_ext hr (hW.trans (hx.trans hx'))) (rangeAt_ext hc (hx.trans hx'))) (k _ ⟨F, cs, hr, rfl⟩)
theorem atB_box {W w1 : World} {g : Nat} {x : α} {t : TypeId} (h : Is W v x) (hV : Var P t w1 g v) (ha : Rep.agg α = true) : AtB W w1 g 0 x := by
  obtain ⟨F, cs, hr, rfl⟩ := h
  obtain ⟨e, cs', _, hB, hv, _⟩ := hV
  have : cs' = cs := by
    simp only [mkv, ha, cond_true, Value.agg.injEq] at hv
    have := congrArg Array.toList hv
    simpa using this.symm
  subst this
  exact ⟨F, _, hr, hB.range⟩
theorem rd_buildZ [RepZ α] {t : TypeId} {fs : Array Field} {K : Value → Prop} (hu : P.underlying t = some (.struct fs)) (hz : zeroL P t = some (RepZ.zc α)) (hf : (fs.toList.all fun f => (P.info? f.type).isSome) = true) (ha : Rep.agg α = true)
    (k : ∀ v, Is w v (RepZ.zv : α) → K v) : RD P (Instr.build t #[]) w K := by
  unfold zeroL at hz
  cases hi : P.info? t with
  | none => simp [hi] at hz
  | some i =>
    simp only [hi] at hz
    obtain ⟨z, hz', hzc⟩ := Option.map_eq_some_iff.1 hz
    have hm : ∀ w', ∃ ps, (fs.mapM fun f => do pure (f.offset, ← sizeOf f.type) : Sem (Array (Nat × Nat))).run P w' = .ok ps w' := by
      intro w'
      have : ∀ l : List Field, (l.all fun f => (P.info? f.type).isSome) = true → ∃ ps, (l.mapM fun f => do pure (f.offset, ← sizeOf f.type) : Sem (List (Nat × Nat))).run P w' = .ok ps w' := by
        intro l
        induction l with
        | nil => intro _; exact ⟨[], by simp⟩
        | cons f l ih =>
          intro h
          simp only [List.all_cons, Bool.and_eq_true] at h
          obtain ⟨j, hj⟩ := Option.isSome_iff_exists.1 h.1
          obtain ⟨ps, hps⟩ := ih h.2
          have hsz : (sizeOf f.type).run P w' = .ok j.size w' := by simp [sizeOf, typeInfo, hj]
          exact ⟨(f.offset, j.size) :: ps, by simp only [List.mapM_cons, Sem.run_bind, hsz, Result.andThen_ok, Sem.run_pure, hps]⟩
      obtain ⟨ps, hps⟩ := this fs.toList hf
      exact ⟨ps.toArray, by rw [Array.mapM_eq_mapM_toList]; simp only [map_eq_pure_bind, Sem.run_bind, hps, Result.andThen_ok, Sem.run_pure]⟩
    refine rd_of (v := mkv α (RepZ.zc α)) (fun w' _ => ?_) (k _ ⟨[], _, RepZ.zr w, rfl⟩)
    obtain ⟨ps, hps⟩ := hm w'
    have e : z.cells = (RepZ.zc α).toArray := by rw [← hzc]
    have hzv : (zeroValue t).run P w' = .ok z w' := by simp [zeroValue, typeInfo, hi, hz']
    simp only [Instr.build, Sem.run_bind, hzv, Result.andThen_ok, run_underlying hu, hps]
    simp [Instr.fill, mkv, ha, e]
end
end Go.Sh
namespace Go.Sh
set_option linter.unusedVariables false
set_option linter.unusedSimpArgs false
set_option linter.unusedSectionVars false
open Go.RowKit (Below)
open Rep (rep)
section
variable {P : Program} {w w0 w' : World} {α β γ : Type} [Rep α] [Rep β]
def OwnS (S : List Nat) (w : World) (v : Value) (x : α) : Prop := ∃ F, Mine F w v x ∧ ∀ b ∈ F, b ∈ S
theorem Mine.toS {F : List Nat} {v : Value} {x : α} (h : Mine F w v x) : OwnS F w v x := ⟨F, h, fun _ h => h⟩
theorem OwnS.mono {S T : List Nat} {v : Value} {x : α} (h : OwnS S w v x) (hs : ∀ b ∈ S, b ∈ T) : OwnS T w v x := by
  obtain ⟨F, hm, hF⟩ := h; exact ⟨F, hm, fun b hb => hs b (hF b hb)⟩
theorem OwnS.is {S : List Nat} {v : Value} {x : α} (h : OwnS S w v x) : Is w v x := by obtain ⟨F, hm, _⟩ := h; exact hm.is
theorem OwnS.ext {S : List Nat} {v : Value} {x : α} (h : OwnS S w v x) (hx : Ext w w') : OwnS S w' v x := by obtain ⟨F, hm, hF⟩ := h; exact ⟨F, hm.ext hx, hF⟩
theorem OwnS.chg {S T : List Nat} {v : Value} {x : α} (h : OwnS S w v x) (hc : Chg T w w') (hd : ∀ b ∈ S, b ∉ T) : OwnS S w' v x := by
  obtain ⟨F, hm, hF⟩ := h; exact ⟨F, hm.keep fun b hb => hc.block b (hm.lt b hb) (hd b (hF b hb)), hF⟩
theorem OwnS.toI {S : List Nat} {v : Value} {x : α} {lo hi : Nat} (h : OwnS S w v x) (hs : ∀ b ∈ S, lo ≤ b ∧ b < hi) : OwnI lo hi w v x := by
  obtain ⟨F, hm, hF⟩ := h; exact ⟨F, hm, fun b hb => hs b (hF b hb)⟩
theorem rd_focus {t e : TypeId} {by_ : Nat} {F : List Nat} {v : Value} {l : List α} {k : Nat} {K : Value → Prop} (ht : P.underlying t = some (.slice e)) (he : tyI P e = some (Rep.size α, by_, Rep.agg α)) (hm : Mine F w v l) (hk : k < l.length)
    (kk : ∀ b o G, Lens (MH v) F w b o G l[k] (fun y => l.set k y) → K (.pointer (some ⟨b, o, none⟩))) : RD P (Instr.indexAt t v (.int .i64 (k : Int))) w K := by
  obtain ⟨b, a, cap, G, hv, hL⟩ := focus hm hk
  refine rd_of (v := .pointer (some ⟨b, a + k * Rep.size α, none⟩)) (fun w' _ => ?_) (kk _ _ _ hL)
  rw [hv, run_indexAt' ht he (by omega) (by omega)]; simp
theorem rd_lens_row {ft by_ b o : Nat} {H : List Nat → World → γ → Prop} {F G : List Nat} {l : List β} {upd : List β → γ} {K : Value → Prop} (hft : tyI P ft = some (1, by_, false)) (hL : Lens H F w b o G l upd)
    (k : ∀ u, Mine G w u l → (∀ c ∈ G, c ∈ F) → (∀ w' G' l', Chg G w w' → Mine G' w' u l' → (∀ c ∈ G', c ∈ G ∨ c ∉ F) → ∃ F', H F' w' (upd l') ∧ ∀ c ∈ F', c ∈ F ∨ c ∈ G') → K u) :
    RD P (Instr.loadAt ft (.pointer (some ⟨b, o, none⟩))) w K := by
  obtain ⟨u, hM, hr, hG, hb⟩ := hL.row
  refine rd_of (fun w' hx' => ?_) (k u hM hG hb)
  have h0 : w'.cell? ⟨b, o, none⟩ = some u := by simpa using (rangeAt_ext hr hx') 0 u rfl
  have hA := run_isAgg hft w'
  simp [Instr.loadAt, Instr.sureAddr, loadVar, hA, h0]
theorem rd_blkV {ft by_ g e o : Nat} {cs : List Value} {v : Value} {K : Value → Prop} (hft : tyI P ft = some (1, by_, false)) (hB : Blk g e w cs) (ho : cs[o]? = some v) (k : K v) :
    RD P (Instr.loadAt ft (.pointer (some ⟨g, o, none⟩))) w K := by
  refine rd_of (fun w' hx' => ?_) k
  have h0 : w'.cell? ⟨g, o, none⟩ = some v := by simpa using (rangeAt_ext hB.range hx') o v ho
  have hA := run_isAgg hft w'
  simp [Instr.loadAt, Instr.sureAddr, loadVar, hA, h0]
theorem op_boxB {t : TypeId} {cs : Array Value} {K : Value → World → Prop} (k : ∀ w', Ext w w' → Blk w.heap.size t w' cs.toList → K (.pointer (some ⟨w.heap.size, 0, none⟩)) w') : OP P (Instr.box t (.agg cs)) w K :=
  ⟨_, w.alloc (.cells cs t), by simp [Instr.box, newVar, newRow, Value.cells], k _ (ext_alloc w _) (by unfold Blk; rw [heap_alloc_new w _])⟩
theorem opu_lensF {t by_ b o : Nat} {F G : List Nat} {v : Value} {y y' : β} {upd : β → α} {u : Value} {K : World → Prop} (ht : tyI P t = some (Rep.size β, by_, Rep.agg β)) (h : Lens (MH v) F w b o G y upd)
    (hu : Mine [] w u y') (k : ∀ w' F', Chg F w w' → Mine F' w' v (upd y') → (∀ c ∈ F', c ∈ F) → K w') : OPU P (Instr.storeAt t (.pointer (some ⟨b, o, none⟩)) u) w K :=
  opu_lens ht h hu (by simp) fun w' hc ⟨F', h1, h2⟩ => k w' F' hc h1 fun c hc => by
    rcases h2 c hc with h | h
    · exact h
    · simp at h
theorem mine_int {x : Int} (h : I64 x) : Mine [] w (.int .i64 x) x := ⟨⟨_, ⟨rfl, rfl, h⟩, rfl⟩, List.nodup_nil, Wr.nil w⟩
theorem mine_str {x : ByteArray} (h : x.size ≤ maxLen) : Mine [] w (.string x) x := ⟨⟨_, ⟨rfl, rfl, h⟩, rfl⟩, List.nodup_nil, Wr.nil w⟩
theorem mine_bool {x : Bool} : Mine [] w (.bool x) x := ⟨⟨_, ⟨rfl, rfl⟩, rfl⟩, List.nodup_nil, Wr.nil w⟩
theorem Chg.sub {F G : List Nat} {a b c : World} (h : Chg F a b) (k : Chg G b c) (hs : ∀ x ∈ G, x ∈ F) : Chg F a c := h.trans (k.mono hs)
theorem rd_max {ts : Array TypeId} {ty : TypeId} {a b : Int} {K : Value → Prop} (k : K (.int .i64 (max a b))) : RD P (Builtin.max_ ts ty [Value.int .i64 a, Value.int .i64 b].toArray) w K := by
  refine rd_of (fun w' _ => ?_) k
  have : (if b > a then b else a) = max a b := by split <;> omega
  simp only [Builtin.max_, List.toList_toArray, List.foldlM_cons, List.foldlM_nil, Builtin.max2, this]
  rfl
theorem rd_min {ts : Array TypeId} {ty : TypeId} {a b : Int} {K : Value → Prop} (k : K (.int .i64 (min a b))) : RD P (Builtin.min_ ts ty [Value.int .i64 a, Value.int .i64 b].toArray) w K := by
  refine rd_of (fun w' _ => ?_) k
  have : (if b < a then b else a) = min a b := by split <;> omega
  simp only [Builtin.min_, List.toList_toArray, List.foldlM_cons, List.foldlM_nil, Builtin.min2, this]
  rfl
theorem mine_of_rep {F : List Nat} {cs : List Value} {l : List β} (hr : rep F w cs l) (hn : F.Nodup) (hw : Wr F w) : ∃ u, cs = [u] ∧ Mine F w u l := by
  have h := hr
  obtain ⟨a, cap, Fi, xs, rfl, _⟩ := h
  exact ⟨_, rfl, ⟨_, hr, rfl⟩, hn, hw⟩
theorem st_fld {t e ft i off by_ by2 : Nat} {F : List Nat} {v u : Value} {l : List α} {k : Nat} {y' : β} {sel : α → β} {g : α → β → α} {K : World → Prop} (ht : P.underlying t = some (.slice e)) (he : tyI P e = some (Rep.size α, by_, Rep.agg α)) (hf : fldB P e i = some off) (hft : tyI P ft = some (Rep.size β, by2, Rep.agg β))
    (L : ∀ {a : α} {G : List Nat} {b o : Nat} {upd : α → List α}, Lens (MH v) F w b o G a upd → ∃ G1, Lens (MH v) F w b (o + off) G1 (sel a) (fun y => upd (g a y))) (hm : Mine F w v l) (hk : k < l.length) (hu : Mine [] w u y')
    (kk : ∀ w' F', Chg F w w' → Mine F' w' v (l.set k (g l[k] y')) → (∀ c ∈ F', c ∈ F) → K w') :
    RD P (Instr.indexAt t v (.int .i64 (k : Int))) w fun p => RD P (Instr.fieldAt e p i) w fun q => OPU P (Instr.storeAt ft q u) w K := by
  refine rd_focus ht he hm hk fun b o G hL => ?_
  refine rd_fld hf ?_
  obtain ⟨G1, hL1⟩ := L hL
  exact opu_lensF (upd := fun y => l.set k (g l[k] y)) hft hL1 hu kk
theorem st_fld2 {t e e2 ft i j off off2 by_ by2 : Nat} {F : List Nat} {v u : Value} {l : List α} {k : Nat} {y' : β} {sel : α → β} {g : α → β → α} {K : World → Prop} (ht : P.underlying t = some (.slice e)) (he : tyI P e = some (Rep.size α, by_, Rep.agg α)) (hf : fldB P e i = some off) (hf2 : fldB P e2 j = some off2) (hft : tyI P ft = some (Rep.size β, by2, Rep.agg β))
    (L : ∀ {a : α} {G : List Nat} {b o : Nat} {upd : α → List α}, Lens (MH v) F w b o G a upd → ∃ G1, Lens (MH v) F w b (o + off + off2) G1 (sel a) (fun y => upd (g a y))) (hm : Mine F w v l) (hk : k < l.length) (hu : Mine [] w u y')
    (kk : ∀ w' F', Chg F w w' → Mine F' w' v (l.set k (g l[k] y')) → (∀ c ∈ F', c ∈ F) → K w') :
    RD P (Instr.indexAt t v (.int .i64 (k : Int))) w fun p => RD P (Instr.fieldAt e p i) w fun q => RD P (Instr.fieldAt e2 q j) w fun q => OPU P (Instr.storeAt ft q u) w K := by
  refine rd_focus ht he hm hk fun b o G hL => ?_
  refine rd_fld hf ?_
  refine rd_fld hf2 ?_
  obtain ⟨G1, hL1⟩ := L hL
  exact opu_lensF (upd := fun y => l.set k (g l[k] y)) hft hL1 hu kk
def RestL (i : Nat) (cur l : List α) : Prop := cur.length = l.length ∧ ∀ j, i ≤ j → cur[j]? = l[j]?
theorem RestL.set {i : Nat} {cur l : List α} (h : RestL i cur l) (x : α) : RestL (i + 1) (cur.set i x) l :=
  ⟨by rw [List.length_set]; exact h.1, fun j hj => by rw [List.getElem?_set_ne (by omega)]; exact h.2 j (by omega)⟩
theorem RestL.set1 {i : Nat} {cur l : List α} (h : RestL (i + 1) cur l) (x : α) : RestL (i + 1) (cur.set i x) l :=
  ⟨by rw [List.length_set]; exact h.1, fun j hj => by rw [List.getElem?_set_ne (by omega)]; exact h.2 j (by omega)⟩
theorem RestL.get {i : Nat} {cur l : List α} (h : RestL i cur l) (hi : i < l.length) : cur[i]'(by rw [h.1]; exact hi) = l[i] := by
  have := h.2 i (Nat.le_refl _)
  rw [List.getElem?_eq_getElem (by rw [h.1]; exact hi), List.getElem?_eq_getElem hi] at this
  exact Option.some.inj this
def KeepF {γ : Type} (f : α → γ) (i : Nat) (cur l : List α) : Prop := RestL (i + 1) cur l ∧ ∃ (h : i < cur.length) (h' : i < l.length), f cur[i] = f l[i]
theorem RestL.keepF {γ : Type} {f : α → γ} {i : Nat} {cur l : List α} (h : RestL i cur l) (hi : i < l.length) : KeepF f i cur l :=
  ⟨⟨h.1, fun j hj => h.2 j (by omega)⟩, by rw [h.1]; exact hi, hi, by rw [h.get hi]⟩
theorem KeepF.set {γ : Type} {f : α → γ} {i : Nat} {cur l : List α} (h : KeepF f i cur l) {x : α} (hx : ∀ h : i < cur.length, f x = f cur[i]) : KeepF f i (cur.set i x) l := by
  obtain ⟨h1, h2, h3, h4⟩ := h
  exact ⟨h1.set1 x, by rw [List.length_set]; exact h2, h3, by rw [List.getElem_set_self, hx h2, h4]⟩
theorem Mine.chgD {α : Type} [Rep α] {F G : List Nat} {w w' : World} {v : Value} {x : α} (h : Mine F w v x) (hc : Chg G w w') (hd : ∀ b ∈ F, b ∉ G) : Mine F w' v x := h.keep fun b hb => hc.block b (h.lt b hb) (hd b hb)
theorem nodup_app {F G : List Nat} (h : (F ++ G).Nodup) : F.Nodup ∧ G.Nodup ∧ ∀ a ∈ F, a ∉ G := by
  rw [List.nodup_append] at h
  exact ⟨h.1, h.2.1, fun a ha hb => h.2.2 a ha a hb rfl⟩
theorem Var.chgI {t g a b : Nat} {v : Value} (h : Var P t w g v) (hc : ChgI a b w w') (hd : g < a ∨ b ≤ g) : Var P t w' g v := h.keep (hc.block g h.lt hd)
end
end Go.Sh
namespace Go.Sh
set_option linter.unusedVariables false
set_option linter.unusedSimpArgs false
open Rep (rep)
section
variable {w : World} {b o : Nat}
theorem mine_prod {α β : Type} [Rep α] [Rep β] {F G : List Nat} {c1 c2 : List Value} {x : α} {y : β} (h1 : rep F w c1 x) (h2 : rep G w c2 y) : rep (F ++ G) w (c1 ++ c2) (x, y) := ⟨F, G, c1, c2, rfl, rfl, h1, h2⟩
theorem mine_cell {α : Type} [Rep α] (ha : Rep.agg α = false) {F : List Nat} {v : Value} {x : α} (h : OwnF F w v x) : rep F w [v] x := by
  obtain ⟨cs, hr, rfl⟩ := h
  have hl := Rep.len hr
  rw [Rep.sz ha] at hl
  obtain ⟨c, rfl⟩ := List.length_eq_one_iff.1 hl
  simpa [mkv, ha] using hr
end
structure DRace where
  g : Int
  a : Int
  b : Int
theorem DRace.ext_iff {x y : DRace} : x = y ↔ (x.g = y.g ∧ x.a = y.a ∧ x.b = y.b) := ⟨fun h => by rw [h]; exact ⟨rfl, rfl, rfl⟩, fun h => by obtain ⟨h0, h1, h2⟩ := h; cases x; cases y; simp only at h0 h1 h2; simp only [h0, h1, h2]⟩
instance : DecidableEq DRace := fun x y => decidable_of_iff (x.g = y.g ∧ x.a = y.a ∧ x.b = y.b) DRace.ext_iff.symm
instance : Rep DRace := Rep.via fun x => (x.g, x.a, x.b)
theorem at_DRace_0 {w : World} {b o : Nat} {x : DRace} (h : At w b o x) : At w b (o + 0) x.g := at_fst (α := Int) (β := Int × Int) (p := (x.g, x.a, x.b)) h
theorem at_DRace_1 {w : World} {b o : Nat} {x : DRace} (h : At w b o x) : At w b (o + 1) x.a := at_fst (α := Int) (β := Int) (p := (x.a, x.b)) (at_snd (α := Int) (β := Int × Int) (p := (x.g, x.a, x.b)) h)
theorem at_DRace_2 {w : World} {b o : Nat} {x : DRace} (h : At w b o x) : At w b (o + 2) x.b := at_snd (α := Int) (β := Int) (p := (x.a, x.b)) (at_snd (α := Int) (β := Int × Int) (p := (x.g, x.a, x.b)) h)
instance : RepZ DRace := ⟨⟨(RepZ.zv : Int), (RepZ.zv : Int), (RepZ.zv : Int)⟩, RepZ.zc (Int × Int × Int), fun w => RepZ.zr (α := Int × Int × Int) w⟩
theorem lens_DRace_0 {γ : Type} {H : List Nat → World → γ → Prop} {F : List Nat} {w : World} {b o : Nat} {G : List Nat} {x : DRace} {upd : DRace → γ} (h : Lens H F w b o G x upd) :
    ∃ G1, Lens H F w b (o + 0) G1 x.g (fun y => upd ⟨y, x.a, x.b⟩) := by
  have h' : Lens H F w b o G (x.g, x.a, x.b) (fun p : Int × Int × Int => upd ⟨p.1, p.2.1, p.2.2⟩) := ⟨h.here, h.sub, fun w' G' y' hc hO hs => h.back w' G' _ hc hO hs⟩
  obtain ⟨G0, h'⟩ := h'.fst
  exact ⟨_, h'⟩
theorem lens_DRace_1 {γ : Type} {H : List Nat → World → γ → Prop} {F : List Nat} {w : World} {b o : Nat} {G : List Nat} {x : DRace} {upd : DRace → γ} (h : Lens H F w b o G x upd) :
    ∃ G1, Lens H F w b (o + 1) G1 x.a (fun y => upd ⟨x.g, y, x.b⟩) := by
  have h' : Lens H F w b o G (x.g, x.a, x.b) (fun p : Int × Int × Int => upd ⟨p.1, p.2.1, p.2.2⟩) := ⟨h.here, h.sub, fun w' G' y' hc hO hs => h.back w' G' _ hc hO hs⟩
  obtain ⟨G0, h'⟩ := h'.snd
  obtain ⟨G1, h'⟩ := h'.fst
  exact ⟨_, h'⟩
theorem lens_DRace_2 {γ : Type} {H : List Nat → World → γ → Prop} {F : List Nat} {w : World} {b o : Nat} {G : List Nat} {x : DRace} {upd : DRace → γ} (h : Lens H F w b o G x upd) :
    ∃ G1, Lens H F w b (o + 2) G1 x.b (fun y => upd ⟨x.g, x.a, y⟩) := by
  have h' : Lens H F w b o G (x.g, x.a, x.b) (fun p : Int × Int × Int => upd ⟨p.1, p.2.1, p.2.2⟩) := ⟨h.here, h.sub, fun w' G' y' hc hO hs => h.back w' G' _ hc hO hs⟩
  obtain ⟨G0, h'⟩ := h'.snd
  obtain ⟨G1, h'⟩ := h'.snd
  exact ⟨_, h'⟩
instance : Flat DRace := ⟨fun h => Flat.flat (α := Int × Int × Int) h⟩
structure DState where
  vars : List Int
  owner : List Int
  stacks : List (List Int)
theorem DState.ext_iff {x y : DState} : x = y ↔ (x.vars = y.vars ∧ x.owner = y.owner ∧ x.stacks = y.stacks) := ⟨fun h => by rw [h]; exact ⟨rfl, rfl, rfl⟩, fun h => by obtain ⟨h0, h1, h2⟩ := h; cases x; cases y; simp only at h0 h1 h2; simp only [h0, h1, h2]⟩
instance : DecidableEq DState := fun x y => decidable_of_iff (x.vars = y.vars ∧ x.owner = y.owner ∧ x.stacks = y.stacks) DState.ext_iff.symm
instance : Rep DState := Rep.via fun x => (x.vars, x.owner, x.stacks)
theorem at_DState_0 {w : World} {b o : Nat} {x : DState} (h : At w b o x) : At w b (o + 0) x.vars := at_fst (α := List Int) (β := (List Int) × (List (List Int))) (p := (x.vars, x.owner, x.stacks)) h
theorem at_DState_1 {w : World} {b o : Nat} {x : DState} (h : At w b o x) : At w b (o + 1) x.owner := at_fst (α := List Int) (β := (List (List Int))) (p := (x.owner, x.stacks)) (at_snd (α := List Int) (β := (List Int) × (List (List Int))) (p := (x.vars, x.owner, x.stacks)) h)
theorem at_DState_2 {w : World} {b o : Nat} {x : DState} (h : At w b o x) : At w b (o + 2) x.stacks := at_snd (α := List Int) (β := (List (List Int))) (p := (x.owner, x.stacks)) (at_snd (α := List Int) (β := (List Int) × (List (List Int))) (p := (x.vars, x.owner, x.stacks)) h)
theorem rep_DState {w : World} {x : DState} {F0 : List Nat} {c0 : List Value} (h0 : rep F0 w c0 x.vars) {F1 : List Nat} {c1 : List Value} (h1 : rep F1 w c1 x.owner) {F2 : List Nat} {c2 : List Value} (h2 : rep F2 w c2 x.stacks) : rep (F0 ++ (F1 ++ F2)) w (c0 ++ (c1 ++ c2)) x := mine_prod h0 (mine_prod h1 (h2))
instance : RepZ DState := ⟨⟨(RepZ.zv : List Int), (RepZ.zv : List Int), (RepZ.zv : List (List Int))⟩, RepZ.zc ((List Int) × (List Int) × (List (List Int))), fun w => RepZ.zr (α := (List Int) × (List Int) × (List (List Int))) w⟩
theorem lens_DState_2 {γ : Type} {H : List Nat → World → γ → Prop} {F : List Nat} {w : World} {b o : Nat} {G : List Nat} {x : DState} {upd : DState → γ} (h : Lens H F w b o G x upd) :
    ∃ G1, Lens H F w b (o + 2) G1 x.stacks (fun y => upd ⟨x.vars, x.owner, y⟩) := by
  have h' : Lens H F w b o G (x.vars, x.owner, x.stacks) (fun p : (List Int) × (List Int) × (List (List Int)) => upd ⟨p.1, p.2.1, p.2.2⟩) := ⟨h.here, h.sub, fun w' G' y' hc hO hs => h.back w' G' _ hc hO hs⟩
  obtain ⟨G0, h'⟩ := h'.snd
  obtain ⟨G1, h'⟩ := h'.snd
  exact ⟨_, h'⟩
theorem inv_DState {w : World} {F : List Nat} {cs : List Value} {x : DState} (h : rep F w cs x) : ∃ F0 c0 F1 c1 F2 c2, F = (F0 ++ (F1 ++ F2)) ∧ cs = (c0 ++ (c1 ++ c2)) ∧ rep F0 w c0 x.vars ∧ rep F1 w c1 x.owner ∧ rep F2 w c2 x.stacks := by
  obtain ⟨F0, G0, c0, d0, rfl, rfl, h0, h⟩ := h
  obtain ⟨F1, G1, c1, d1, rfl, rfl, h1, h⟩ := h
  exact ⟨_, _, _, _, _, _, rfl, rfl, h0, h1, h⟩
section
variable {w : World} {b o : Nat}
theorem is_race {v : Value} {x : DRace} : Is w v x ↔ v = .agg #[.int .i64 x.g, .int .i64 x.a, .int .i64 x.b] ∧ I64 x.g ∧ I64 x.a ∧ I64 x.b := by
  constructor
  · rintro ⟨F, cs, ⟨F1, F2, c1, c2, rfl, rfl, ⟨rfl, rfl, h1⟩, ⟨F3, F4, c3, c4, rfl, rfl, ⟨rfl, rfl, h2⟩, ⟨rfl, rfl, h3⟩⟩⟩, rfl⟩
    exact ⟨rfl, h1, h2, h3⟩
  · rintro ⟨rfl, h1, h2, h3⟩
    exact ⟨[], [.int .i64 x.g, .int .i64 x.a, .int .i64 x.b], ⟨[], [], [.int .i64 x.g], [.int .i64 x.a, .int .i64 x.b], rfl, rfl, ⟨rfl, rfl, h1⟩, [], [], [.int .i64 x.a], [.int .i64 x.b], rfl, rfl, ⟨rfl, rfl, h2⟩, ⟨rfl, rfl, h3⟩⟩, rfl⟩
theorem mine_race {x : DRace} (h1 : I64 x.g) (h2 : I64 x.a) (h3 : I64 x.b) : Mine [] w (.agg #[.int .i64 x.g, .int .i64 x.a, .int .i64 x.b]) x :=
  ⟨⟨[.int .i64 x.g, .int .i64 x.a, .int .i64 x.b], ⟨[], [], [.int .i64 x.g], [.int .i64 x.a, .int .i64 x.b], rfl, rfl, ⟨rfl, rfl, h1⟩, [], [], [.int .i64 x.a], [.int .i64 x.b], rfl, rfl, ⟨rfl, rfl, h2⟩, ⟨rfl, rfl, h3⟩⟩, rfl⟩, List.nodup_nil, Wr.nil w⟩
theorem mine_state {F G H : List Nat} {a b c : Value} {s : DState} (h1 : Mine F w a s.vars) (h2 : Mine G w b s.owner) (h3 : Mine H w c s.stacks) (hn : (F ++ (G ++ H)).Nodup) : Mine (F ++ (G ++ H)) w (.agg #[a, b, c]) s :=
  ⟨⟨[a, b, c], mine_prod (mine_cell rfl h1.own) (mine_prod (mine_cell rfl h2.own) (mine_cell rfl h3.own)), rfl⟩, hn, h1.wr.append (h2.wr.append h3.wr)⟩
end
end Go.Sh
namespace Go.Sh
set_option linter.unusedVariables false
set_option linter.unusedSimpArgs false
open Rep (rep)
section
variable {P : Program} {w w0 : World} {α : Type} [Rep α]
theorem cells_rep [RepZ α] {z : Value} (hz : RepZ.zc α = [z]) (w : World) : ∀ n, Cells [] w (List.replicate n z) (List.replicate n (RepZ.zv : α))
  | 0 => ⟨rfl, rfl⟩
  | n + 1 => ⟨[], [], [z], List.replicate n z, rfl, rfl, hz ▸ RepZ.zr w, cells_rep hz w n⟩
theorem made_one (z : Value) (n : Nat) : (madeCells #[z] n).toList = List.replicate n z := by
  apply List.ext_getElem
  · simp [madeCells]
  · intro i h1 h2
    simp [madeCells, Nat.mod_one]
theorem op_makeZ [RepZ α] {t e : TypeId} {by_ : Nat} {z : Value} {K : Value → World → Prop} {n : Nat} (ht : P.underlying t = some (.slice e)) (he : tyI P e = some (Rep.size α, by_, Rep.agg α)) (h1 : Rep.size α = 1) (hzc : RepZ.zc α = [z]) (hz : zeroL P e = some [z])
    (hb : by_ * n ≤ 281474976710656) (hm : n ≤ 9223372036854775807)
    (k : ∀ w', Ext w w' → RowI w.heap.size w'.heap.size e w' (.slice (some ⟨w.heap.size, 0, none⟩) n n) (List.replicate n (RepZ.zv : α)) → K (.slice (some ⟨w.heap.size, 0, none⟩) n n) w') :
    OP P (Instr.makeSlice t (.int .i64 (n : Int)) (.int .i64 (n : Int))) w K := by
  obtain ⟨i, d, hi, hd, hs, hby, hg⟩ := tyI_info he
  unfold zeroL at hz
  rw [hi] at hz
  obtain ⟨zz, hzz, hcz⟩ := Option.map_eq_some_iff.1 hz
  have hb' : (i.bytes : Int) * (n : Int) ≤ 281474976710656 := by
    have h : ((i.bytes * n : Nat) : Int) ≤ 281474976710656 := by rw [hby]; omega
    rwa [Int.natCast_mul] at h
  have hr := run_make (P := P) w t e i zz ht hi hzz .i64 .i64 n n (by omega) (Int.le_refl _) hb' (by omega)
  simp only [Int.toNat_natCast] at hr
  have hcells : zz.cells = #[z] := by apply Array.ext'; simpa using hcz
  have hlen : n * i.size = n := by rw [hs, h1, Nat.mul_one]
  rw [hcells, hlen] at hr
  refine ⟨_, _, hr, k _ (ext_alloc w _) (.inr ⟨[w.heap.size], ⟨List.replicate n z, [], ⟨?_, .inr ⟨w.heap.size, n, madeCells #[z] n, ?_, Nat.zero_le _, heap_alloc_new w _, by simp, by rw [maxLen_eq]; omega, ?_, ?_⟩⟩, cells_rep hzc _ n, rfl, Wr.nil _⟩, by simp, ?_⟩)⟩
  · simp [h1]
  · simp
  · rw [h1]; simp [madeCells]
  · rw [made_one, List.length_replicate, h1, Nat.mul_one, List.take_of_length_le (by simp)]
  · intro b hb
    simp only [List.mem_cons, List.not_mem_nil, or_false] at hb
    subst hb
    exact ⟨Nat.le_refl _, (Array.getElem?_eq_some_iff.1 (heap_alloc_new w _)).1⟩
theorem rd_build {K : Value → Prop} {t : TypeId} {parts : Array (Nat × Value)} {cells : Array Value} (h : P.built t parts.toList = some cells) (k : K (.agg cells)) : RD P (Instr.build t parts) w K :=
  rd_of (fun w' _ => run_build w' t parts cells h) k
theorem rd_blkS {t by_ g e : Nat} {cs : List Value} {K : Value → Prop} (hB : Blk g e w cs) (ht : tyI P t = some (cs.length, by_, true)) (k : K (.agg cs.toArray)) : RD P (Instr.loadAt t (.pointer (some ⟨g, 0, none⟩))) w K :=
  rd_var ⟨e, cs, by_, hB, rfl, ht⟩ (Ext.refl w) k
theorem rd_blkR {t by_ g e : Nat} {cs : List Value} {K : Value → Prop} (hB : Blk g e w cs) (ht : tyI P t = some (cs.length, by_, true)) (k : K (.agg cs.toArray)) : RD P (loadRes t (.pointer (some ⟨g, 0, none⟩))) w K := by
  obtain ⟨i, d, hi, hd, hs, _, hg⟩ := tyI_info ht
  refine rd_of (fun w' hx' => ?_) k
  have := run_loadAt_mid w' g 0 t cs d (hB.ext hx').range hd hg (by simp [hi, hs])
  simpa [loadRes, asAddr, Instr.loadAt, Instr.sureAddr] using this
theorem opu_blkS {t by_ g e : Nat} {cs : List Value} {us : Array Value} {lo hi : Nat} {x : α} {K : World → Prop} (ht : tyI P t = some (Rep.size α, by_, true)) (ha : Rep.agg α = true) (hB : Blk g e w cs) (hl : cs.length = Rep.size α) (hu : OwnI lo hi w (.agg us) x)
    (k : ∀ w', ChgI g (g + 1) w w' → Blk g e w' us.toList → K w') : OPU P (Instr.storeAt t (.pointer (some ⟨g, 0, none⟩)) (.agg us)) w K := by
  obtain ⟨F, ⟨⟨cs', hr, hv⟩, _⟩, _⟩ := hu
  have hus : us.toList = cs' := by
    simp only [mkv, ha, cond_true, Value.agg.injEq] at hv
    rw [hv]
  have hl' := Rep.len hr
  rw [hv]
  refine opu_blk (by rw [ha]; exact ht) hB hr rfl (by omega) fun w' hc hB' => k w' (hc.toI (by simp)) ?_
  rw [hus]
  rw [List.take_zero, List.nil_append, Nat.zero_add, List.drop_of_length_le (by omega), List.append_nil] at hB'
  exact hB'
theorem opu_blkC {t by_ g e o : Nat} {cs : List Value} {u : Value} {lo hi : Nat} {x : α} {K : World → Prop} (ht : tyI P t = some (1, by_, false)) (h1 : Rep.size α = 1) (ha : Rep.agg α = false) (hB : Blk g e w cs) (ho : o < cs.length) (hu : OwnI lo hi w u x)
    (k : ∀ w', ChgI g (g + 1) w w' → Blk g e w' (cs.set o u) → K w') : OPU P (Instr.storeAt t (.pointer (some ⟨g, o, none⟩)) u) w K := by
  obtain ⟨F, ⟨⟨cs', hr, hv⟩, _⟩, _⟩ := hu
  have hl' := Rep.len hr
  rw [h1] at hl'
  obtain ⟨c, rfl⟩ := List.length_eq_one_iff.1 hl'
  have huc : u = c := by simpa [mkv, ha] using hv
  subst huc
  refine opu_blk (by rw [h1, ha]; exact ht) hB hr hv (by omega) fun w' hc hB' => k w' (hc.toI (by simp)) ?_
  have : cs.set o u = cs.take o ++ [u] ++ cs.drop (o + 1) := by
    rw [List.set_eq_take_append_cons_drop, if_pos ho]; simp
  rw [this]; exact hB'
theorem Blk.chgI {g e a b : Nat} {w' : World} {cs : List Value} (h : Blk g e w cs) (hc : ChgI a b w w') (hd : g < a ∨ b ≤ g) : Blk g e w' cs := h.keep (hc.block g h.lt hd)
theorem ownI_state {a b c : Value} {s : DState} {lo hi l0 h0 l1 h1 l2 h2 : Nat} (m0 : OwnI l0 h0 w a s.vars) (m1 : OwnI l1 h1 w b s.owner) (m2 : OwnI l2 h2 w c s.stacks) (d01 : h0 ≤ l1 ∨ h1 ≤ l0) (d02 : h0 ≤ l2 ∨ h2 ≤ l0) (d12 : h1 ≤ l2 ∨ h2 ≤ l1)
    (b0 : lo ≤ l0 ∧ h0 ≤ hi) (b1 : lo ≤ l1 ∧ h1 ≤ hi) (b2 : lo ≤ l2 ∧ h2 ≤ hi) : OwnI lo hi w (.agg #[a, b, c]) s := by
  obtain ⟨F0, M0, B0⟩ := m0
  obtain ⟨F1, M1, B1⟩ := m1
  obtain ⟨F2, M2, B2⟩ := m2
  refine ⟨F0 ++ (F1 ++ F2), mine_state M0 M1 M2 ?_, fun x hx => ?_⟩
  · rw [List.nodup_append, List.nodup_append]
    refine ⟨M0.nodup, ⟨M1.nodup, M2.nodup, fun p hp q hq e => ?_⟩, fun p hp q hq e => ?_⟩
    · subst e; have := B1 p hp; have := B2 p hq; omega
    · subst e
      have := B0 p hp
      rcases List.mem_append.1 hq with hq | hq
      · have := B1 p hq; omega
      · have := B2 p hq; omega
  · rcases List.mem_append.1 hx with hx | hx
    · have := B0 x hx; omega
    · rcases List.mem_append.1 hx with hx | hx
      · have := B1 x hx; omega
      · have := B2 x hx; omega
end
end Go.Sh
namespace Go.Sh
set_option linter.unusedVariables false
set_option linter.unusedSimpArgs false
set_option linter.unusedSectionVars false
open Rep (rep)
def RowG {α : Type} [Rep α] (F : List Nat) (e : TypeId) (w : World) (v : Value) (l : List α) : Prop := (∃ a, v = .slice a 0 0 ∧ l = [] ∧ F = []) ∨ RowF F e w v l
section
variable {P : Program} {w w0 w' : World} {α β γ : Type} [Rep α] [Rep β] {e lo hi : Nat} {v : Value} {l : List α} {F : List Nat}
theorem RowG.lt (h : RowG F e w v l) : ∀ b ∈ F, b < w.heap.size := by
  rcases h with ⟨a, _, _, rfl⟩ | h
  · simp
  · exact h.lt
theorem RowG.keep (h : RowG F e w v l) (hk : ∀ b ∈ F, w'.heap[b]? = w.heap[b]?) : RowG F e w' v l := by
  rcases h with h | h
  · exact .inl h
  · exact .inr (h.keep hk)
theorem RowG.own (h : RowG F e w v l) : OwnF F w v l := by
  rcases h with ⟨a, rfl, rfl, rfl⟩ | h
  · exact ⟨_, ⟨a, 0, [], [], rfl, Nat.le_refl _, Nat.zero_le _, ⟨rfl, rfl⟩, .inl ⟨rfl, rfl⟩⟩, rfl⟩
  · exact h.own
theorem RowG.wr (h : RowG F e w v l) : Wr F w := by
  rcases h with ⟨a, _, _, rfl⟩ | h
  · exact Wr.nil w
  · exact h.wr
theorem RowG.one (h : RowG F e w v l) : v.oneCell' = true := by
  obtain ⟨cs, ⟨a, cap, Fi, xs, rfl, _⟩, rfl⟩ := h.own
  rfl
theorem rowI_iff : RowI lo hi e w v l ↔ ∃ F, RowG F e w v l ∧ F.Nodup ∧ ∀ b ∈ F, lo ≤ b ∧ b < hi := by
  constructor
  · rintro (⟨a, h1, h2⟩ | ⟨F, h1, h2, h3⟩)
    · exact ⟨[], .inl ⟨a, h1, h2, rfl⟩, List.nodup_nil, by simp⟩
    · exact ⟨F, .inr h1, h2, h3⟩
  · rintro ⟨F, (⟨a, h1, h2, _⟩ | h1), h2', h3⟩
    · exact .inl ⟨a, h1, h2⟩
    · exact .inr ⟨F, h1, h2', h3⟩
end
structure RV (α : Type) (e : TypeId) where
  v : Value
  l : List α
instance {α : Type} [Rep α] {e : TypeId} : Rep (RV α e) where
  size := 1
  agg := false
  rep F w cs x := cs = [x.v] ∧ RowG F e w x.v x.l
  pos := by decide
  sz _ := rfl
  len := by rintro _ _ _ _ ⟨rfl, _⟩; rfl
  one := by rintro _ _ _ _ ⟨rfl, h⟩ v hv; simp at hv; subst hv; exact h.one
  keep := by rintro _ _ _ _ _ ⟨rfl, h⟩ hk; exact ⟨rfl, h.keep hk⟩
  lt := by rintro _ _ _ _ ⟨rfl, h⟩; exact h.lt
section
variable {P : Program} {w w0 w' : World} {α β γ : Type} [Rep α] [Rep β] {e lo hi : Nat} {v : Value} {l : List α} {F : List Nat}
theorem ownI_rv (h : RowI lo hi e w v l) : OwnI lo hi w v (⟨v, l⟩ : RV α e) := by
  obtain ⟨F, h1, h2, h3⟩ := rowI_iff.1 h
  exact ⟨F, ⟨⟨[v], ⟨rfl, h1⟩, rfl⟩, h2, h1.wr⟩, h3⟩
theorem is_rv {x : RV α e} (h : Is w v x) : v = x.v ∧ Is w x.v x.l := by
  obtain ⟨F, cs, ⟨rfl, h1⟩, hv⟩ := h
  obtain ⟨cs, hr, hv'⟩ := h1.own
  exact ⟨hv, F, cs, hr, hv'⟩
theorem rd_loadV {t by_ b o : Nat} {x : RV α e} {K : Value → Prop} (ht : tyI P t = some (1, by_, false)) (h : At w0 b o x) (hx : Ext w0 w) (k : K x.v) : RD P (Instr.loadAt t (.pointer (some ⟨b, o, none⟩))) w K :=
  rd_load (α := RV α e) ht h hx fun v hv => by rw [(is_rv hv).1]; exact k
theorem focusG {k : Nat} (hm : RowG F e w v l) (hn : F.Nodup) (hk : k < l.length) :
    ∃ b a cap G, v = .slice (some ⟨b, a, none⟩) l.length cap ∧ Lens (fun F w l => RowG F e w v l ∧ F.Nodup) F w b (a + k * Rep.size α) G l[k] (fun y => l.set k y) := by
  rcases hm with ⟨a, _, rfl, _⟩ | hm
  · simp at hk
  have hwF := hm.wr
  obtain ⟨xs, Fi, ho, hc, rfl, hwi⟩ := hm
  rcases ho.2 with ⟨_, h0⟩ | ⟨g, cap, cur, rfl, hb0, hg, h1, h2, h3, h4⟩
  · omega
  simp only [Value.ownBlock, Option.toList_some, List.cons_append, List.nil_append] at hn hwF ⊢
  have hlx := ho.1
  have e0 : l = l.take k ++ (l[k] :: l.drop (k + 1)) := by simp
  have hc' := hc
  rw [e0] at hc'
  obtain ⟨F1, F2', x1, x2', hFi, hxs, c1, c2'⟩ := Cells.split hc'
  obtain ⟨G, F2, cg, x2, rfl, rfl, hgr, c2⟩ := c2'
  subst hFi hxs
  have hl1 : x1.length = k * Rep.size α := by rw [Cells.len c1, List.length_take]; congr 1; omega
  have hlg := Rep.len hgr
  have hn' := hn
  rw [List.nodup_cons] at hn
  obtain ⟨hbn, hn⟩ := hn
  rw [List.nodup_append] at hn
  obtain ⟨hn1, hn2, hn3⟩ := hn
  rw [List.nodup_append] at hn2
  obtain ⟨hnG, hnF2, hn4⟩ := hn2
  have hrange : w.rangeAt g 0 (x1 ++ (cg ++ x2)) := by
    intro j u hu
    rw [← h4, List.getElem?_take] at hu
    split at hu
    · simpa [World.cell?, hg] using hu
    · cases hu
  obtain ⟨r1, r2⟩ := rangeAt_append hrange
  obtain ⟨rg, r3⟩ := rangeAt_append r2
  rw [hl1] at rg r3
  refine ⟨g, 0, cap, G, rfl, ⟨cg, hgr, rg, hnG, hwi.sub (by simp +contextual), fun h => hbn (by simp [h]), cur, e, hg⟩, by simp +contextual, fun w' G' y' hch hO hs => ?_⟩
  obtain ⟨cg', hg', rg', hnG', hwG', hbG', hwb'⟩ := hO
  have hlg' := Rep.len hg'
  obtain ⟨cur', hcur', hsame⟩ := hch.cell cur e hg
  have keep1 : ∀ c ∈ F1, w'.heap[c]? = w.heap[c]? := fun c hc1 => by
    refine hch.chg.block c (Cells.lt c1 c hc1) fun hm => ?_
    rcases List.mem_cons.1 hm with rfl | hm
    · exact hbn (by simp [hc1])
    · exact hn3 c hc1 c (by simp [hm]) rfl
  have keep2 : ∀ c ∈ F2, w'.heap[c]? = w.heap[c]? := fun c hc1 => by
    refine hch.chg.block c (Cells.lt c2 c hc1) fun hm => ?_
    rcases List.mem_cons.1 hm with rfl | hm
    · exact hbn (by simp [hc1])
    · exact hn4 c hm c hc1 rfl
  have hfit : k * Rep.size α + Rep.size α ≤ cur.size := by
    rw [h3]
    have := Nat.mul_le_mul_right (Rep.size α) (show k + 1 ≤ cap by omega)
    rw [Nat.add_mul, Nat.one_mul] at this
    exact this
  have hcell' : ∀ j, j < cg'.length → cur'[0 + k * Rep.size α + j]? = cg'[j]? := by
    intro j hj
    have := rg' j cg'[j] (by simp [hj])
    simpa [World.cell?, hcur', hj] using this
  have hpos := Rep.pos (α := α)
  have hsz' : cur'.size = cur.size := by
    rcases Nat.lt_trichotomy cur'.size cur.size with h | h | h
    · exfalso
      rcases Nat.lt_or_ge cur'.size (k * Rep.size α + Rep.size α) with h' | h'
      · have := hcell' (Rep.size α - 1) (by omega)
        rw [List.getElem?_eq_getElem (by omega)] at this
        have := (Array.getElem?_eq_some_iff.1 this).1
        omega
      · have := hsame cur'.size (.inr (by omega))
        rw [Array.getElem?_eq_none (Nat.le_refl _), Array.getElem?_eq_getElem h] at this
        cases this
    · exact h
    · exfalso
      have := hsame cur.size (.inr (by omega))
      rw [Array.getElem?_eq_none (Nat.le_refl _), Array.getElem?_eq_getElem h] at this
      cases this
  have hlset : (l.set k y').length = l.length := by simp
  refine ⟨g :: (F1 ++ (G' ++ F2)), ⟨.inr ⟨x1 ++ (cg' ++ x2), F1 ++ (G' ++ F2), ⟨?_, .inr ⟨g, cap, cur', by rw [hlset], hb0, hcur', by rw [hlset]; exact h1, h2, by rw [hsz']; exact h3, ?_⟩⟩, ?_, rfl, ?_⟩, nodup_mid hn' hnG' hs⟩, ?_⟩
  · rw [hlset]
    simp only [List.length_append] at hlx ⊢
    omega
  · rw [hlset]
    apply List.ext_getElem?
    intro j
    have hjx : (cur.toList.take (l.length * Rep.size α))[j]? = (x1 ++ (cg ++ x2))[j]? := by rw [h4]
    rcases Nat.lt_or_ge j (l.length * Rep.size α) with hj | hj
    · rw [List.getElem?_take, if_pos hj] at hjx ⊢
      rcases Nat.lt_or_ge j (k * Rep.size α) with h' | h'
      · rw [Array.getElem?_toList, hsame j (.inl (by omega)), ← Array.getElem?_toList, hjx, List.getElem?_append_left (by omega), List.getElem?_append_left (by omega)]
      · rcases Nat.lt_or_ge j (k * Rep.size α + Rep.size α) with h'' | h''
        · rw [Array.getElem?_toList, List.getElem?_append_right (by omega), List.getElem?_append_left (by omega), hl1, ← hcell' (j - k * Rep.size α) (by omega)]
          congr 1
          omega
        · rw [Array.getElem?_toList, hsame j (.inr (by omega)), ← Array.getElem?_toList, hjx, List.getElem?_append_right (by omega), List.getElem?_append_right (by omega), List.getElem?_append_right (by omega), List.getElem?_append_right (by omega), hlg, hlg']
    · rw [List.getElem?_take, if_neg (by omega), List.getElem?_eq_none]
      simp only [List.length_append] at hlx ⊢
      omega
  · have : l.set k y' = l.take k ++ (y' :: l.drop (k + 1)) := by rw [List.set_eq_take_append_cons_drop]; simp [hk]
    rw [this]
    exact Cells.append (Cells.keep c1 keep1) ⟨G', F2, cg', x2, rfl, rfl, hg', Cells.keep c2 keep2⟩
  · exact ((hwi.sub (by simp +contextual)).keep keep1).append (hwG'.append ((hwi.sub (by simp +contextual)).keep keep2))
  · intro c hcm
    rcases List.mem_cons.1 hcm with rfl | hcm
    · exact .inl (by simp)
    · rcases List.mem_append.1 hcm with hcm | hcm
      · exact .inl (by simp [hcm])
      · rcases List.mem_append.1 hcm with hcm | hcm
        · exact .inr hcm
        · exact .inl (by simp [hcm])
theorem Lens.elemV {H : List Nat → World → γ → Prop} {S : List Nat} {b o : Nat} {G : List Nat} {x : RV β e} {upd : RV β e → γ} (h : Lens H S w b o G x upd) {k : Nat} (hk : k < x.l.length) :
    ∃ b2 a cap G2, x.v = .slice (some ⟨b2, a, none⟩) x.l.length cap ∧ (∀ c ∈ b2 :: G2, c ∈ G) ∧ Lens H S w b2 (a + k * Rep.size β) G2 x.l[k] (fun y => upd ⟨x.v, x.l.set k y⟩) := by
  obtain ⟨⟨cs, ⟨rfl, hrow⟩, hr, hn, hw, hb, hwb⟩, hsub, hback⟩ := h
  obtain ⟨b2, a, cap, G2, hu, hL⟩ := focusG hrow hn hk
  have hG : ∀ c ∈ G, c ∈ S := fun c hc => hsub c (by simp [hc])
  refine ⟨b2, a, cap, G2, hu, hL.sub, hL.here, fun c hc => hG c (hL.sub c hc), fun w' G' y' hch hO hs => ?_⟩
  obtain ⟨F1, ⟨hR1, hN1⟩, hF1⟩ := hL.back w' G' y' hch hO fun c hc => by
    rcases hs c hc with h | h
    · exact .inl h
    · exact .inr fun e => h (hG c e)
  have hchG : Chg G w w' := hch.chg.mono hL.sub
  have hbl : b < w.heap.size := by obtain ⟨c, e, h⟩ := hwb; exact (Array.getElem?_eq_some_iff.1 h).1
  have hbk : w'.heap[b]? = w.heap[b]? := hchG.block b hbl hb
  have hs1 : ∀ c ∈ F1, c ∈ G ∨ c ∉ S := fun c hc => by
    rcases hF1 c hc with h | h
    · exact .inl h
    · rcases hs c h with h | h
      · exact .inl (hL.sub c (by simp [h]))
      · exact .inr h
  have hbF1 : b ∉ F1 := fun hm => by
    rcases hs1 b hm with h | h
    · exact hb h
    · exact h (hsub b (by simp))
  obtain ⟨F', hM', hF'⟩ := hback w' F1 ⟨x.v, x.l.set k y'⟩ ⟨hchG.mono (by simp +contextual), fun c e hc => ⟨c, by rw [hbk]; exact hc, fun _ _ => rfl⟩⟩
    ⟨[x.v], ⟨rfl, hR1⟩, rangeAt_keep hr hbk, hN1, hR1.wr, hbF1, by obtain ⟨c, e, h⟩ := hwb; exact ⟨c, e, by rw [hbk]; exact h⟩⟩ hs1
  refine ⟨F', hM', fun c hc => ?_⟩
  rcases hF' c hc with h | h
  · exact .inl h
  · rcases hF1 c h with h | h
    · exact .inl (hG c h)
    · exact .inr h
theorem rd_elemV {t te : TypeId} {by_ : Nat} {H : List Nat → World → γ → Prop} {S : List Nat} {b o : Nat} {G : List Nat} {x : RV β e} {upd : RV β e → γ} {k : Nat} {K : Value → Prop} (ht : P.underlying t = some (.slice te)) (he : tyI P te = some (Rep.size β, by_, Rep.agg β)) (h : Lens H S w b o G x upd) (hk : k < x.l.length)
    (kk : ∀ b2 o2 G2, Lens H S w b2 o2 G2 x.l[k] (fun y => upd ⟨x.v, x.l.set k y⟩) → K (.pointer (some ⟨b2, o2, none⟩))) : RD P (Instr.indexAt t x.v (.int .i64 (k : Int))) w K := by
  obtain ⟨b2, a, cap, G2, hv, _, hL⟩ := h.elemV hk
  refine rd_of (v := .pointer (some ⟨b2, a + k * Rep.size β, none⟩)) (fun w' _ => ?_) (kk _ _ _ hL)
  rw [hv, run_indexAt' ht he (by omega) (by omega)]; simp
instance : RepZ (RV α e) := ⟨⟨.slice none 0 0, []⟩, [.slice none 0 0], fun _ => ⟨rfl, .inl ⟨none, rfl, rfl, rfl⟩⟩⟩
end
end Go.Sh
namespace Go.Sh
set_option linter.unusedVariables false
set_option linter.unusedSimpArgs false
set_option linter.unusedSectionVars false
open Rep (rep)
structure Raw where
  v : Value
instance : Rep Raw where
  size := 1
  agg := false
  rep F _ cs x := F = [] ∧ cs = [x.v] ∧ x.v.oneCell' = true
  pos := by decide
  sz _ := rfl
  len := by rintro _ _ _ _ ⟨_, rfl, _⟩; rfl
  one := by rintro _ _ _ _ ⟨_, rfl, h⟩ v hv; simp at hv; subst hv; exact h
  keep := by rintro _ _ _ _ _ h _; exact h
  lt := by rintro _ _ _ _ ⟨rfl, _⟩ b hb; cases hb
section
variable {P : Program} {w w0 w' w1 : World} {α β γ : Type} [Rep α] [Rep β] {e lo hi : Nat} {v : Value} {F G S : List Nat} {b o g : Nat}
theorem ChgAt.ext_left {n : Nat} (hx : Ext w w1) (h : ChgAt b o n G w1 w') : ChgAt b o n G w w' :=
  ⟨(hx.chg _).trans h.chg, fun c e hc => h.cell c e (by rw [hx.heap (Array.getElem?_eq_some_iff.1 hc).1]; exact hc)⟩
theorem OAt.ext {x : α} (h : OAt G w b o x) (hx : Ext w w1) : OAt G w1 b o x := h.keep fun c hc => hx.heap (h.lts c hc)
theorem Lens.ext {H : List Nat → World → γ → Prop} {y : β} {upd : β → γ} (h : Lens H S w b o G y upd) (hx : Ext w w1) : Lens H S w1 b o G y upd :=
  ⟨h.here.ext hx, h.sub, fun w' G' y' hch hO hs => h.back w' G' y' (hch.ext_left hx) hO hs⟩
theorem rd_cell {ft by_ : Nat} {u : Value} {K : Value → Prop} (hft : tyI P ft = some (1, by_, false)) (hr : w.rangeAt b o [u]) (k : K u) : RD P (Instr.loadAt ft (.pointer (some ⟨b, o, none⟩))) w K := by
  refine rd_of (fun w' hx' => ?_) k
  have h0 : w'.cell? ⟨b, o, none⟩ = some u := by simpa using (rangeAt_ext hr hx') 0 u rfl
  have hA := run_isAgg hft w'
  simp [Instr.loadAt, Instr.sureAddr, loadVar, hA, h0]
theorem opu_cell {t by_ : Nat} {u old : Value} {K : World → Prop} (ht : tyI P t = some (1, by_, false)) (hw : ∃ c e, w.heap[b]? = some (.cells c e (0, 0))) (hr : w.rangeAt b o [old]) (ho : old.oneCell' = true) (hu : u.oneCell' = true)
    (k : ∀ w', ChgAt b o 1 [] w w' → w'.rangeAt b o [u] → K w') : OPU P (Instr.storeAt t (.pointer (some ⟨b, o, none⟩)) u) w K := by
  refine opu_at (β := Raw) (G := []) (y := ⟨old⟩) (y' := ⟨u⟩) (G' := []) ht ⟨[old], ⟨rfl, rfl, ho⟩, hr, List.nodup_nil, Wr.nil w, by simp, hw⟩ ⟨[u], ⟨rfl, rfl, hu⟩, rfl⟩ List.nodup_nil (Wr.nil w) (by simp) fun w' hc hO => k w' hc ?_
  obtain ⟨cs, ⟨_, rfl, _⟩, hr', _⟩ := hO
  exact hr'
theorem opu_varL {t by_ : Nat} {y y' : β} {upd : β → α} {u : Value} {K : World → Prop} (ht : tyI P t = some (Rep.size β, by_, Rep.agg β)) (hL : Lens (VH g) (g :: F) w b o G y upd) (hF : ∀ b ∈ F, lo ≤ b ∧ b < hi) (hg : hi ≤ g) (hlo : lo ≤ g) (hu : Mine [] w u y')
    (k : ∀ w', ChgI lo (g + 1) w w' → VarI lo hi w' g (upd y') → K w') : OPU P (Instr.storeAt t (.pointer (some ⟨b, o, none⟩)) u) w K := by
  refine opu_lens ht hL hu (by simp) fun w' hc ⟨F', h1, h2⟩ => k w' (hc.toI fun c hcm => ?_) ⟨F', h1, fun c hcm => ?_⟩
  · rcases List.mem_cons.1 hcm with rfl | hcm
    · omega
    · have := hF c hcm; omega
  · rcases h2 c hcm with h | h
    · rcases List.mem_cons.1 h with rfl | h
      · obtain ⟨_, _, _, _, _, hn, _⟩ := h1; exact absurd hcm hn
      · exact hF c h
    · simp at h
theorem opu_varM {t by_ : Nat} {y y' : β} {upd : β → α} {u : Value} {K : World → Prop} (ht : tyI P t = some (Rep.size β, by_, Rep.agg β)) (hL : Lens (VH g) (g :: F) w b o G y upd) (hF : ∀ b ∈ F, lo ≤ b ∧ b < hi) (hg : lo ≤ g ∧ g < hi) (hu : Mine [] w u y')
    (k : ∀ w', ChgI lo hi w w' → VarI lo hi w' g (upd y') → K w') : OPU P (Instr.storeAt t (.pointer (some ⟨b, o, none⟩)) u) w K := by
  refine opu_lens ht hL hu (by simp) fun w' hc ⟨F', h1, h2⟩ => k w' (hc.toI fun c hcm => ?_) ⟨F', h1, fun c hcm => ?_⟩
  · rcases List.mem_cons.1 hcm with rfl | hcm
    · exact hg
    · exact hF c hcm
  · rcases h2 c hcm with h | h
    · rcases List.mem_cons.1 h with rfl | h
      · obtain ⟨_, _, _, _, _, hn, _⟩ := h1; exact absurd hcm hn
      · exact hF c h
    · simp at h
theorem VarI.mono {lo' hi' : Nat} {x : α} (h : VarI lo hi w g x) (h1 : lo' ≤ lo) (h2 : hi ≤ hi') : VarI lo' hi' w g x := by
  obtain ⟨F, h, hF⟩ := h; exact ⟨F, h, fun b hb => by have := hF b hb; omega⟩
theorem cells_er : ∀ {l : List (RV α e)} {F : List Nat} {xs : List Value}, Cells F w xs l → Cells F w xs (l.map RV.l)
  | [], _, _, h => h
  | x :: l, _, _, ⟨F1, F2, c1, c2, hF, h, ⟨hc, h1⟩, h2⟩ => by
    obtain ⟨cs, hr, hv⟩ := h1.own
    have : cs = [x.v] := by
      obtain ⟨a, cap, Fi, xs, rfl, _⟩ := hr
      rw [hv]; rfl
    subst this
    exact ⟨F1, F2, c1, c2, hF, h, by rw [hc]; exact hr, cells_er h2⟩
theorem rep_er {e2 : TypeId} {cs : List Value} {x : RV (RV α e) e2} (h : rep F w cs x) : rep F w cs (x.l.map RV.l) := by
  obtain ⟨rfl, h⟩ := h
  obtain ⟨cs, ⟨a, cap, Fi, xs, rfl, h1, h2, hc, h4⟩, hv⟩ := h.own
  have hvv : x.v = .slice a x.l.length cap := hv
  rw [hvv]
  refine ⟨a, cap, Fi, xs, by simp, by simpa using h1, h2, cells_er hc, ?_⟩
  rcases h4 with ⟨h4, h5⟩ | h4
  · exact .inl ⟨by simp [h4], h5⟩
  · exact .inr h4
theorem op_pushB {t ty : TypeId} {by_ : Nat} {u : Value} {x : β} {l : List β} {GX : List Nat} {K : World → Value → World → Prop} {C : Value → World → Prop} (ht : P.underlying t = some (.slice e)) (he : tyI P e = some (Rep.size β, by_, Rep.agg β)) (hz : zeroOf P e = true)
    (hzc : (P.info? e).map (fun i => (i.zero.map (·.cells.size))) = some (some (Rep.size β))) (hsz : Rep.size β ≤ 1000) (hv : RowG G e w v l) (hn : G.Nodup) (hx : Mine GX w u x) (hd : ∀ c ∈ GX, c ∉ G) (hm : l.length + 1 ≤ maxLen) (hb : (l.length + 1) * by_ ≤ 140737488355328)
    (k : ∀ w1 v' w' G', Ext w w1 → Chg G w1 w' → RowG G' e w' v' (l ++ [x]) → G'.Nodup → (∀ c ∈ G', c ∈ G ∨ c ∈ GX ∨ w.heap.size ≤ c) → K w1 v' w')
    (hC : ∀ s w1, Ext w w1 → OP P (Builtin.append_ #[t, t] ty [v, s].toArray) w1 (K w1) → C s w1) : OP P (Instr.buildSlice t 1 #[(0, u)]) w C := by
  refine op_build1 ht he hz hsz hx fun w1 hx1 hm1 => ?_
  obtain ⟨⟨cs, ⟨a, cap, Fi, xs, rfl, h1, h2, hc, h4⟩, hveq⟩, hn1, hw1⟩ := hm1
  simp only [mkv, Rep.agg, cond_false, List.headD_cons, Value.slice.injEq, List.length_cons, List.length_nil] at hveq
  obtain ⟨rfl, _, rfl⟩ := hveq
  rcases h4 with ⟨h4, _⟩ | ⟨b, o, hab, hFe, hra, hbl⟩
  · simp at h4
  simp only [List.cons.injEq] at hFe
  obtain ⟨_, rfl⟩ := hFe
  refine hC _ w1 hx1 ?_
  have key : ∀ (v : Value) (F : List Nat), RowF F e w v l → F.Nodup → (∀ c ∈ F, c ∈ G) → OP P (Builtin.append_ #[t, t] ty [v, .slice (some ⟨w.heap.size, 0, none⟩) 1 1].toArray) w1 (K w1) := by
    intro v F hF hFn hFG
    have hF1 := hF.ext hx1
    have hdd : (GX ++ F).Nodup := by
      rw [List.nodup_append]
      exact ⟨hx.nodup, hFn, fun p hp q hq e => hd p hp (hFG _ (e ▸ hq))⟩
    refine op_append (m := [x]) ht he hzc hF1 hFn rfl hc (.inr ⟨b, o, hab, hra⟩) (hw1.sub (by simp +contextual)) hdd (by simpa using hm) (by simpa using hb) fun v' w' F' hch hfull hr' hn' hs' => ?_
    have hown : ∀ c ∈ v.ownBlock.toList, c ∈ G := fun c hc => by
      obtain ⟨xs, Fi, _, _, rfl, _⟩ := hF
      exact hFG c (by simp only [List.mem_append]; exact .inl hc)
    refine k w1 v' w' F' hx1 (hch.mono hown) (.inr hr') hn' fun c hc => ?_
    rcases hs' c hc with h | h | h
    · exact .inl (hFG c h)
    · exact .inr (.inl h)
    · exact .inr (.inr (Nat.le_trans hx1.size h))
  rcases hv with ⟨a0, rfl, rfl, rfl⟩ | hF
  · have kn := key (.slice none 0 0) [] (rowF_none e w) List.nodup_nil (by simp)
    cases a0 with
    | none => exact kn
    | some x0 =>
      simp only [Option.some.injEq, Addr.mk.injEq] at hab
      obtain ⟨rfl, rfl, _⟩ := hab
      exact op_of_eq (append_zcap (α := β) (n := 1) ht he hzc (by simpa using Cells.len hc) hra (by omega) (by rw [maxLen_eq]; omega) (by simpa using hb)) kn
  · exact key v G hF hn (fun _ h => h)
theorem opu_pushed {t by_ : Nat} {x : RV β e} {upd : RV β e → α} {w2 : World} {v' : Value} {l' : List β} {G' : List Nat} {K : World → Prop} (ht : tyI P t = some (1, by_, false)) (hL : Lens (VH g) (g :: F) w b o G x upd) (hlt : ∀ c ∈ g :: F, c < w.heap.size) (hc : Chg G w w2)
    (hR : RowG G' e w2 v' l') (hN : G'.Nodup) (hs : ∀ c ∈ G', c ∈ G ∨ w.heap.size ≤ c)
    (k : ∀ w3, Chg (b :: G) w w3 → (∃ F', OAt F' w3 g 0 (upd ⟨v', l'⟩) ∧ ∀ c ∈ F', c ∈ g :: F ∨ w.heap.size ≤ c) → K w3) : OPU P (Instr.storeAt t (.pointer (some ⟨b, o, none⟩)) v') w2 K := by
  obtain ⟨cs, ⟨rfl, hrow⟩, hr, hn, hw, hb, hwb⟩ := hL.here
  have hbl : b < w.heap.size := hlt b (hL.sub b (by simp))
  have hbk : w2.heap[b]? = w.heap[b]? := hc.block b hbl hb
  have hwb2 : ∃ c e, w2.heap[b]? = some (.cells c e (0, 0)) := by obtain ⟨c, e, h⟩ := hwb; exact ⟨c, e, by rw [hbk]; exact h⟩
  have hbG' : b ∉ G' := fun hm => by
    rcases hs b hm with h | h
    · exact hb h
    · omega
  refine opu_cell ht hwb2 (rangeAt_keep hr hbk) hrow.one hR.one fun w3 hc3 hr3 => ?_
  have hcat : ChgAt b o 1 G w w3 := by
    refine ⟨(hc.mono (by simp +contextual)).trans (hc3.chg.mono (by simp +contextual)), fun c e hcc => ?_⟩
    obtain ⟨c', h1, h2⟩ := hc3.cell c e (by rw [hbk]; exact hcc)
    exact ⟨c', h1, h2⟩
  have hkeep : ∀ c ∈ G', w3.heap[c]? = w2.heap[c]? := fun c hcm => hc3.chg.block c (hR.lt c hcm) (by simp; exact fun e => hbG' (e ▸ hcm))
  obtain ⟨c', e', hc'⟩ := hwb2
  obtain ⟨c'', hc'', _⟩ := hc3.cell c' e' hc'
  obtain ⟨F', h1, h2⟩ := hL.back w3 G' ⟨v', l'⟩ hcat ⟨[v'], ⟨rfl, hR.keep hkeep⟩, hr3, hN, (hR.keep hkeep).wr, hbG', c'', e', hc''⟩ fun c hcm => by
    rcases hs c hcm with h | h
    · exact .inl h
    · exact .inr fun hm => by have := hlt c hm; omega
  refine k w3 hcat.chg ⟨F', h1, fun c hcm => ?_⟩
  rcases h2 c hcm with h | h
  · exact .inl h
  · rcases hs c h with h | h
    · exact .inl (hL.sub c (by simp [h]))
    · exact .inr h
theorem op_build1R [Flat β] {t : TypeId} {by_ : Nat} {u : Value} {x : β} {K : Value → World → Prop} (ht : P.underlying t = some (.slice e)) (he : tyI P e = some (Rep.size β, by_, Rep.agg β)) (hz : zeroOf P e = true) (hsz : Rep.size β ≤ 1000) (hx : Mine [] w u x)
    (k : ∀ v w', Ext w w' → RowI w.heap.size w'.heap.size e w' v [x] → K v w') : OP P (Instr.buildSlice t 1 #[(0, u)]) w K := by
  obtain ⟨⟨cs, hr, rfl⟩, hn, hw⟩ := hx
  have hcl := mkv_cells hr
  have hlen := Rep.len hr
  have hvs : (mkv β cs).cells.size = Rep.size β := by rw [← Array.length_toList, hcl, hlen]
  obtain ⟨i, d, hi, hd, hs, hby, hg⟩ := tyI_info he
  unfold zeroOf at hz
  rw [hi] at hz
  obtain ⟨z, hz⟩ := Option.isSome_iff_exists.1 hz
  have hpos := Rep.pos (α := β)
  refine ⟨_, w.alloc (.cells (mkv β cs).cells e), ?_, k (.slice (some ⟨w.heap.size, 0, none⟩) 1 1) _ (ext_alloc w _) (.inr ⟨[w.heap.size], ⟨cs, [], ⟨by simp [hlen], .inr ⟨w.heap.size, 1, (mkv β cs).cells, rfl, Nat.zero_le _, heap_alloc_new w _, Nat.le_refl _, by rw [maxLen_eq]; omega, by rw [hvs, Nat.one_mul], ?_⟩⟩, Cells.single (rep_ext hr (ext_alloc w _)), rfl, Wr.nil _⟩, by simp, ?_⟩)⟩
  · have hne : ¬ Rep.size β = 0 := by omega
    have h24 : ¬ 2 ^ 24 < Rep.size β := by omega
    simp only [Instr.buildSlice, Sem.run_bind, run_underlying ht, Result.andThen_ok, run_sizeOf' he, Nat.one_mul]
    simp [h24, hne, zeroValue, typeInfo, hi, hz, fill_one _ _ _ hvs, newRow]
  · rw [hcl, List.length_singleton, Nat.one_mul, List.take_of_length_le (by omega)]
  · intro b hb
    simp only [List.mem_cons, List.not_mem_nil, or_false] at hb
    subst hb
    exact ⟨Nat.le_refl _, (Array.getElem?_eq_some_iff.1 (heap_alloc_new w _)).1⟩
theorem Ext.toX {X : Nat → Prop} (h : Ext w w') : ExtX X w w' := ⟨h.os, h.tape, h.output, h.size, fun b hb _ => h.block b hb⟩
theorem Chg.toX {X : Nat → Prop} (h : Chg G w w') (hX : ∀ c ∈ G, X c) : ExtX X w w' := ⟨h.os, h.tape, h.output, h.size, fun b hb hn => h.block b hb fun hm => hn (hX b hm)⟩
theorem rdx_of_rd {X : Nat → Prop} {m : Sem Value} {K : Value → Prop} (hX : ∀ b, X b → w0.heap.size ≤ b) (hx : Ext w0 w) (h : RD P m w0 K) : RDX P X m w K := by
  obtain ⟨v, h1, h2⟩ := h
  exact ⟨v, fun w' hw => h1 w' ⟨hw.os.trans hx.os, hw.tape.trans hx.tape, hw.output.trans hx.output, Nat.le_trans hx.size hw.size, fun b hb => (hw.block b (Nat.lt_of_lt_of_le hb hx.size) fun hXb => by have := hX b hXb; omega).trans (hx.block b hb)⟩, h2⟩
theorem rdx_fld {X : Nat → Prop} {t i off : Nat} {K : Value → Prop} (hf : fldB P t i = some off) (k : K (.pointer (some ⟨b, o + off, none⟩))) : RDX P X (Instr.fieldAt t (.pointer (some ⟨b, o, none⟩)) i) w K := by
  obtain ⟨v, h1, h2⟩ := rd_fld (P := P) (w := w) (K := fun v => ∀ w' : World, (Instr.fieldAt t (.pointer (some ⟨b, o, none⟩)) i).run P w' = .ok v w' ∧ v = .pointer (some ⟨b, o + off, none⟩)) hf (fun w' => by
    obtain ⟨v, h1, h2⟩ := rd_fld (P := P) (w := w') (b := b) (o := o) (K := fun v => v = .pointer (some ⟨b, o + off, none⟩)) hf rfl
    subst h2
    exact ⟨h1 w' (Ext.refl w'), rfl⟩)
  refine ⟨v, fun w' _ => (h2 w').1, ?_⟩
  rw [(h2 w).2]; exact k
theorem rdx_cell {X : Nat → Prop} {ft by_ : Nat} {u : Value} {K : Value → Prop} (hft : tyI P ft = some (1, by_, false)) (hr : w.rangeAt b o [u]) (hX : ¬ X b) (k : K u) : RDX P X (Instr.loadAt ft (.pointer (some ⟨b, o, none⟩))) w K := by
  refine ⟨u, fun w' hx' => ?_, k⟩
  have hb := rangeAt_lt hr (by simp)
  have h0 : w'.cell? ⟨b, o, none⟩ = some u := by simpa using (rangeAt_keep hr (hx'.block b hb hX)) 0 u rfl
  have hA := run_isAgg hft w'
  simp [Instr.loadAt, Instr.sureAddr, loadVar, hA, h0]
theorem at_cell {x : Int} (h : At w b o x) : w.rangeAt b o [.int .i64 x] := by
  obtain ⟨F, cs, ⟨_, rfl, _⟩, hr⟩ := h
  exact hr
end
end Go.Sh
namespace Go.Sh
set_option linter.unusedVariables false
set_option linter.unusedSimpArgs false
set_option linter.unusedSectionVars false
open Rep (rep)
section
variable {P : Program} {w w0 w' : World} {α : Type} [Rep α] {lo hi e : Nat} {v : Value} {l : List α}
theorem RowG.flat [Flat α] {F : List Nat} (h : RowG F e w v l) : F = [] ∨ ∃ b, F = [b] := by
  rcases h with ⟨_, _, _, rfl⟩ | ⟨xs, Fi, _, hc, rfl, _⟩
  · exact .inl rfl
  · have := Cells.flat (xs := xs) hc
    subst this
    rcases hv : v.ownBlock with _ | b
    · exact .inl (by simp)
    · exact .inr ⟨b, by simp⟩
theorem Chg.ofI {F : List Nat} (h : Chg F w w') (hF : ∀ b ∈ F, lo ≤ b ∧ b < hi) : ChgI lo hi w w' :=
  ⟨h.os, h.tape, h.output, h.size, fun b hb hx => h.block b hb fun hm => by have := hF b hm; omega⟩
theorem ChgI.ext_left {w1 : World} (hx : Ext w w1) (h : ChgI lo hi w1 w') : ChgI lo hi w w' :=
  ⟨h.os.trans hx.os, h.tape.trans hx.tape, h.output.trans hx.output, Nat.le_trans hx.size h.size, fun b hb ho => by rw [h.block b (Nat.lt_of_lt_of_le hb hx.size) ho, hx.block b hb]⟩
theorem op_pushD1 [Flat α] {t ty : TypeId} {by_ : Nat} {u : Value} {x : α} {lo2 hi2 : Nat} {K : Value → World → Prop} (ht : P.underlying t = some (.slice e)) (he : tyI P e = some (Rep.size α, by_, Rep.agg α)) (hz : zeroOf P e = true)
    (hzc : (P.info? e).map (fun i => (i.zero.map (·.cells.size))) = some (some (Rep.size α))) (hsz : Rep.size α ≤ 1000) (hv : RowI lo hi e w v l) (hx : OwnI lo2 hi2 w u x) (hm : l.length + 1 ≤ maxLen) (hb : (l.length + 1) * by_ ≤ 140737488355328)
    (k : ∀ v' w' lo' hi', ChgI lo hi w w' → RowI lo' hi' e w' v' (l ++ [x]) → (lo' = lo ∧ hi' = hi ∨ lo' = w.heap.size ∧ hi' = w'.heap.size) → K v' w') : OP P (Instr.buildSlice t 1 #[(0, u)]) w fun s w1 => OP P (Builtin.append_ #[t, t] ty [v, s].toArray) w1 K := by
  obtain ⟨F, h1, h2, h3⟩ := rowI_iff.1 hv
  obtain ⟨G, hmx, hG⟩ := hx
  have hGn : G = [] := by obtain ⟨cs, hr, _⟩ := hmx.own; exact Flat.flat hr
  subst hGn
  refine op_pushB (K := fun _ => K) ht he hz hzc hsz h1 h2 hmx (by simp) hm hb (fun w1 v' w' G' hx1 hc hR hN hs => ?_) fun _ _ _ h => h
  have hcI := ChgI.ext_left hx1 (hc.ofI h3)
  have hlt := hR.lt
  rcases hR.flat with rfl | ⟨b, rfl⟩
  · exact k v' w' lo hi hcI (rowI_iff.2 ⟨[], hR, hN, by simp⟩) (.inl ⟨rfl, rfl⟩)
  · rcases hs b (by simp) with h | h | h
    · exact k v' w' lo hi hcI (rowI_iff.2 ⟨[b], hR, hN, fun c hc => by simp at hc; subst hc; exact h3 _ h⟩) (.inl ⟨rfl, rfl⟩)
    · cases h
    · exact k v' w' w.heap.size w'.heap.size hcI (rowI_iff.2 ⟨[b], hR, hN, fun c hc => by simp at hc; subst hc; exact ⟨h, hlt _ (by simp)⟩⟩) (.inr ⟨rfl, rfl⟩)
end
end Go.Sh
namespace Go.Sh
set_option linter.unusedVariables false
set_option linter.unusedSimpArgs false
set_option linter.unusedSectionVars false
open Rep (rep)
open Go.Sort Go.Proofs
section
variable {α : Type} [Inhabited α] {enc : α → List Value} {k : Nat}
theorem flat_len (hk : ∀ x, (enc x).length = k) : ∀ (l : List α), (l.flatMap enc).length = l.length * k
  | [] => by simp
  | x :: l => by rw [List.flatMap_cons, List.length_append, hk, flat_len hk l, List.length_cons, Nat.add_mul]; omega
theorem flat_get (hk : ∀ x, (enc x).length = k) (h0 : 0 < k) : ∀ {l : List α} {t : Nat}, t < l.length * k → (l.flatMap enc)[t]? = some ((enc l[t / k]!)[t % k]!)
  | [], t, h => by simp at h
  | x :: l, t, h => by
    rw [List.flatMap_cons]
    rcases Nat.lt_or_ge t k with ht | ht
    · rw [List.getElem?_append_left (by rw [hk]; exact ht), Nat.div_eq_of_lt ht, Nat.mod_eq_of_lt ht]
      have : t < (enc x).length := by rw [hk]; exact ht
      rw [List.getElem?_eq_getElem this]
      simp [this]
    · rw [List.getElem?_append_right (by rw [hk]; exact ht), hk]
      have h' : t - k < l.length * k := by rw [List.length_cons, Nat.add_mul] at h; omega
      rw [flat_get hk h0 h']
      have e1 : t / k = (t - k) / k + 1 := by
        have : t = (t - k) + k := by omega
        conv => lhs; rw [this]
        rw [Nat.add_div_right _ h0]
      have e2 : t % k = (t - k) % k := by
        have : t = (t - k) + k := by omega
        conv => lhs; rw [this]
        rw [Nat.add_mod_right]
      rw [e1, e2]
      simp
theorem flatK_get (hk : ∀ x, (enc x).length = k) (h0 : 0 < k) {l : List α} {t : Nat} (h : t < l.length * k) : (l.flatMap enc)[t]? = some (flatK enc k l.toArray)[t]! := by
  rw [flat_get hk h0 h, get_flatK enc k l.toArray t (by simpa using h)]
  simp
end
section
variable {α : Type} [Rep α] [Flat α] [Inhabited α] {w : World} {enc : α → List Value} {b o n cap : Nat} {l : List α}
theorem cells_enc (henc : ∀ {F w cs} {x : α}, rep F w cs x → cs = enc x) : ∀ {l : List α} {F : List Nat} {xs : List Value}, Cells F w xs l → xs = l.flatMap enc
  | [], _, _, ⟨_, h⟩ => by simp [h]
  | y :: ys, _, _, ⟨F1, F2, c1, c2, _, h, h1, h2⟩ => by rw [h, henc h1, cells_enc henc h2, List.flatMap_cons]
theorem enc_cells {w' : World} (henc : ∀ {F w cs} {x : α}, rep F w cs x → cs = enc x) : ∀ {l : List α}, (∀ x ∈ l, ∃ F cs, rep F w cs x) → Cells [] w' (l.flatMap enc) l
  | [], _ => ⟨rfl, rfl⟩
  | y :: ys, h => by
    obtain ⟨F, cs, hr⟩ := h y (by simp)
    have hF := Flat.flat hr
    subst hF
    have hc := henc hr
    subst hc
    exact ⟨[], [], enc y, ys.flatMap enc, rfl, rfl, Rep.keep hr (by simp), enc_cells henc fun x hx => h x (by simp [hx])⟩
theorem cells_mem : ∀ {l : List α} {F : List Nat} {xs : List Value}, Cells F w xs l → ∀ x ∈ l, ∃ F cs, rep F w cs x
  | y :: ys, _, _, ⟨F1, F2, c1, c2, _, h, h1, h2⟩, x, hx => by
    rcases List.mem_cons.1 hx with rfl | hx
    · exact ⟨_, _, h1⟩
    · exact cells_mem h2 x hx
theorem holdsK_of (henc : ∀ {F w cs} {x : α}, rep F w cs x → cs = enc x) (hk : ∀ x, (enc x).length = Rep.size α) (hw : ∃ c e, w.heap[b]? = some (.cells c e (0, 0))) {xs : List Value} (hc : Cells [] w xs l) (hr : w.rangeAt b o xs) : HoldsK enc (Rep.size α) w b o l.toArray := by
  intro j hj
  rw [size_flatK] at hj
  have hj' : j < l.length * Rep.size α := by simpa using hj
  have := cells_enc henc hc
  subst this
  have h1 := hr j _ (flatK_get hk Rep.pos hj')
  refine ⟨h1, ?_⟩
  obtain ⟨c, e, he⟩ := hw
  simp [World.frozen?, he]
theorem sorted_mine (henc : ∀ {F w cs} {x : α}, rep F w cs x → cs = enc x) (hk : ∀ x, (enc x).length = Rep.size α) {d' : Array α} {m : Nat} {os : Array Obj} {w3 : World} (hw3 : w3 = sortWorldK enc (Rep.size α) w b o m d' os) (hw : ∃ c e, w.heap[b]? = some (.cells c e (0, 0))) {xs : List Value} (hc : Cells [] w xs l) (hr : w.rangeAt b o xs)
    (h1 : l.length ≤ cap) (h2 : cap ≤ maxLen) (hl : d'.size = l.length) (hp : ∀ x ∈ d'.toList, x ∈ l) : Chg [b] w w3 ∧ Mine [b] w3 (.slice (some ⟨b, o, none⟩) l.length cap) d'.toList := by
  subst hw3
  have hH := holdsK_of henc hk hw hc hr
  obtain ⟨c, e, he⟩ := hw
  have hb : b < w.heap.size := (Array.getElem?_eq_some_iff.1 he).1
  have hsz : (putRowK enc (Rep.size α) (Sort.ahead w m) b o d').heap.size = w.heap.size := by simp [putRowK, putRow, mapBlock, Sort.ahead]
  have hblk : ∀ i, i < w.heap.size → i ≠ b → (sortWorldK enc (Rep.size α) w b o m d' os).heap[i]? = w.heap[i]? := fun i hi hne => by
    unfold sortWorldK
    rw [heap_grow_old _ _ (by rw [hsz]; exact hi)]
    simp [putRowK, putRow, mapBlock, Sort.ahead, Array.getElem?_modify, hne.symm]
  have hbb : ∃ c', (sortWorldK enc (Rep.size α) w b o m d' os).heap[b]? = some (.cells c' e (0, 0)) := by
    unfold sortWorldK
    rw [heap_grow_old _ _ (by rw [hsz]; exact hb)]
    exact ⟨_, by simp [putRowK, putRow, mapBlock, Sort.ahead, Array.getElem?_modify, he, onCells]; rfl⟩
  have hsz2 : w.heap.size ≤ (sortWorldK enc (Rep.size α) w b o m d' os).heap.size := by
    unfold sortWorldK grow
    rw [Array.size_append, hsz]; omega
  refine ⟨⟨rfl, rfl, rfl, hsz2, fun i hi hm => hblk i hi fun e => hm (by simp [e])⟩, ⟨⟨_, ⟨some ⟨b, o, none⟩, cap, [], d'.toList.flatMap enc, rfl, by simpa [hl] using h1, h2, ?_, .inr ⟨b, o, rfl, rfl, ?_, by omega⟩⟩, by simp [mkv, Rep.agg, hl]⟩, by simp, fun i hi => ?_⟩⟩
  · exact enc_cells (w := w) henc fun x hx => cells_mem hc x (hp x hx)
  · intro j v hv
    have hj : j < d'.toList.length * Rep.size α := by
      have := (List.getElem?_eq_some_iff.1 hv).1
      rwa [flat_len hk] at this
    rw [flatK_get hk Rep.pos hj, Option.some.injEq] at hv
    have hj2 : j < (flatK enc (Rep.size α) d').size := by rw [size_flatK]; simpa using hj
    have := cell?_putRow id (Sort.ahead w m) b o (flatK enc (Rep.size α) l.toArray) (flatK enc (Rep.size α) d') hH (by simp [hl]) j hj2
    unfold sortWorldK
    rw [cell?_grow _ _ _ (by rw [hsz]; exact hb)]
    show (putRow id (Sort.ahead w m) b o (flatK enc (Rep.size α) d')).cell? _ = _
    rw [this, ← hv]
    simp
  · simp only [List.mem_cons, List.not_mem_nil, or_false] at hi
    subst hi
    obtain ⟨c', hc'⟩ := hbb
    exact ⟨c', e, hc'⟩
end
end Go.Sh
set_option linter.unusedVariables false
namespace Go.Proofs.YtjgfldfbljmhhaaGreat
open Go Go.Sh Go.Proofs
def extL : List Nat := [0, 1, 319, 320, 321, 322, 323, 324, 325, 326, 327, 328, 329, 330, 331, 332, 333, 334]
set_option maxRecDepth 100000 in
theorem entAll : ((List.range 335).all fun f => extL.elem f || enters Tryz.prog f) = true := by kernel_rfl
theorem ent : ∀ f, f < 335 → extL.elem f = false → enters Tryz.prog f = true := fun f hf hx => by
  have := List.all_eq_true.1 entAll f (List.mem_range.2 hf)
  rw [hx, Bool.false_or] at this
  exact this
theorem mixed : Tryz.prog.follows .mixedOrders = true := by kernel_rfl
end Go.Proofs.YtjgfldfbljmhhaaGreat
namespace Go.Proofs.YtjgfldfbljmhhaaGreat
set_option linter.unusedVariables false
set_option linter.unusedSimpArgs false
open Go Go.Sh Go.Proofs
set_option linter.unusedVariables false
def F21 (a0 : Value) (w : World) (R : Value → World → Prop) : Prop :=
 RD Tryz.prog (Builtin.len_ #[23] 3 [a0].toArray) w fun x6 =>
 OP Tryz.prog (Instr.makeSlice 23 x6 x6) w fun x7 w =>
 LOOPI [4] [(Value.int .i64 0)] w fun u3 w next3 =>
 RD Tryz.prog (Builtin.len_ #[23] 3 [a0].toArray) w fun x10 =>
 RD Tryz.prog (bin .lss 3 (.tmp 0) (.tmp 0) (u3 4) x10) w fun x11 =>
 BR x11
 (RD Tryz.prog (Instr.indexAt 23 a0 (u3 4)) w fun x18 =>
 RD Tryz.prog (Instr.loadAt 3 x18) w fun x19 =>
 RD Tryz.prog (Instr.indexAt 23 x7 (u3 4)) w fun x20 =>
 OPU Tryz.prog (Instr.storeAt 3 x20 x19) w fun w =>
 RD Tryz.prog (bin .add 3 (.tmp 0) (.const undef) (u3 4) (Value.int .i64 1)) w fun x13 =>
 next3 [x13] w)
 (R x7 w)
def cfg21 : Cfg := { ext := extL, joins := [], loops := [(3, 2096912, [4])], draws := [], pars := [] }
theorem F21_eq (a0 : Value) (w : World) (R : Value → World → Prop) : vcF Tryz.prog cfg21 Tryz.f21 [a0] w R = F21 a0 w R := by kernel_rfl
theorem F21_call {a0 : Value} {w : World} {R : Value → World → Prop} (h : F21 a0 w R) : CALL Tryz.prog 21 [a0] w R :=
  call_of (g := cfg21) ent mixed Tryz.func21 (Nat.le_of_ble_eq_true (by kernel_rfl)) (by kernel_rfl) (F21_eq a0 w R ▸ h)
def F23 (a0 a1 : Value) (w : World) (R : Value → World → Prop) : Prop :=
 RD Tryz.prog (Builtin.len_ #[23] 3 [a0].toArray) w fun x7 =>
 RD Tryz.prog (Builtin.len_ #[23] 3 [a1].toArray) w fun x9 =>
 RD Tryz.prog (bin .neq 3 (.tmp 0) (.tmp 0) x7 x9) w fun x10 =>
 BR x10
 (R (Value.bool false) w)
 (LOOPI [5] [(Value.int .i64 0)] w fun u4 w next4 =>
 RD Tryz.prog (Builtin.len_ #[23] 3 [a0].toArray) w fun x13 =>
 RD Tryz.prog (bin .lss 3 (.tmp 0) (.tmp 0) (u4 5) x13) w fun x14 =>
 BR x14
 ((fun w => RD Tryz.prog (Instr.indexAt 23 a0 (u4 5)) w fun x19 =>
 RD Tryz.prog (Instr.loadAt 3 x19) w fun x20 =>
 RD Tryz.prog (Instr.indexAt 23 a1 (u4 5)) w fun x23 =>
 RD Tryz.prog (Instr.loadAt 3 x23) w fun x24 =>
 RD Tryz.prog (bin .neq 3 (.tmp 0) (.tmp 0) x20 x24) w fun x25 =>
 BR x25
 (R (Value.bool false) w)
 (RD Tryz.prog (bin .add 3 (.tmp 0) (.const undef) (u4 5) (Value.int .i64 1)) w fun x16 =>
 next4 [x16] w)) (World.drew1 w))
 (R (Value.bool true) w))
def cfg23 : Cfg := { ext := extL, joins := [], loops := [(4, 67106864, [5])], draws := [(6, [0, 1, 2, 3, 4, 5, 6, 7, 8], 0)], pars := [] }
theorem F23_eq (a0 a1 : Value) (w : World) (R : Value → World → Prop) : vcF Tryz.prog cfg23 Tryz.f23 [a0, a1] w R = F23 a0 a1 w R := by kernel_rfl
theorem F23_call {a0 a1 : Value} {w : World} {R : Value → World → Prop} (h : F23 a0 a1 w R) : CALL Tryz.prog 23 [a0, a1] w R :=
  call_of (g := cfg23) ent mixed Tryz.func23 (Nat.le_of_ble_eq_true (by kernel_rfl)) (by kernel_rfl) (F23_eq a0 a1 w R ▸ h)
def F25 (a0 a1 : Value) (w : World) (R : Value → World → Prop) : Prop :=
 LOOPI [1, 5] [a1, (Value.int .i64 0)] w fun u2 w next2 =>
 RD Tryz.prog (Builtin.len_ #[23] 3 [a0].toArray) w fun x8 =>
 RD Tryz.prog (bin .lss 3 (.tmp 0) (.tmp 0) (u2 5) x8) w fun x9 =>
 BR x9
 (RD Tryz.prog (Instr.indexAt 23 a0 (u2 5)) w fun x15 =>
 OPU Tryz.prog (Instr.storeAt 3 x15 (u2 1)) w fun w =>
 RD Tryz.prog (bin .add 3 (.tmp 0) (.const undef) (u2 1) (Value.int .i64 1)) w fun x17 =>
 RD Tryz.prog (bin .add 3 (.tmp 0) (.const undef) (u2 5) (Value.int .i64 1)) w fun x11 =>
 next2 [x17, x11] w)
 (R (u2 1) w)
def cfg25 : Cfg := { ext := extL, joins := [], loops := [(2, 262114, [1, 5])], draws := [], pars := [] }
theorem F25_eq (a0 a1 : Value) (w : World) (R : Value → World → Prop) : vcF Tryz.prog cfg25 Tryz.f25 [a0, a1] w R = F25 a0 a1 w R := by kernel_rfl
theorem F25_call {a0 a1 : Value} {w : World} {R : Value → World → Prop} (h : F25 a0 a1 w R) : CALL Tryz.prog 25 [a0, a1] w R :=
  call_of (g := cfg25) ent mixed Tryz.func25 (Nat.le_of_ble_eq_true (by kernel_rfl)) (by kernel_rfl) (F25_eq a0 a1 w R ▸ h)
def F26 (a0 a1 : Value) (w : World) (R : Value → World → Prop) : Prop :=
 LOOPI [1, 5] [a1, (Value.int .i64 0)] w fun u2 w next2 =>
 RD Tryz.prog (Builtin.len_ #[23] 3 [a0].toArray) w fun x8 =>
 RD Tryz.prog (bin .lss 3 (.tmp 0) (.tmp 0) (u2 5) x8) w fun x9 =>
 BR x9
 (RD Tryz.prog (Instr.indexAt 23 a0 (u2 5)) w fun x14 =>
 RD Tryz.prog (Instr.loadAt 3 x14) w fun x15 =>
 RD Tryz.prog (bin .neq 3 (.tmp 0) (.tmp 0) x15 (u2 1)) w fun x17 =>
 BR x17
 (R (Value.int .i64 (-1)) w)
 (RD Tryz.prog (bin .add 3 (.tmp 0) (.const undef) (u2 1) (Value.int .i64 1)) w fun x19 =>
 RD Tryz.prog (bin .add 3 (.tmp 0) (.const undef) (u2 5) (Value.int .i64 1)) w fun x11 =>
 next2 [x19, x11] w))
 (R (u2 1) w)
def cfg26 : Cfg := { ext := extL, joins := [], loops := [(2, 1048562, [1, 5])], draws := [], pars := [] }
theorem F26_eq (a0 a1 : Value) (w : World) (R : Value → World → Prop) : vcF Tryz.prog cfg26 Tryz.f26 [a0, a1] w R = F26 a0 a1 w R := by kernel_rfl
theorem F26_call {a0 a1 : Value} {w : World} {R : Value → World → Prop} (h : F26 a0 a1 w R) : CALL Tryz.prog 26 [a0, a1] w R :=
  call_of (g := cfg26) ent mixed Tryz.func26 (Nat.le_of_ble_eq_true (by kernel_rfl)) (by kernel_rfl) (F26_eq a0 a1 w R ▸ h)
def F298 (a0 : Value) (w : World) (R : Value → World → Prop) : Prop :=
 RD Tryz.prog (bin .eql 23 (.tmp 0) (.const undef) a0 (Value.slice none 0 0)) w fun x4 =>
 BR x4
 (R (Value.slice none 0 0) w)
 (OP Tryz.prog (Instr.buildSlice 23 0 #[]) w fun x5 w =>
 OP Tryz.prog (Builtin.append_ #[23, 23] 23 [x5, a0].toArray) w fun x7 w =>
 R x7 w)
def cfg298 : Cfg := { ext := extL, joins := [], loops := [], draws := [], pars := [] }
theorem F298_eq (a0 : Value) (w : World) (R : Value → World → Prop) : vcF Tryz.prog cfg298 Tryz.f298 [a0] w R = F298 a0 w R := by kernel_rfl
theorem F298_call {a0 : Value} {w : World} {R : Value → World → Prop} (h : F298 a0 w R) : CALL Tryz.prog 298 [a0] w R :=
  call_of (g := cfg298) ent mixed Tryz.func298 (Nat.le_of_ble_eq_true (by kernel_rfl)) (by kernel_rfl) (F298_eq a0 w R ▸ h)
theorem tyInt : tyI Tryz.prog 3 = some (1, 8, false) := by kernel_rfl
theorem zInt : zeroOf Tryz.prog 3 = true := by kernel_rfl
theorem zcInt : (Tryz.prog.info? 3).map (fun i => (i.zero.map (·.cells.size))) = some (some 1) := by kernel_rfl
theorem uInts : Tryz.prog.underlying 23 = some (.slice 3) := by kernel_rfl
theorem own_int {w : World} {x : Int} (h : I64 x) : Mine [] w (.int .i64 x) x := ⟨⟨_, ⟨rfl, rfl, h⟩, rfl⟩, List.nodup_nil, Wr.nil w⟩
theorem toIntS_ok {w : World} {v : Value} {l : List Int} (h : Is w v l) (hn : l.length ≤ 1048576) :
    CALL Tryz.prog 21 [v] w fun r w' => Ext w w' ∧ Own w.heap.size w' r l := by
  refine F21_call ?_
  unfold F21
  refine rd_len uInts h ?_
  refine op_make (α := Int) uInts tyInt zInt (by omega) (by omega) fun w1 hx1 hf => ?_
  refine loopC l.length (fun k us w' => us = [.int .i64 (k : Int)] ∧ Ext w w' ∧ Fill w.heap.size 3 l.length [] w' (l.take k)) 0 (Nat.zero_le _) ⟨rfl, hx1, by simpa using hf⟩ ?_
  rintro k m u w2 hkm ⟨hu, hx2, hf2⟩
  simp only [List.map_cons, List.map_nil, List.cons.injEq, and_true] at hu
  rw [hu]
  refine rd_len uInts h ?_
  refine rd_lss ?_
  refine br (fun hlt => ?_) (fun hge => ?_)
  · have hk : k < l.length := by omega
    refine rd_indexN uInts tyInt h hk fun b o hA => ?_
    refine rd_loadI tyInt hA hx2 fun hI => ?_
    refine rd_indexG uInts tyInt hk ?_
    refine opu_fill (α := Int) tyInt hf2 (by simp [Rep.size]; omega) (by simp; omega) (own_int hI) (by simp) fun w3 hc3 hf3 => ?_
    refine rd_inc (by have := is_len h; omega) ?_
    refine ⟨m - 1, by omega, k + 1, by omega, rfl, hx2.chg_trans hc3 (by simp), ?_⟩
    rw [List.take_succ_eq_append_getElem hk]
    simpa using hf3
  · have hk : k = l.length := by omega
    subst hk
    rw [List.take_length] at hf2
    exact ⟨hx2, _, hf2.own rfl (by rw [maxLen_eq]; omega), by simp⟩
theorem eqIntS_ok {w w1 w2 : World} {v1 v2 : Value} {l1 l2 : List Int} (h1 : Is w1 v1 l1) (h2 : Is w2 v2 l2) (hx1 : Ext w1 w) (hx2 : Ext w2 w) :
    CALL Tryz.prog 23 [v1, v2] w fun r w' => Ext w w' ∧ r = .bool (decide (l1 = l2)) := by
  refine F23_call ?_
  unfold F23
  refine rd_len uInts h1 ?_
  refine rd_len uInts h2 ?_
  refine rd_neq ?_
  refine br (fun hne => ?_) (fun heq => ?_)
  · refine ⟨Ext.refl w, ?_⟩
    have : l1 ≠ l2 := fun e => hne (by rw [e])
    simp [this]
  · have hl : l1.length = l2.length := by omega
    refine loopC l1.length (fun k us w' => us = [.int .i64 (k : Int)] ∧ Ext w w' ∧ l1.take k = l2.take k) 0 (Nat.zero_le _) ⟨rfl, Ext.refl w, by simp⟩ ?_
    rintro k m u w3 hkm ⟨hu, hx3, heq3⟩
    simp only [List.map_cons, List.map_nil, List.cons.injEq, and_true] at hu
    rw [hu]
    refine rd_len uInts h1 ?_
    refine rd_lss ?_
    refine br (fun hlt => ?_) (fun hge => ?_)
    · have hk : k < l1.length := by omega
      have hk2 : k < l2.length := by omega
      have hx4 := hx3.trans (ext_drew w3)
      refine rd_indexN uInts tyInt h1 hk fun b o hA => ?_
      refine rd_loadI tyInt hA (hx1.trans hx4) fun hI => ?_
      refine rd_indexN uInts tyInt h2 hk2 fun b o hA => ?_
      refine rd_loadI tyInt hA (hx2.trans hx4) fun hI => ?_
      refine rd_neq ?_
      refine br (fun hne => ?_) (fun he => ?_)
      · refine ⟨hx4, ?_⟩
        have : l1 ≠ l2 := fun e => hne (by subst e; rfl)
        simp [this]
      · refine rd_inc (by have := is_len h1; omega) ?_
        refine ⟨m - 1, by omega, k + 1, by omega, rfl, hx4, ?_⟩
        rw [List.take_succ_eq_append_getElem hk, List.take_succ_eq_append_getElem hk2, heq3, Decidable.not_not.1 he]
    · refine ⟨hx3, ?_⟩
      have hk : l1.length ≤ k := by omega
      rw [List.take_of_length_le hk, List.take_of_length_le (by omega)] at heq3
      simp [heq3]
def cnt (k : Int) (n : Nat) : List Int := (List.range n).map fun i : Nat => k + (i : Int)
theorem cnt_len (k : Int) (n : Nat) : (cnt k n).length = n := by simp [cnt]
theorem cnt_succ (k : Int) (n : Nat) : cnt k (n + 1) = cnt k n ++ [k + n] := by simp [cnt, List.range_succ]
theorem markIntS_ok {w : World} {F : List Nat} {v : Value} {l : List Int} {k : Int} (h : Mine F w v l) (hn : l.length ≤ 1073741824) (hk0 : 0 ≤ k) (hk1 : k ≤ 4611686018427387904) :
    CALL Tryz.prog 25 [v, .int .i64 k] w fun r w' => r = .int .i64 (k + l.length) ∧ Chg F w w' ∧ Mine F w' v (cnt k l.length) := by
  refine F25_call ?_
  unfold F25
  refine loopC l.length (fun i us w' => us = [.int .i64 (k + i), .int .i64 (i : Int)] ∧ Chg F w w' ∧ Mine F w' v (cnt k i ++ l.drop i)) 0 (Nat.zero_le _) ⟨by simp, Chg.refl _ _, by simpa [cnt] using h⟩ ?_
  rintro i m u w2 hkm ⟨hu, hc2, hm2⟩
  simp only [List.map_cons, List.map_nil, List.cons.injEq, and_true] at hu
  obtain ⟨hu1, hu2⟩ := hu
  rw [hu1, hu2]
  have hlen : (cnt k i ++ l.drop i).length = l.length := by simp [cnt_len]; omega
  refine rd_len uInts hm2.is ?_
  rw [hlen]
  refine rd_lss ?_
  refine br (fun hlt => ?_) (fun hge => ?_)
  · have hi : i < l.length := by omega
    refine set_step (α := Int) uInts tyInt hm2 (by omega) (own_int (w := w2) (x := k + i) (by unfold I64; omega)).own fun w3 hc3 hm3 => ?_
    refine rd_add (by unfold I64; omega) ?_
    refine rd_inc (by omega) ?_
    refine ⟨m - 1, by omega, i + 1, by omega, by simp [Int.add_assoc], hc2.trans hc3, ?_⟩
    have : (cnt k i ++ l.drop i).set i (k + i) = cnt k (i + 1) ++ l.drop (i + 1) := by
      rw [List.drop_eq_getElem_cons hi, List.set_append_right _ _ (by simp [cnt_len]), cnt_len, Nat.sub_self, List.set_cons_zero, cnt_succ]
      simp
    rw [← this]; exact hm3
  · have : i = l.length := by omega
    subst this
    exact ⟨rfl, hc2, by simpa using hm2⟩
theorem heldIntS_ok {w w0 : World} {v : Value} {n : Nat} {k : Int} (h : Is w0 v (cnt k n)) (hx : Ext w0 w) (hn : n ≤ 1073741824) (hk0 : 0 ≤ k) (hk1 : k ≤ 4611686018427387904) :
    CALL Tryz.prog 26 [v, .int .i64 k] w fun r w' => r = .int .i64 (k + n) ∧ Ext w w' := by
  refine F26_call ?_
  unfold F26
  refine loopC n (fun i us w' => us = [.int .i64 (k + i), .int .i64 (i : Int)] ∧ Ext w w') 0 (Nat.zero_le _) ⟨by simp, Ext.refl w⟩ ?_
  rintro i m u w2 hkm ⟨hu, hx2⟩
  simp only [List.map_cons, List.map_nil, List.cons.injEq, and_true] at hu
  obtain ⟨hu1, hu2⟩ := hu
  rw [hu1, hu2]
  refine rd_len uInts h ?_
  rw [cnt_len]
  refine rd_lss ?_
  refine br (fun hlt => ?_) (fun hge => ?_)
  · have hi : i < n := by omega
    refine rd_indexN uInts tyInt h (by rw [cnt_len]; exact hi) fun b o hA => ?_
    refine rd_loadI tyInt hA (hx.trans hx2) fun hI => ?_
    refine rd_neq ?_
    have e : (cnt k n)[i]'(by rw [cnt_len]; exact hi) = k + i := by simp [cnt]
    rw [e]
    refine br (fun hne => absurd rfl hne) (fun _ => ?_)
    refine rd_add (by unfold I64; omega) ?_
    refine rd_inc (by omega) ?_
    exact ⟨m - 1, by omega, i + 1, by omega, by simp [Int.add_assoc], hx2⟩
  · have : i = n := by omega
    subst this
    exact ⟨rfl, hx2⟩
theorem clone_ok {w w0 : World} {v : Value} {l : List Int} (h : Is w0 v l) (hx : Ext w0 w) (hn : l.length ≤ 1073741824) :
    CALL Tryz.prog 298 [v] w fun r w' => Ext w w' ∧ Own w.heap.size w' r l := by
  refine F298_call ?_
  unfold F298
  obtain ⟨a, cap, Fi, xs, rfl, h1, h2, hc, h4⟩ := is_list h
  refine rd_slice_nil uInts ?_
  refine br_b (fun hnil => ?_) (fun hnn => ?_)
  · have : l = [] := by
      rcases h4 with h4 | ⟨b, o, ha, _⟩
      · exact h4
      · subst ha; simp at hnil
    subst this
    exact ⟨Ext.refl w, own_nil rfl⟩
  · refine op_build0 (α := Int) uInts tyInt fun a1 w1 hx1 hr1 => ?_
    refine op_append_new uInts tyInt zcInt hr1 h (hx.trans hx1) hx1.size (by omega) fun v2 w2 hx2 hr2 => ?_
    exact ⟨hx1.trans hx2, hr2.own⟩
end Go.Proofs.YtjgfldfbljmhhaaGreat
namespace Go.Proofs.YtjgfldfbljmhhaaGreat
open Go Go.Sh Go.Proofs
theorem u2 : Tryz.prog.underlying 2 = some (TypeDesc.int IntKind.i64) := by kernel_rfl
theorem ty3 : tyI Tryz.prog 3 = some (1, 8, false) := by kernel_rfl
theorem u3 : Tryz.prog.underlying 3 = some (TypeDesc.int IntKind.i64) := by kernel_rfl
theorem z3 : zeroOf Tryz.prog 3 = true := by kernel_rfl
theorem zc3 : (Tryz.prog.info? 3).map (fun i => (i.zero.map (·.cells.size))) = some (some 1) := by kernel_rfl
theorem ty4 : tyI Tryz.prog 4 = some (1, 1, false) := by kernel_rfl
theorem u4 : Tryz.prog.underlying 4 = some TypeDesc.bool := by kernel_rfl
theorem z4 : zeroOf Tryz.prog 4 = true := by kernel_rfl
theorem ty5 : tyI Tryz.prog 5 = some (1, 1, false) := by kernel_rfl
theorem u5 : Tryz.prog.underlying 5 = some (TypeDesc.int IntKind.u8) := by kernel_rfl
theorem z5 : zeroOf Tryz.prog 5 = true := by kernel_rfl
theorem u6 : Tryz.prog.underlying 6 = some (TypeDesc.int IntKind.u8) := by kernel_rfl
theorem ty9 : tyI Tryz.prog 9 = some (1, 16, false) := by kernel_rfl
theorem u9 : Tryz.prog.underlying 9 = some TypeDesc.string := by kernel_rfl
theorem z9 : zeroOf Tryz.prog 9 = true := by kernel_rfl
theorem zc9 : (Tryz.prog.info? 9).map (fun i => (i.zero.map (·.cells.size))) = some (some 1) := by kernel_rfl
theorem u10 : Tryz.prog.underlying 10 = some TypeDesc.string := by kernel_rfl
theorem u11 : Tryz.prog.underlying 11 = some TypeDesc.string := by kernel_rfl
theorem u12 : Tryz.prog.underlying 12 = some (TypeDesc.int IntKind.u64) := by kernel_rfl
theorem u21 : Tryz.prog.underlying 21 = some (TypeDesc.int IntKind.i32) := by kernel_rfl
theorem ty22 : tyI Tryz.prog 22 = some (1, 24, false) := by kernel_rfl
theorem u22 : Tryz.prog.underlying 22 = some (TypeDesc.slice 9) := by kernel_rfl
theorem z22 : zeroOf Tryz.prog 22 = true := by kernel_rfl
theorem ty23 : tyI Tryz.prog 23 = some (1, 24, false) := by kernel_rfl
theorem u23 : Tryz.prog.underlying 23 = some (TypeDesc.slice 3) := by kernel_rfl
theorem z23 : zeroOf Tryz.prog 23 = true := by kernel_rfl
theorem zc23 : (Tryz.prog.info? 23).map (fun i => (i.zero.map (·.cells.size))) = some (some 1) := by kernel_rfl
theorem ty24 : tyI Tryz.prog 24 = some (1, 24, false) := by kernel_rfl
theorem u24 : Tryz.prog.underlying 24 = some (TypeDesc.slice 125) := by kernel_rfl
theorem z25 : zeroOf Tryz.prog 25 = true := by kernel_rfl
theorem ty26 : tyI Tryz.prog 26 = some (5, 120, true) := by kernel_rfl
theorem us26 : Tryz.prog.underlying 26 = some (TypeDesc.struct (Array.mk [Field.mk "Globals" 22 0 false "" "" 0, Field.mk "Locks" 22 1 false "" "" 24, Field.mk "Procs" 22 2 false "" "" 48, Field.mk "Entry" 23 3 false "" "" 72, Field.mk "Ins" 24 4 false "" "" 96])) := by kernel_rfl
theorem fd26_0 : fldB Tryz.prog 26 0 = some 0 := by kernel_rfl
theorem fd26_1 : fldB Tryz.prog 26 1 = some 1 := by kernel_rfl
theorem fd26_2 : fldB Tryz.prog 26 2 = some 2 := by kernel_rfl
theorem fd26_3 : fldB Tryz.prog 26 3 = some 3 := by kernel_rfl
theorem fd26_4 : fldB Tryz.prog 26 4 = some 4 := by kernel_rfl
theorem ty27 : tyI Tryz.prog 27 = some (1, 24, false) := by kernel_rfl
theorem u27 : Tryz.prog.underlying 27 = some (TypeDesc.slice 23) := by kernel_rfl
theorem ty33 : tyI Tryz.prog 33 = some (1, 24, false) := by kernel_rfl
theorem u33 : Tryz.prog.underlying 33 = some (TypeDesc.slice 136) := by kernel_rfl
theorem ty35 : tyI Tryz.prog 35 = some (5, 120, true) := by kernel_rfl
theorem zl35 : zeroL Tryz.prog 35 = some [.slice none 0 0, .slice none 0 0, .slice none 0 0, .slice none 0 0, .slice none 0 0] := by kernel_rfl
theorem fd35_0 : fldB Tryz.prog 35 0 = some 0 := by kernel_rfl
theorem fd35_1 : fldB Tryz.prog 35 1 = some 1 := by kernel_rfl
theorem fd35_2 : fldB Tryz.prog 35 2 = some 2 := by kernel_rfl
theorem fd35_3 : fldB Tryz.prog 35 3 = some 3 := by kernel_rfl
theorem fd35_4 : fldB Tryz.prog 35 4 = some 4 := by kernel_rfl
theorem ty37 : tyI Tryz.prog 37 = some (3, 72, true) := by kernel_rfl
theorem z37 : zeroOf Tryz.prog 37 = true := by kernel_rfl
theorem zc37 : (Tryz.prog.info? 37).map (fun i => (i.zero.map (·.cells.size))) = some (some 3) := by kernel_rfl
theorem zl37 : zeroL Tryz.prog 37 = some [.slice none 0 0, .slice none 0 0, .slice none 0 0] := by kernel_rfl
theorem fd37_0 : fldB Tryz.prog 37 0 = some 0 := by kernel_rfl
theorem fd37_1 : fldB Tryz.prog 37 1 = some 1 := by kernel_rfl
theorem fd37_2 : fldB Tryz.prog 37 2 = some 2 := by kernel_rfl
theorem u58 : Tryz.prog.underlying 58 = some (TypeDesc.slice 109) := by kernel_rfl
theorem u77 : Tryz.prog.underlying 77 = some (TypeDesc.int IntKind.u64) := by kernel_rfl
theorem z77 : zeroOf Tryz.prog 77 = true := by kernel_rfl
theorem ty103 : tyI Tryz.prog 103 = some (1, 24, false) := by kernel_rfl
theorem u103 : Tryz.prog.underlying 103 = some (TypeDesc.slice 37) := by kernel_rfl
theorem ty109 : tyI Tryz.prog 109 = some (3, 24, true) := by kernel_rfl
theorem z109 : zeroOf Tryz.prog 109 = true := by kernel_rfl
theorem zc109 : (Tryz.prog.info? 109).map (fun i => (i.zero.map (·.cells.size))) = some (some 3) := by kernel_rfl
theorem zl109 : zeroL Tryz.prog 109 = some [.int .i64 0, .int .i64 0, .int .i64 0] := by kernel_rfl
theorem fd109_0 : fldB Tryz.prog 109 0 = some 0 := by kernel_rfl
theorem fd109_1 : fldB Tryz.prog 109 1 = some 1 := by kernel_rfl
theorem fd109_2 : fldB Tryz.prog 109 2 = some 2 := by kernel_rfl
theorem ty121 : tyI Tryz.prog 121 = some (1, 24, false) := by kernel_rfl
theorem u121 : Tryz.prog.underlying 121 = some (TypeDesc.slice 123) := by kernel_rfl
theorem ty123 : tyI Tryz.prog 123 = some (4, 56, true) := by kernel_rfl
theorem us123 : Tryz.prog.underlying 123 = some (TypeDesc.struct (Array.mk [Field.mk "Kind" 3 0 false "" "" 0, Field.mk "Num" 3 1 false "" "" 8, Field.mk "Name" 9 2 false "" "" 16, Field.mk "Kids" 121 3 false "" "" 32])) := by kernel_rfl
theorem fd123_0 : fldB Tryz.prog 123 0 = some 0 := by kernel_rfl
theorem fd123_1 : fldB Tryz.prog 123 1 = some 1 := by kernel_rfl
theorem fd123_2 : fldB Tryz.prog 123 2 = some 2 := by kernel_rfl
theorem fd123_3 : fldB Tryz.prog 123 3 = some 3 := by kernel_rfl
theorem ty125 : tyI Tryz.prog 125 = some (7, 80, true) := by kernel_rfl
theorem us125 : Tryz.prog.underlying 125 = some (TypeDesc.struct (Array.mk [Field.mk "Op" 3 0 false "" "" 0, Field.mk "Arg" 3 1 false "" "" 8, Field.mk "Term" 123 2 false "" "" 16, Field.mk "To" 3 6 false "" "" 72])) := by kernel_rfl
theorem fd125_0 : fldB Tryz.prog 125 0 = some 0 := by kernel_rfl
theorem fd125_1 : fldB Tryz.prog 125 1 = some 1 := by kernel_rfl
theorem fd125_2 : fldB Tryz.prog 125 2 = some 2 := by kernel_rfl
theorem fd125_3 : fldB Tryz.prog 125 3 = some 6 := by kernel_rfl
theorem ty132 : tyI Tryz.prog 132 = some (1, 24, false) := by kernel_rfl
theorem u132 : Tryz.prog.underlying 132 = some (TypeDesc.slice 134) := by kernel_rfl
theorem ty134 : tyI Tryz.prog 134 = some (4, 56, true) := by kernel_rfl
theorem z134 : zeroOf Tryz.prog 134 = true := by kernel_rfl
theorem us134 : Tryz.prog.underlying 134 = some (TypeDesc.struct (Array.mk [Field.mk "Kind" 3 0 false "" "" 0, Field.mk "Num" 3 1 false "" "" 8, Field.mk "Name" 9 2 false "" "" 16, Field.mk "Kids" 132 3 false "" "" 32])) := by kernel_rfl
theorem zl134 : zeroL Tryz.prog 134 = some [.int .i64 0, .int .i64 0, .string ByteArray.empty, .slice none 0 0] := by kernel_rfl
theorem fd134_0 : fldB Tryz.prog 134 0 = some 0 := by kernel_rfl
theorem fd134_1 : fldB Tryz.prog 134 1 = some 1 := by kernel_rfl
theorem fd134_2 : fldB Tryz.prog 134 2 = some 2 := by kernel_rfl
theorem fd134_3 : fldB Tryz.prog 134 3 = some 3 := by kernel_rfl
theorem ty136 : tyI Tryz.prog 136 = some (7, 80, true) := by kernel_rfl
theorem z136 : zeroOf Tryz.prog 136 = true := by kernel_rfl
theorem zl136 : zeroL Tryz.prog 136 = some [.int .i64 0, .int .i64 0, .int .i64 0, .int .i64 0, .string ByteArray.empty, .slice none 0 0, .int .i64 0] := by kernel_rfl
theorem fd136_0 : fldB Tryz.prog 136 0 = some 0 := by kernel_rfl
theorem fd136_1 : fldB Tryz.prog 136 1 = some 1 := by kernel_rfl
theorem fd136_2 : fldB Tryz.prog 136 2 = some 2 := by kernel_rfl
theorem fd136_3 : fldB Tryz.prog 136 3 = some 6 := by kernel_rfl
theorem fd173_0 : fldB Tryz.prog 173 0 = some 0 := by kernel_rfl
theorem fd173_1 : fldB Tryz.prog 173 1 = some 1 := by kernel_rfl
theorem fd173_2 : fldB Tryz.prog 173 2 = some 2 := by kernel_rfl
theorem fd173_3 : fldB Tryz.prog 173 3 = some 3 := by kernel_rfl
theorem ty174 : tyI Tryz.prog 174 = some (1, 24, false) := by kernel_rfl
theorem u174 : Tryz.prog.underlying 174 = some (TypeDesc.slice 177) := by kernel_rfl
theorem ty177 : tyI Tryz.prog 177 = some (4, 32, true) := by kernel_rfl
theorem z177 : zeroOf Tryz.prog 177 = true := by kernel_rfl
theorem zc177 : (Tryz.prog.info? 177).map (fun i => (i.zero.map (·.cells.size))) = some (some 4) := by kernel_rfl
theorem zl177 : zeroL Tryz.prog 177 = some [.int .i64 0, .int .i64 0, .bool false, .int .i64 0] := by kernel_rfl
theorem fd177_0 : fldB Tryz.prog 177 0 = some 0 := by kernel_rfl
theorem fd177_1 : fldB Tryz.prog 177 1 = some 1 := by kernel_rfl
theorem fd177_2 : fldB Tryz.prog 177 2 = some 2 := by kernel_rfl
theorem fd177_3 : fldB Tryz.prog 177 3 = some 3 := by kernel_rfl
theorem ty179 : tyI Tryz.prog 179 = some (4, 80, true) := by kernel_rfl
theorem fd179_0 : fldB Tryz.prog 179 0 = some 0 := by kernel_rfl
theorem fd179_1 : fldB Tryz.prog 179 1 = some 1 := by kernel_rfl
theorem fd179_2 : fldB Tryz.prog 179 2 = some 2 := by kernel_rfl
theorem fd179_3 : fldB Tryz.prog 179 3 = some 3 := by kernel_rfl
theorem u181 : Tryz.prog.underlying 181 = some (TypeDesc.slice 174) := by kernel_rfl
theorem u210 : Tryz.prog.underlying 210 = some (TypeDesc.slice 5) := by kernel_rfl
end Go.Proofs.YtjgfldfbljmhhaaGreat
namespace Go.Proofs.YtjgfldfbljmhhaaGreat
open Go Go.Sh Go.Proofs
set_option linter.unusedVariables false
theorem rd_neqB {P : Program} {w : World} {K : Value → Prop} {t : TypeId} {x y : Operand} {a b : Bool} (ht : P.underlying t = some .bool) (k : K (.bool (decide (a ≠ b)))) : RD P (bin .neq t x y (.bool a) (.bool b)) w K :=
  rd_of (fun w' _ => by
    have := run_neq_bool (P := P) w' t a b ht
    cases a <;> cases b <;> simp_all [bin, eqGuard]) k
def sm {α : Type} (f : α → Nat) (l : List α) : Nat := (l.map f).sum
theorem sm_take {α : Type} (f : α → Nat) {l : List α} {k : Nat} (h : k < l.length) : sm f (l.take (k + 1)) = sm f (l.take k) + f l[k] := by
  unfold sm
  rw [List.take_succ_eq_append_getElem h, List.map_append, List.sum_append]
  simp
theorem sm_mem {α : Type} (f : α → Nat) {l : List α} {x : α} (h : x ∈ l) : f x ≤ sm f l := by
  unfold sm
  induction l with
  | nil => cases h
  | cons y l ih =>
    rw [List.map_cons, List.sum_cons]
    rcases List.mem_cons.1 h with rfl | h
    · omega
    · have := ih h; omega
def nLL (l : List (List Int)) : Nat := sm List.length l
theorem nLL_take {l : List (List Int)} {i : Nat} (hi : i < l.length) : nLL (l.take (i + 1)) = nLL (l.take i) + l[i].length := sm_take _ hi
theorem nLL_le {l : List (List Int)} (i : Nat) : nLL (l.take i) ≤ nLL l := by
  conv => rhs; rw [← List.take_append_drop i l]
  unfold nLL sm
  rw [List.map_append, List.sum_append]
  omega
theorem eqIntS_ok2 {w w1 w2 : World} {v1 v2 : Value} {l1 l2 : List Int} (h1 : Is w1 v1 l1) (hx1 : Ext w1 w) (h2 : Is w2 v2 l2) (hx2 : Ext w2 w) :
    CALL Tryz.prog 23 [v1, v2] w fun r w' => Ext w w' ∧ r = .bool (decide (l1 = l2)) := eqIntS_ok h1 h2 hx1 hx2
def F36 (a0 a1 : Value) (w : World) (R : Value → World → Prop) : Prop :=
 RD Tryz.prog (Builtin.len_ #[27] 3 [a0].toArray) w fun x7 =>
 RD Tryz.prog (Builtin.len_ #[27] 3 [a1].toArray) w fun x9 =>
 RD Tryz.prog (bin .neq 3 (.tmp 0) (.tmp 0) x7 x9) w fun x10 =>
 BR x10
 (R (Value.bool false) w)
 (LOOPI [5] [(Value.int .i64 0)] w fun u4 w next4 =>
 RD Tryz.prog (Builtin.len_ #[27] 3 [a0].toArray) w fun x13 =>
 RD Tryz.prog (bin .lss 3 (.tmp 0) (.tmp 0) (u4 5) x13) w fun x14 =>
 BR x14
 ((fun w => RD Tryz.prog (Instr.indexAt 27 a0 (u4 5)) w fun x19 =>
 RD Tryz.prog (Instr.loadAt 23 x19) w fun x20 =>
 RD Tryz.prog (Instr.indexAt 27 a1 (u4 5)) w fun x23 =>
 RD Tryz.prog (Instr.loadAt 23 x23) w fun x24 =>
 CALL Tryz.prog 23 [x20, x24] w fun x25 w =>
 RD Tryz.prog (Op.unary .not x25) w fun x26 =>
 BR x26
 (R (Value.bool false) w)
 (RD Tryz.prog (bin .add 3 (.tmp 0) (.const undef) (u4 5) (Value.int .i64 1)) w fun x16 =>
 next4 [x16] w)) (World.drew1 w))
 (R (Value.bool true) w))
def cfg36 : Cfg := { ext := extL, joins := [], loops := [(4, 134215728, [5])], draws := [(6, [0, 1, 2, 3, 4, 5, 6, 7, 8, 9], 0)], pars := [] }
theorem F36_eq (a0 a1 : Value) (w : World) (R : Value → World → Prop) : vcF Tryz.prog cfg36 Tryz.f36 [a0, a1] w R = F36 a0 a1 w R := by kernel_rfl
theorem F36_call {a0 a1 : Value} {w : World} {R : Value → World → Prop} (h : F36 a0 a1 w R) : CALL Tryz.prog 36 [a0, a1] w R :=
  call_of (g := cfg36) ent mixed Tryz.func36 (Nat.le_of_ble_eq_true (by kernel_rfl)) (by kernel_rfl) (F36_eq a0 a1 w R ▸ h)
theorem eqIntSS_ok {w : World} {v0 : Value} {W0 : World} {l1 : (List (List Int))} {v1 : Value} {W1 : World} {l2 : (List (List Int))}  (h0 : Is W0 v0 l1) (e0 : Ext W0 w) (h1 : Is W1 v1 l2) (e1 : Ext W1 w)  :
    CALL Tryz.prog 36 [v0, v1] w fun r w' => Ext w w' ∧ (r = .bool (decide (l1 = l2))) := by
  refine F36_call ?_
  unfold F36
  have hl1 := is_len h0
  have hln7 := is_len h0
  refine rd_len u27 h0 ?_
  have hln9 := is_len h1
  refine rd_len u27 h1 ?_
  refine rd_neq ?_
  refine br (fun c1 => ?_) (fun c1 => ?_)
  · refine ⟨Ext.refl w, ?_⟩
    have : l1 ≠ l2 := fun e => c1 (by rw [e])
    simp [this]
  · refine loopC (l1.length) (fun k us w' => us = [.int .i64 (k : Int)] ∧ Ext w w' ∧ (l1.take k = l2.take k)) (0) (by omega) ⟨by simp, Ext.refl w, by simp⟩ ?_
    rintro k m4 uu4 w1_ hk4 ⟨hu, hx1_, hinv⟩
    simp only [List.map_cons, List.map_nil, List.cons.injEq, and_true] at hu
    try rw [hu]
    try clear hu
    have hln13 := is_len h0
    refine rd_len u27 h0 ?_
    refine rd_lss ?_
    refine br (fun c2 => ?_) (fun c2 => ?_)
    · have hx2_ := ext_drew w1_
      refine rd_indexN u27 ty23 h0 (by omega) fun b19 o19 h19 => ?_
      refine rd_load ty23 h19 (e0.trans (hx1_.trans hx2_)) fun v20 h20 => ?_
      refine rd_indexN u27 ty23 h1 (by omega) fun b23 o23 h23 => ?_
      refine rd_load ty23 h23 (e1.trans (hx1_.trans hx2_)) fun v24 h24 => ?_
      refine (eqIntS_ok2 h20 (e0.trans (hx1_.trans hx2_)) h24 (e1.trans (hx1_.trans hx2_))).mono ?_
      rintro _ w3_ ⟨hx3_, rfl⟩
      refine rd_nodec ?_
      refine br (fun c3 => ?_) (fun c3 => ?_)
      · refine ⟨(hx1_.trans (hx2_.trans hx3_)), ?_⟩
        have : l1 ≠ l2 := fun e => c3 (by subst e; rfl)
        simp [this]
      · refine rd_inc (by omega) ?_
        refine ⟨m4 - 1, by omega, k + 1, by omega, by simp, (hx1_.trans (hx2_.trans hx3_)), ?_⟩
        rw [List.take_succ_eq_append_getElem (by omega), List.take_succ_eq_append_getElem (by omega), hinv, Decidable.not_not.1 c3]
    · refine ⟨hx1_, ?_⟩
      rw [List.take_of_length_le (by omega), List.take_of_length_le (by omega)] at hinv
      simp [hinv]
def F52 (a0 a1 : Value) (w : World) (R : Value → World → Prop) : Prop :=
 RD Tryz.prog (Builtin.len_ #[23] 3 [a0].toArray) w fun x7 =>
 RD Tryz.prog (bin .sub 3 (.tmp 0) (.tmp 0) a1 x7) w fun x8 =>
 RD Tryz.prog (bin .lss 3 (.tmp 0) (.const undef) x8 (Value.int .i64 0)) w fun x10 =>
 BR x10
 (R (Value.int .i64 (-1)) w)
 (R x8 w)
def cfg52 : Cfg := { ext := extL, joins := [], loops := [], draws := [], pars := [] }
theorem F52_eq (a0 a1 : Value) (w : World) (R : Value → World → Prop) : vcF Tryz.prog cfg52 Tryz.f52 [a0, a1] w R = F52 a0 a1 w R := by kernel_rfl
theorem F52_call {a0 a1 : Value} {w : World} {R : Value → World → Prop} (h : F52 a0 a1 w R) : CALL Tryz.prog 52 [a0, a1] w R :=
  call_of (g := cfg52) ent mixed Tryz.func52 (Nat.le_of_ble_eq_true (by kernel_rfl)) (by kernel_rfl) (F52_eq a0 a1 w R ▸ h)
theorem szIntS_ok {w : World} {v0 : Value} {W0 : World} {l : (List Int)} {left : Int}  (h0 : Is W0 v0 l) (e0 : Ext W0 w) (hl0 : -1 ≤ left) (hl1 : left ≤ 1048576) :
    CALL Tryz.prog 52 [v0, .int .i64 left] w fun r w' => Ext w w' ∧ (∃ n : Int, r = .int .i64 n ∧ -1 ≤ n ∧ n ≤ left ∧ (0 ≤ n → n + l.length ≤ left)) := by
  refine F52_call ?_
  unfold F52
  have hl := is_len h0
  have hln7 := is_len h0
  refine rd_len u23 h0 ?_
  refine rd_sub (by unfold I64; omega) ?_
  refine rd_lss ?_
  refine br (fun c1 => ?_) (fun c1 => ?_)
  · refine ⟨Ext.refl w, ?_⟩
    exact ⟨-1, rfl, by omega, by omega, by omega⟩
  · refine ⟨Ext.refl w, ?_⟩
    exact ⟨_, rfl, by omega, by omega, by omega⟩
def F103 (a0 a1 : Value) (w : World) (R : Value → World → Prop) : Prop :=
 OP Tryz.prog (Instr.box 109 a0) w fun x2 w =>
 OP Tryz.prog (Instr.box 109 a1) w fun x3 w =>
 RD Tryz.prog (Instr.fieldAt 109 x2 0) w fun x5 =>
 RD Tryz.prog (Instr.loadAt 3 x5) w fun x6 =>
 RD Tryz.prog (Instr.fieldAt 109 x3 0) w fun x7 =>
 RD Tryz.prog (Instr.loadAt 3 x7) w fun x8 =>
 RD Tryz.prog (bin .neq 3 (.tmp 0) (.tmp 0) x6 x8) w fun x9 =>
 BR x9
 (R (Value.bool false) w)
 (RD Tryz.prog (Instr.fieldAt 109 x2 1) w fun x10 =>
 RD Tryz.prog (Instr.loadAt 3 x10) w fun x11 =>
 RD Tryz.prog (Instr.fieldAt 109 x3 1) w fun x12 =>
 RD Tryz.prog (Instr.loadAt 3 x12) w fun x13 =>
 RD Tryz.prog (bin .neq 3 (.tmp 0) (.tmp 0) x11 x13) w fun x14 =>
 BR x14
 (R (Value.bool false) w)
 (RD Tryz.prog (Instr.fieldAt 109 x2 2) w fun x15 =>
 RD Tryz.prog (Instr.loadAt 3 x15) w fun x16 =>
 RD Tryz.prog (Instr.fieldAt 109 x3 2) w fun x17 =>
 RD Tryz.prog (Instr.loadAt 3 x17) w fun x18 =>
 RD Tryz.prog (bin .neq 3 (.tmp 0) (.tmp 0) x16 x18) w fun x19 =>
 BR x19
 (R (Value.bool false) w)
 (R (Value.bool true) w)))
def cfg103 : Cfg := { ext := extL, joins := [], loops := [], draws := [], pars := [] }
theorem F103_eq (a0 a1 : Value) (w : World) (R : Value → World → Prop) : vcF Tryz.prog cfg103 Tryz.f103 [a0, a1] w R = F103 a0 a1 w R := by kernel_rfl
theorem F103_call {a0 a1 : Value} {w : World} {R : Value → World → Prop} (h : F103 a0 a1 w R) : CALL Tryz.prog 103 [a0, a1] w R :=
  call_of (g := cfg103) ent mixed Tryz.func103 (Nat.le_of_ble_eq_true (by kernel_rfl)) (by kernel_rfl) (F103_eq a0 a1 w R ▸ h)
theorem eqRace_ok {w : World} {v0 : Value} {W0 : World} {s1 : DRace} {v1 : Value} {W1 : World} {s2 : DRace}  (h0 : Is W0 v0 s1) (e0 : Ext W0 w) (h1 : Is W1 v1 s2) (e1 : Ext W1 w)  :
    CALL Tryz.prog 103 [v0, v1] w fun r w' => Ext w w' ∧ (r = .bool (decide (s1 = s2))) := by
  refine F103_call ?_
  unfold F103
  refine op_boxS ty109 rfl h0 e0 fun w1_ hx1_ hA2 hV2 => ?_
  refine op_boxS ty109 rfl h1 (e1.trans hx1_) fun w2_ hx2_ hA3 hV3 => ?_
  refine rd_fld fd109_0 ?_
  refine rd_loadI ty3 (at_DRace_0 hA2) hx2_ fun hI6 => ?_
  refine rd_fld fd109_0 ?_
  refine rd_loadI ty3 (at_DRace_0 hA3) (Ext.refl w2_) fun hI8 => ?_
  refine rd_neq ?_
  refine br (fun c1 => ?_) (fun c1 => ?_)
  · refine ⟨(hx1_.trans hx2_), ?_⟩
    have : s1 ≠ s2 := fun e => c1 (by rw [e])
    simp [this]
  · refine rd_fld fd109_1 ?_
    refine rd_loadI ty3 (at_DRace_1 hA2) hx2_ fun hI11 => ?_
    refine rd_fld fd109_1 ?_
    refine rd_loadI ty3 (at_DRace_1 hA3) (Ext.refl w2_) fun hI13 => ?_
    refine rd_neq ?_
    refine br (fun c2 => ?_) (fun c2 => ?_)
    · refine ⟨(hx1_.trans hx2_), ?_⟩
      have : s1 ≠ s2 := fun e => c2 (by rw [e])
      simp [this]
    · refine rd_fld fd109_2 ?_
      refine rd_loadI ty3 (at_DRace_2 hA2) hx2_ fun hI16 => ?_
      refine rd_fld fd109_2 ?_
      refine rd_loadI ty3 (at_DRace_2 hA3) (Ext.refl w2_) fun hI18 => ?_
      refine rd_neq ?_
      refine br (fun c3 => ?_) (fun c3 => ?_)
      · refine ⟨(hx1_.trans hx2_), ?_⟩
        have : s1 ≠ s2 := fun e => c3 (by rw [e])
        simp [this]
      · refine ⟨(hx1_.trans hx2_), ?_⟩
        have : s1 = s2 := by
          cases s1; cases s2
          simp only [ne_eq, Decidable.not_not] at c1 c2 c3
          rw [c1, c2, c3]
        simp [this]
def F41 (a0 a1 : Value) (w : World) (R : Value → World → Prop) : Prop :=
 RD Tryz.prog (Builtin.len_ #[58] 3 [a0].toArray) w fun x7 =>
 RD Tryz.prog (Builtin.len_ #[58] 3 [a1].toArray) w fun x9 =>
 RD Tryz.prog (bin .neq 3 (.tmp 0) (.tmp 0) x7 x9) w fun x10 =>
 BR x10
 (R (Value.bool false) w)
 (LOOPI [5] [(Value.int .i64 0)] w fun u4 w next4 =>
 RD Tryz.prog (Builtin.len_ #[58] 3 [a0].toArray) w fun x13 =>
 RD Tryz.prog (bin .lss 3 (.tmp 0) (.tmp 0) (u4 5) x13) w fun x14 =>
 BR x14
 ((fun w => RD Tryz.prog (Instr.indexAt 58 a0 (u4 5)) w fun x19 =>
 RD Tryz.prog (Instr.loadAt 109 x19) w fun x20 =>
 RD Tryz.prog (Instr.indexAt 58 a1 (u4 5)) w fun x23 =>
 RD Tryz.prog (Instr.loadAt 109 x23) w fun x24 =>
 CALL Tryz.prog 103 [x20, x24] w fun x25 w =>
 RD Tryz.prog (Op.unary .not x25) w fun x26 =>
 BR x26
 (R (Value.bool false) w)
 (RD Tryz.prog (bin .add 3 (.tmp 0) (.const undef) (u4 5) (Value.int .i64 1)) w fun x16 =>
 next4 [x16] w)) (World.drew1 w))
 (R (Value.bool true) w))
def cfg41 : Cfg := { ext := extL, joins := [], loops := [(4, 134215728, [5])], draws := [(6, [0, 1, 2, 3, 4, 5, 6, 7, 8, 9], 0)], pars := [] }
theorem F41_eq (a0 a1 : Value) (w : World) (R : Value → World → Prop) : vcF Tryz.prog cfg41 Tryz.f41 [a0, a1] w R = F41 a0 a1 w R := by kernel_rfl
theorem F41_call {a0 a1 : Value} {w : World} {R : Value → World → Prop} (h : F41 a0 a1 w R) : CALL Tryz.prog 41 [a0, a1] w R :=
  call_of (g := cfg41) ent mixed Tryz.func41 (Nat.le_of_ble_eq_true (by kernel_rfl)) (by kernel_rfl) (F41_eq a0 a1 w R ▸ h)
theorem eqRaceS_ok {w : World} {v0 : Value} {W0 : World} {l1 : (List DRace)} {v1 : Value} {W1 : World} {l2 : (List DRace)}  (h0 : Is W0 v0 l1) (e0 : Ext W0 w) (h1 : Is W1 v1 l2) (e1 : Ext W1 w)  :
    CALL Tryz.prog 41 [v0, v1] w fun r w' => Ext w w' ∧ (r = .bool (decide (l1 = l2))) := by
  refine F41_call ?_
  unfold F41
  have hl1 := is_len h0
  have hln7 := is_len h0
  refine rd_len u58 h0 ?_
  have hln9 := is_len h1
  refine rd_len u58 h1 ?_
  refine rd_neq ?_
  refine br (fun c1 => ?_) (fun c1 => ?_)
  · refine ⟨Ext.refl w, ?_⟩
    have : l1 ≠ l2 := fun e => c1 (by rw [e])
    simp [this]
  · refine loopC (l1.length) (fun k us w' => us = [.int .i64 (k : Int)] ∧ Ext w w' ∧ (l1.take k = l2.take k)) (0) (by omega) ⟨by simp, Ext.refl w, by simp⟩ ?_
    rintro k m4 uu4 w1_ hk4 ⟨hu, hx1_, hinv⟩
    simp only [List.map_cons, List.map_nil, List.cons.injEq, and_true] at hu
    try rw [hu]
    try clear hu
    have hln13 := is_len h0
    refine rd_len u58 h0 ?_
    refine rd_lss ?_
    refine br (fun c2 => ?_) (fun c2 => ?_)
    · have hx2_ := ext_drew w1_
      refine rd_indexN u58 ty109 h0 (by omega) fun b19 o19 h19 => ?_
      refine rd_load ty109 h19 (e0.trans (hx1_.trans hx2_)) fun v20 h20 => ?_
      refine rd_indexN u58 ty109 h1 (by omega) fun b23 o23 h23 => ?_
      refine rd_load ty109 h23 (e1.trans (hx1_.trans hx2_)) fun v24 h24 => ?_
      refine (eqRace_ok h20 (e0.trans (hx1_.trans hx2_)) h24 (e1.trans (hx1_.trans hx2_))).mono ?_
      rintro _ w3_ ⟨hx3_, rfl⟩
      refine rd_nodec ?_
      refine br (fun c3 => ?_) (fun c3 => ?_)
      · refine ⟨(hx1_.trans (hx2_.trans hx3_)), ?_⟩
        have : l1 ≠ l2 := fun e => c3 (by subst e; rfl)
        simp [this]
      · refine rd_inc (by omega) ?_
        refine ⟨m4 - 1, by omega, k + 1, by omega, by simp, (hx1_.trans (hx2_.trans hx3_)), ?_⟩
        rw [List.take_succ_eq_append_getElem (by omega), List.take_succ_eq_append_getElem (by omega), hinv, Decidable.not_not.1 c3]
    · refine ⟨hx1_, ?_⟩
      rw [List.take_of_length_le (by omega), List.take_of_length_le (by omega)] at hinv
      simp [hinv]
def F122 (a0 a1 a2 : Value) (w : World) (R : Value → World → Prop) : Prop :=
 RD Tryz.prog (bin .geq 3 (.tmp 0) (.tmp 0) a0 a1) w fun x9 =>
 BR x9
 (RD Tryz.prog (bin .leq 3 (.tmp 0) (.tmp 0) a0 a2) w fun x13 =>
 R x13 w)
 (R (Value.bool false) w)
def cfg122 : Cfg := { ext := extL, joins := [], loops := [], draws := [], pars := [] }
theorem F122_eq (a0 a1 a2 : Value) (w : World) (R : Value → World → Prop) : vcF Tryz.prog cfg122 Tryz.f122 [a0, a1, a2] w R = F122 a0 a1 a2 w R := by kernel_rfl
theorem F122_call {a0 a1 a2 : Value} {w : World} {R : Value → World → Prop} (h : F122 a0 a1 a2 w R) : CALL Tryz.prog 122 [a0, a1, a2] w R :=
  call_of (g := cfg122) ent mixed Tryz.func122 (Nat.le_of_ble_eq_true (by kernel_rfl)) (by kernel_rfl) (F122_eq a0 a1 a2 w R ▸ h)
theorem l01In_ok {w : World} {a : Int} {b : Int} {c : Int}    :
    CALL Tryz.prog 122 [.int .i64 a, .int .i64 b, .int .i64 c] w fun r w' => Ext w w' ∧ (r = .bool (decide (b ≤ a ∧ a ≤ c))) := by
  refine F122_call ?_
  unfold F122
  refine rd_geq ?_
  refine br (fun c1 => ?_) (fun c1 => ?_)
  · refine rd_leq ?_
    refine ⟨Ext.refl w, ?_⟩
    simp [c1]
  · refine ⟨Ext.refl w, ?_⟩
    simp [c1]
def atOf (s : DState) (t : Int) : Int := if h : 0 ≤ t ∧ t.toNat < s.stacks.length then (s.stacks[t.toNat]'h.2).getLastD (-1) else -1
theorem getLastD_eq {l : List Int} (h : l ≠ []) (hi : ((l.length : Int) - 1).toNat < l.length) : l[((l.length : Int) - 1).toNat]'hi = l.getLastD (-1) := by
  have e : ((l.length : Int) - 1).toNat = l.length - 1 := by omega
  simp only [e]
  rw [List.getLastD_eq_getLast?, List.getLast?_eq_getElem?, List.getElem?_eq_getElem (by omega)]
  rfl
def F58 (a0 a1 : Value) (w : World) (R : Value → World → Prop) : Prop :=
 OP Tryz.prog (Instr.box 37 a0) w fun x2 w =>
 RD Tryz.prog (Instr.fieldAt 37 x2 2) w fun x6 =>
 RD Tryz.prog (Instr.loadAt 27 x6) w fun x7 =>
 RD Tryz.prog (Builtin.len_ #[27] 3 [x7].toArray) w fun x8 =>
 RD Tryz.prog (bin .sub 3 (.tmp 0) (.const undef) x8 (Value.int .i64 1)) w fun x9 =>
 CALL Tryz.prog 122 [a1, (Value.int .i64 0), x9] w fun x10 w =>
 RD Tryz.prog (Op.unary .not x10) w fun x11 =>
 BR x11
 (R (Value.int .i64 (-1)) w)
 (RD Tryz.prog (Instr.fieldAt 37 x2 2) w fun x13 =>
 RD Tryz.prog (Instr.loadAt 27 x13) w fun x14 =>
 RD Tryz.prog (Instr.indexAt 27 x14 a1) w fun x16 =>
 RD Tryz.prog (Instr.loadAt 23 x16) w fun x17 =>
 RD Tryz.prog (Builtin.len_ #[23] 3 [x17].toArray) w fun x18 =>
 RD Tryz.prog (bin .eql 3 (.tmp 0) (.const undef) x18 (Value.int .i64 0)) w fun x19 =>
 BR x19
 (R (Value.int .i64 (-1)) w)
 ((fun w => RD Tryz.prog (Instr.fieldAt 37 x2 2) w fun x21 =>
 RD Tryz.prog (Instr.loadAt 27 x21) w fun x22 =>
 RD Tryz.prog (Instr.indexAt 27 x22 a1) w fun x24 =>
 RD Tryz.prog (Instr.loadAt 23 x24) w fun x25 =>
 RD Tryz.prog (Instr.fieldAt 37 x2 2) w fun x26 =>
 RD Tryz.prog (Instr.loadAt 27 x26) w fun x27 =>
 RD Tryz.prog (Instr.indexAt 27 x27 a1) w fun x29 =>
 RD Tryz.prog (Instr.loadAt 23 x29) w fun x30 =>
 RD Tryz.prog (Builtin.len_ #[23] 3 [x30].toArray) w fun x31 =>
 RD Tryz.prog (bin .sub 3 (.tmp 0) (.const undef) x31 (Value.int .i64 1)) w fun x32 =>
 RD Tryz.prog (Instr.indexAt 23 x25 x32) w fun x33 =>
 RD Tryz.prog (Instr.loadAt 3 x33) w fun x34 =>
 R x34 w) (World.drew1 w)))
def cfg58 : Cfg := { ext := extL, joins := [], loops := [], draws := [(3, [0, 1, 2, 3, 4, 5, 6, 7, 8, 9, 10, 11, 12, 13, 14], 0)], pars := [] }
theorem F58_eq (a0 a1 : Value) (w : World) (R : Value → World → Prop) : vcF Tryz.prog cfg58 Tryz.f58 [a0, a1] w R = F58 a0 a1 w R := by kernel_rfl
theorem F58_call {a0 a1 : Value} {w : World} {R : Value → World → Prop} (h : F58 a0 a1 w R) : CALL Tryz.prog 58 [a0, a1] w R :=
  call_of (g := cfg58) ent mixed Tryz.func58 (Nat.le_of_ble_eq_true (by kernel_rfl)) (by kernel_rfl) (F58_eq a0 a1 w R ▸ h)
theorem specAtOf_ok {w : World} {v0 : Value} {W0 : World} {s : DState} {t : Int}  (h0 : Is W0 v0 s) (e0 : Ext W0 w)  :
    CALL Tryz.prog 58 [v0, .int .i64 t] w fun r w' => Ext w w' ∧ (r = .int .i64 (atOf s t)) := by
  refine F58_call ?_
  unfold F58
  refine op_boxS ty37 rfl h0 e0 fun w1_ hx1_ hA2 hV2 => ?_
  refine rd_fld fd37_2 ?_
  refine rd_load ty27 (at_DState_2 hA2) (Ext.refl w1_) fun v7 h7 => ?_
  have hln8 := is_len h7
  refine rd_len u27 h7 ?_
  refine rd_sub (by unfold I64; omega) ?_
  refine (l01In_ok ).mono ?_
  rintro _ w2_ ⟨hx2_, rfl⟩
  refine rd_nodec ?_
  refine br (fun c1 => ?_) (fun c1 => ?_)
  · refine ⟨(hx1_.trans hx2_), ?_⟩
    unfold atOf
    rw [dif_neg (by omega)]
  · refine rd_fld fd37_2 ?_
    refine rd_load ty27 (at_DState_2 hA2) hx2_ fun v14 h14 => ?_
    refine rd_index u27 ty23 h14 (by omega) (by omega) fun b16 o16 h16 => ?_
    refine rd_load ty23 h16 hx2_ fun v17 h17 => ?_
    have hln18 := is_len h17
    refine rd_len u23 h17 ?_
    refine rd_eql ?_
    refine br (fun c2 => ?_) (fun c2 => ?_)
    · refine ⟨(hx1_.trans hx2_), ?_⟩
      unfold atOf
      rw [dif_pos (by omega)]
      have : s.stacks[t.toNat]'(by omega) = [] := List.eq_nil_of_length_eq_zero (by omega)
      rw [this]; rfl
    · have hx3_ := ext_drew w2_
      refine rd_fld fd37_2 ?_
      refine rd_load ty27 (at_DState_2 hA2) (hx2_.trans hx3_) fun v22 h22 => ?_
      refine rd_index u27 ty23 h22 (by omega) (by omega) fun b24 o24 h24 => ?_
      refine rd_load ty23 h24 (hx2_.trans hx3_) fun v25 h25 => ?_
      refine rd_fld fd37_2 ?_
      refine rd_load ty27 (at_DState_2 hA2) (hx2_.trans hx3_) fun v27 h27 => ?_
      refine rd_index u27 ty23 h27 (by omega) (by omega) fun b29 o29 h29 => ?_
      refine rd_load ty23 h29 (hx2_.trans hx3_) fun v30 h30 => ?_
      have hln31 := is_len h30
      refine rd_len u23 h30 ?_
      refine rd_sub (by unfold I64; omega) ?_
      refine rd_index u23 ty3 h25 (by omega) (by omega) fun b33 o33 h33 => ?_
      refine rd_loadI ty3 h33 (hx2_.trans hx3_) fun hI34 => ?_
      refine ⟨(hx1_.trans (hx2_.trans hx3_)), ?_⟩
      unfold atOf
      rw [dif_pos (by omega)]
      rw [getLastD_eq (fun e => by rw [e] at c2; simp at c2)]
def F69 (a0 a1 : Value) (w : World) (R : Value → World → Prop) : Prop :=
 OP Tryz.prog (Instr.box 37 a0) w fun x2 w =>
 RD Tryz.prog (bin .lss 3 (.tmp 0) (.const undef) a1 (Value.int .i64 0)) w fun x6 =>
 BR x6
 (R (Value.int .i64 (-1)) w)
 (RD Tryz.prog (Instr.fieldAt 37 x2 2) w fun x9 =>
 RD Tryz.prog (Instr.loadAt 27 x9) w fun x10 =>
 RD Tryz.prog (Builtin.len_ #[27] 3 [x10].toArray) w fun x11 =>
 RD Tryz.prog (bin .geq 3 (.tmp 0) (.tmp 0) a1 x11) w fun x12 =>
 BR x12
 (R (Value.int .i64 (-1)) w)
 (RD Tryz.prog (Instr.fieldAt 37 x2 2) w fun x15 =>
 RD Tryz.prog (Instr.loadAt 27 x15) w fun x16 =>
 RD Tryz.prog (Instr.indexAt 27 x16 a1) w fun x18 =>
 RD Tryz.prog (Instr.loadAt 23 x18) w fun x19 =>
 RD Tryz.prog (Builtin.len_ #[23] 3 [x19].toArray) w fun x20 =>
 RD Tryz.prog (bin .eql 3 (.tmp 0) (.const undef) x20 (Value.int .i64 0)) w fun x21 =>
 BR x21
 (R (Value.int .i64 (-1)) w)
 ((fun w => RD Tryz.prog (Instr.fieldAt 37 x2 2) w fun x23 =>
 RD Tryz.prog (Instr.loadAt 27 x23) w fun x24 =>
 RD Tryz.prog (Instr.indexAt 27 x24 a1) w fun x26 =>
 RD Tryz.prog (Instr.loadAt 23 x26) w fun x27 =>
 RD Tryz.prog (Instr.fieldAt 37 x2 2) w fun x28 =>
 RD Tryz.prog (Instr.loadAt 27 x28) w fun x29 =>
 RD Tryz.prog (Instr.indexAt 27 x29 a1) w fun x31 =>
 RD Tryz.prog (Instr.loadAt 23 x31) w fun x32 =>
 RD Tryz.prog (Builtin.len_ #[23] 3 [x32].toArray) w fun x33 =>
 RD Tryz.prog (bin .sub 3 (.tmp 0) (.const undef) x33 (Value.int .i64 1)) w fun x34 =>
 RD Tryz.prog (Instr.indexAt 23 x27 x34) w fun x35 =>
 RD Tryz.prog (Instr.loadAt 3 x35) w fun x36 =>
 R x36 w) (World.drew1 w))))
def cfg69 : Cfg := { ext := extL, joins := [], loops := [], draws := [(3, [0, 1, 2, 3, 4, 5, 6, 7, 8, 9, 10, 11, 12, 13, 14], 0)], pars := [] }
theorem F69_eq (a0 a1 : Value) (w : World) (R : Value → World → Prop) : vcF Tryz.prog cfg69 Tryz.f69 [a0, a1] w R = F69 a0 a1 w R := by kernel_rfl
theorem F69_call {a0 a1 : Value} {w : World} {R : Value → World → Prop} (h : F69 a0 a1 w R) : CALL Tryz.prog 69 [a0, a1] w R :=
  call_of (g := cfg69) ent mixed Tryz.func69 (Nat.le_of_ble_eq_true (by kernel_rfl)) (by kernel_rfl) (F69_eq a0 a1 w R ▸ h)
theorem implAtOf_ok {w : World} {v0 : Value} {W0 : World} {s : DState} {t : Int}  (h0 : Is W0 v0 s) (e0 : Ext W0 w)  :
    CALL Tryz.prog 69 [v0, .int .i64 t] w fun r w' => Ext w w' ∧ (r = .int .i64 (atOf s t)) := by
  refine F69_call ?_
  unfold F69
  refine op_boxS ty37 rfl h0 e0 fun w1_ hx1_ hA2 hV2 => ?_
  refine rd_lss ?_
  refine br (fun c1 => ?_) (fun c1 => ?_)
  · refine ⟨hx1_, ?_⟩
    unfold atOf
    rw [dif_neg (by omega)]
  · refine rd_fld fd37_2 ?_
    refine rd_load ty27 (at_DState_2 hA2) (Ext.refl w1_) fun v10 h10 => ?_
    have hln11 := is_len h10
    refine rd_len u27 h10 ?_
    refine rd_geq ?_
    refine br (fun c2 => ?_) (fun c2 => ?_)
    · refine ⟨hx1_, ?_⟩
      unfold atOf
      rw [dif_neg (by omega)]
    · refine rd_fld fd37_2 ?_
      refine rd_load ty27 (at_DState_2 hA2) (Ext.refl w1_) fun v16 h16 => ?_
      refine rd_index u27 ty23 h16 (by omega) (by omega) fun b18 o18 h18 => ?_
      refine rd_load ty23 h18 (Ext.refl w1_) fun v19 h19 => ?_
      have hln20 := is_len h19
      refine rd_len u23 h19 ?_
      refine rd_eql ?_
      refine br (fun c3 => ?_) (fun c3 => ?_)
      · refine ⟨hx1_, ?_⟩
        unfold atOf
        rw [dif_pos (by omega)]
        have : s.stacks[t.toNat]'(by omega) = [] := List.eq_nil_of_length_eq_zero (by omega)
        rw [this]; rfl
      · have hx2_ := ext_drew w1_
        refine rd_fld fd37_2 ?_
        refine rd_load ty27 (at_DState_2 hA2) hx2_ fun v24 h24 => ?_
        refine rd_index u27 ty23 h24 (by omega) (by omega) fun b26 o26 h26 => ?_
        refine rd_load ty23 h26 hx2_ fun v27 h27 => ?_
        refine rd_fld fd37_2 ?_
        refine rd_load ty27 (at_DState_2 hA2) hx2_ fun v29 h29 => ?_
        refine rd_index u27 ty23 h29 (by omega) (by omega) fun b31 o31 h31 => ?_
        refine rd_load ty23 h31 hx2_ fun v32 h32 => ?_
        have hln33 := is_len h32
        refine rd_len u23 h32 ?_
        refine rd_sub (by unfold I64; omega) ?_
        refine rd_index u23 ty3 h27 (by omega) (by omega) fun b35 o35 h35 => ?_
        refine rd_loadI ty3 h35 hx2_ fun hI36 => ?_
        refine ⟨(hx1_.trans hx2_), ?_⟩
        unfold atOf
        rw [dif_pos (by omega)]
        rw [getLastD_eq (fun e => by rw [e] at c3; simp at c3)]
end Go.Proofs.YtjgfldfbljmhhaaGreat
namespace Go.Sh
set_option linter.unusedVariables false
set_option linter.unusedSimpArgs false
set_option linter.unusedSectionVars false
open Rep (rep)
section
variable {P : Program} {w : World} {α : Type} [Rep α] [Flat α] {b o n cap k : Nat} {l : List α}
theorem mine_parts {F : List Nat} {v : Value} (hm : Mine F w v l) (hl : l ≠ []) : ∃ b o cap xs, v = .slice (some ⟨b, o, none⟩) l.length cap ∧ F = [b] ∧ l.length ≤ cap ∧ cap ≤ maxLen ∧ Cells [] w xs l ∧ w.rangeAt b o xs ∧ (∃ c e, w.heap[b]? = some (.cells c e (0, 0))) := by
  obtain ⟨⟨cs, ⟨a, cap, Fi, xs, rfl, h1, h2, hc, h4⟩, rfl⟩, hn, hw⟩ := hm
  rcases h4 with ⟨h4, _⟩ | ⟨b, o, rfl, rfl, hr, hb⟩
  · exact absurd h4 hl
  have hFi := Cells.flat (xs := xs) hc
  subst hFi
  exact ⟨b, o, cap, xs, rfl, rfl, h1, h2, hc, hr, hw b (by simp)⟩
theorem mine_of_parts {xs : List Value} (h1 : l.length ≤ cap) (h2 : cap ≤ maxLen) (hc : Cells [] w xs l) (hr : w.rangeAt b o xs) (hw : ∃ c e, w.heap[b]? = some (.cells c e (0, 0))) : Mine [b] w (.slice (some ⟨b, o, none⟩) l.length cap) l :=
  ⟨⟨_, ⟨some ⟨b, o, none⟩, cap, [], xs, rfl, h1, h2, hc, .inr ⟨b, o, rfl, rfl, hr, by obtain ⟨c, e, h⟩ := hw; exact (Array.getElem?_eq_some_iff.1 h).1⟩⟩, rfl⟩, by simp, fun i hi => by simp at hi; subst hi; exact hw⟩
theorem rd_cutF {t e : TypeId} {by_ : Nat} {K : Value → Prop} (ht : P.underlying t = some (.slice e)) (he : tyI P e = some (Rep.size α, by_, Rep.agg α)) (hk : k ≤ n) (hn : n ≤ cap) (kk : K (.slice (some ⟨b, o, none⟩) k cap)) :
    RD P (Instr.sliceAt t (.slice (some ⟨b, o, none⟩) n cap) none (some (.int .i64 (k : Int))) none) w K := by
  refine rd_of (fun w' _ => ?_) kk
  have hbd : (Instr.sliceBounds true n cap none (some (.int .i64 (k : Int))) none).run P w' = .ok (0, k, cap) w' := by
    have h5 : (k : Int) ≤ (cap : Int) := by omega
    simp [Instr.sliceBounds, Instr.sliceBound, asIntOf, h5]
    intro h6
    omega
  simp only [Instr.sliceAt, Instr.slice, Sem.run_bind, run_underlying ht, Result.andThen_ok, hbd, run_sizeOf' he]
  simp [Addr.add_mid]
theorem rd_dropF {t e : TypeId} {by_ : Nat} {K : Value → Prop} (ht : P.underlying t = some (.slice e)) (he : tyI P e = some (Rep.size α, by_, Rep.agg α)) (hk : k ≤ n) (hn : n ≤ cap) (kk : K (.slice (if cap = k then some ⟨b, o, none⟩ else some ⟨b, o + k * Rep.size α, none⟩) (n - k) (cap - k))) :
    RD P (Instr.sliceAt t (.slice (some ⟨b, o, none⟩) n cap) (some (.int .i64 (k : Int))) none none) w K := by
  refine rd_of (fun w' _ => ?_) kk
  have hb : (Instr.sliceBounds true n cap (some (.int .i64 (k : Int))) none none).run P w' = .ok (k, n, cap) w' := by
    have : (k : Int) ≤ (n : Int) := by omega
    simp [Instr.sliceBounds, Instr.sliceBound, asIntOf, this]
    try (intro h; omega)
  simp [Instr.sliceAt, Instr.slice, run_underlying ht, hb, run_sizeOf' he, Addr.add_mid]
theorem rd_clipF {t e : TypeId} {by_ j : Nat} {K : Value → Prop} (ht : P.underlying t = some (.slice e)) (he : tyI P e = some (Rep.size α, by_, Rep.agg α)) (hk : k ≤ j) (hn : j ≤ cap) {a : Option Addr} (kk : ∀ a', (k ≠ 0 → a' = a) → K (.slice a' k j)) :
    RD P (Instr.sliceAt t (.slice a n cap) none (some (.int .i64 (k : Int))) (some (.int .i64 (j : Int)))) w K := by
  have hb : ∀ w', (Instr.sliceBounds true n cap none (some (.int .i64 (k : Int))) (some (.int .i64 (j : Int)))).run P w' = .ok (0, k, j) w' := fun w' => by
    have h1 : (j : Int) ≤ (cap : Int) := by omega
    have h2 : (k : Int) ≤ (j : Int) := by omega
    simp [Instr.sliceBounds, Instr.sliceBound, asIntOf, h1, h2]
    try (intro h; omega)
  have : ∃ a', (∀ w', (Instr.sliceAt t (.slice a n cap) none (some (.int .i64 (k : Int))) (some (.int .i64 (j : Int)))).run P w' = .ok (.slice a' k j) w') ∧ (k ≠ 0 → a' = a) := by
    cases a with
    | none => exact ⟨none, fun w' => by simp [Instr.sliceAt, Instr.slice, run_underlying ht, hb, run_sizeOf' he], fun _ => rfl⟩
    | some a => exact ⟨some a, fun w' => by simp [Instr.sliceAt, Instr.slice, run_underlying ht, hb, run_sizeOf' he, Addr.add], fun _ => rfl⟩
  obtain ⟨a', h1, h2⟩ := this
  exact rd_of (fun w' _ => h1 w') (kk a' h2)
theorem op_clearF [RepZ α] {t e ty : TypeId} {K : Value → World → Prop} (ht : P.underlying t = some (.slice e)) (hz : zeroL P e = some (RepZ.zc α)) (hm : Mine [b] w (.slice (some ⟨b, o, none⟩) n cap) l) (hl : l.length = n) (hk : k ≤ n) (hk0 : 0 < k) (hn : n ≤ cap)
    (kk : ∀ w', Chg [b] w w' → Mine [b] w' (.slice (some ⟨b, o, none⟩) k cap) (l.take k) → K (.tuple #[]) w') :
    OP P (Builtin.clear_ #[t] ty [Value.slice (if cap = k then some ⟨b, o, none⟩ else some ⟨b, o + k * Rep.size α, none⟩) (n - k) (cap - k)].toArray) w K := by
  have hne : l ≠ [] := fun e => by rw [e] at hl; simp at hl; omega
  obtain ⟨b', o', cap', xs, hv, hb', h1, h2, hc, hr, hw⟩ := mine_parts hm hne
  simp only [Value.slice.injEq, Option.some.injEq, Addr.mk.injEq] at hv
  obtain ⟨⟨rfl, rfl, _⟩, hnl, rfl⟩ := hv
  have htk : (l.take k).length = k := by simp; omega
  have e0 : l = l.take k ++ l.drop k := by simp
  have hc' := hc
  rw [e0] at hc'
  obtain ⟨F1, F2, x1, x2, hFF, rfl, c1, c2⟩ := Cells.split hc'
  obtain ⟨rfl, rfl⟩ := List.append_eq_nil_iff.1 hFF.symm
  have hx1 : x1.length = k * Rep.size α := by rw [Cells.len c1, htk]
  have hr1 := (rangeAt_append hr).1
  by_cases hnk : n = k
  · subst hnk
    refine ⟨.tuple #[], w, ?_, kk w (Chg.refl _ _) ?_⟩
    · rw [Nat.sub_self]
      by_cases hck : cap = n
      · rw [if_pos hck]; simp [Builtin.clear_, run_underlying ht]
      · rw [if_neg hck]; simp [Builtin.clear_, run_underlying ht]
    · have := mine_of_parts (l := l.take n) (cap := cap) (by omega) h2 c1 hr1 hw
      rwa [htk] at this
  · have hck : ¬ cap = k := by omega
    rw [if_neg hck]
    obtain ⟨c, e', he⟩ := hw
    unfold zeroL at hz
    cases hi : P.info? e with
    | none => simp [hi] at hz
    | some i =>
      simp only [hi] at hz
      obtain ⟨z, hzz, hzc⟩ := Option.map_eq_some_iff.1 hz
      have hzl : z.cells.size = Rep.size α := by
        rw [← Array.length_toList, hzc]; exact Rep.len (RepZ.zr (α := α) w)
      have hpos := Rep.pos (α := α)
      obtain ⟨m, hm'⟩ : ∃ m, n - k = m + 1 := ⟨n - k - 1, by omega⟩
      have hzs : (Builtin.zeroCells z.cells (n - k)).toList.length = (n - k) * Rep.size α := by simp [Builtin.zeroCells, hzl]
      have hfit : o + (k * Rep.size α) + 0 + (Builtin.zeroCells z.cells (n - k)).toList.length ≤ c.size := by
        rw [hzs]
        have hx : (x1 ++ x2).length = n * Rep.size α := by rw [Cells.len hc, hl]
        have hlast := hr (n * Rep.size α - 1) ((x1 ++ x2)[n * Rep.size α - 1]'(by rw [hx]; have := Nat.mul_pos (show 0 < n by omega) hpos; omega)) (List.getElem?_eq_getElem _)
        simp only [World.cell?, he] at hlast
        have := (Array.getElem?_eq_some_iff.1 (by simpa using hlast)).1
        have h3 : (n - k) * Rep.size α + k * Rep.size α = n * Rep.size α := by rw [← Nat.add_mul]; congr 1; omega
        have h4 := Nat.mul_pos (show 0 < n by omega) hpos
        omega
      have hone : ∀ v ∈ (Builtin.zeroCells z.cells (n - k)).toList, v.oneCell' = true := fun v hv => by
        simp only [Builtin.zeroCells, Array.toList_map, Array.toList_range, List.mem_map, List.mem_range] at hv
        obtain ⟨i, _, rfl⟩ := hv
        have hlt : i % z.cells.size < z.cells.size := Nat.mod_lt _ (by omega)
        have e3 : z.cells[i % z.cells.size]! = z.cells[i % z.cells.size]'hlt := by simp [hlt]
        rw [e3]
        refine Rep.one (RepZ.zr (α := α) w) _ ?_
        rw [← hzc]
        exact Array.getElem_mem_toList hlt
      have hst := run_storeCells_at (P := P) b (o + k * Rep.size α) e' (Builtin.zeroCells z.cells (n - k)).toList 0 c w he hfit hone
      simp only [Nat.add_zero] at hst
      refine ⟨.tuple #[], _, ?_, kk _ (setRow_chg w b (c.toList.take (o + k * Rep.size α) ++ (Builtin.zeroCells z.cells (n - k)).toList ++ c.toList.drop (o + k * Rep.size α + (Builtin.zeroCells z.cells (n - k)).toList.length)).toArray) ?_⟩
      · rw [hm'] at hst ⊢
        simp [Builtin.clear_, run_underlying ht, zeroValue, typeInfo, hi, hzz, hst]
      · have hB := setRow_heap w b c (c.toList.take (o + k * Rep.size α) ++ (Builtin.zeroCells z.cells (n - k)).toList ++ c.toList.drop (o + k * Rep.size α + (Builtin.zeroCells z.cells (n - k)).toList.length)).toArray e' _ he
        have := mine_of_parts (w := w.setRow b (c.toList.take (o + k * Rep.size α) ++ (Builtin.zeroCells z.cells (n - k)).toList ++ c.toList.drop (o + k * Rep.size α + (Builtin.zeroCells z.cells (n - k)).toList.length)).toArray) (b := b) (o := o) (l := l.take k) (cap := cap) (xs := x1) (by omega) h2 (c1.keep (by simp)) (fun j v hv => ?_) ⟨_, _, hB⟩
        · rwa [htk] at this
        · have hj := (List.getElem?_eq_some_iff.1 hv).1
          rw [hx1] at hj
          have h5 := hr1 j v hv
          simp only [World.cell?, he] at h5
          have h6 : c[o + j]? = some v := by simpa using h5
          simp only [World.cell?, hB]
          simp only [Option.isSome_none, Bool.false_eq_true, if_false, List.getElem?_toArray]
          rw [List.append_assoc, List.getElem?_append_left (by simp; have := (Array.getElem?_eq_some_iff.1 h6).1; omega), List.getElem?_take, if_pos (by omega)]
          simpa using h6
end
end Go.Sh
namespace Go.Proofs.YtjgfldfbljmhhaaGreat
open Go Go.Sh Go.Proofs
set_option linter.unusedVariables false
set_option linter.unusedSimpArgs false
set_option maxRecDepth 20000 in
theorem rd_eqlDRace {w w0 w1 : World} {K : Value → Prop} {x y : Operand} {v1 v2 : Value} {a b : DRace} (h1 : Is w0 v1 a) (h2 : Is w1 v2 b) (k : K (.bool (decide (a = b)))) : RD Tryz.prog (bin .eql 109 x y v1 v2) w K := by
  obtain ⟨rfl, _⟩ := is_race.1 h1
  obtain ⟨rfl, _⟩ := is_race.1 h2
  refine rd_of (fun w' _ => ?_) k
  have hg : Tryz.prog.eqGuardType Tryz.prog.depth 109 = false := by kernel_rfl
  have e0 : ∀ xs ys w, (eqGuard .eql 109 x y (.agg xs) (.agg ys)).run Tryz.prog w = .ok () w := fun xs ys w => run_eqGuard_agg (P := Tryz.prog) w .eql 109 x y xs ys hg
  have e1 : ∀ xs ys w, (Op.equalIn 10000 109 (.agg xs) (.agg ys)).run Tryz.prog w = (Op.eqFields 9999 xs ys (Tryz.prog.fieldsOf 109).toList).run Tryz.prog w := fun xs ys w => run_equalIn_struct w 9999 109 xs ys (by kernel_rfl) (by kernel_rfl)
  have e2 : (Tryz.prog.fieldsOf 109).toList.map (fun f => (f.name, f.type, f.offset)) = [("Global", 3, 0), ("A", 3, 1), ("B", 3, 2)] := by kernel_rfl
  have e3 : ∀ (c d : Int) (w : World), (Op.equalIn 9999 3 (.int .i64 c) (.int .i64 d)).run Tryz.prog w = .ok (c == d) w := fun c d w => run_equalIn_int w 9998 3 .i64 .i64 c d u3
  have hd : (a = b) ↔ (a.g = b.g ∧ a.a = b.a ∧ a.b = b.b) := ⟨fun e => by rw [e]; exact ⟨rfl, rfl, rfl⟩, fun ⟨x, y, z⟩ => by cases a; cases b; simp only at x y z; rw [x, y, z]⟩
  generalize hF : (Tryz.prog.fieldsOf 109).toList = fs at e1 e2
  match fs, e2 with
  | [f0, f1, f2], e2 =>
    simp only [List.map_cons, List.map_nil, List.cons.injEq, Prod.mk.injEq, and_true] at e2
    obtain ⟨⟨n0, t0, o0⟩, ⟨n1, t1, o1⟩, ⟨n2, t2, o2⟩⟩ := e2
    have p0 : ∀ (a b c : Value) (w : World), (part 3 #[a, b, c] 0).run Tryz.prog w = .ok a w := fun a b c w => by simp [part, run_isAgg ty3]
    have p1 : ∀ (a b c : Value) (w : World), (part 3 #[a, b, c] 1).run Tryz.prog w = .ok b w := fun a b c w => by simp [part, run_isAgg ty3]
    have p2 : ∀ (a b c : Value) (w : World), (part 3 #[a, b, c] 2).run Tryz.prog w = .ok c w := fun a b c w => by simp [part, run_isAgg ty3]
    simp only [bin, Sem.run_bind, e0, Result.andThen_ok, run_eql_struct, e1, Op.eqFields, n0, n1, n2, t0, t1, t2, o0, o1, o2]
    simp only [ne_eq, String.reduceEq, not_false_eq_true, if_true, Sem.run_bind, p0, p1, p2, Result.andThen_ok, e3, Sem.run_ite, Sem.run_pure, hd]
    by_cases x0 : a.g = b.g <;> by_cases x1 : a.a = b.a <;> by_cases x2 : a.b = b.b <;> simp [x0, x1, x2]
set_option maxRecDepth 20000 in
theorem rd_neqDRace {w w0 w1 : World} {K : Value → Prop} {x y : Operand} {v1 v2 : Value} {a b : DRace} (h1 : Is w0 v1 a) (h2 : Is w1 v2 b) (k : K (.bool (decide (a ≠ b)))) : RD Tryz.prog (bin .neq 109 x y v1 v2) w K := by
  obtain ⟨rfl, _⟩ := is_race.1 h1
  obtain ⟨rfl, _⟩ := is_race.1 h2
  refine rd_of (fun w' _ => ?_) k
  have hg : Tryz.prog.eqGuardType Tryz.prog.depth 109 = false := by kernel_rfl
  have e0 : ∀ xs ys w, (eqGuard .neq 109 x y (.agg xs) (.agg ys)).run Tryz.prog w = .ok () w := fun xs ys w => run_eqGuard_agg (P := Tryz.prog) w .neq 109 x y xs ys hg
  have e1 : ∀ xs ys w, (Op.equalIn 10000 109 (.agg xs) (.agg ys)).run Tryz.prog w = (Op.eqFields 9999 xs ys (Tryz.prog.fieldsOf 109).toList).run Tryz.prog w := fun xs ys w => run_equalIn_struct w 9999 109 xs ys (by kernel_rfl) (by kernel_rfl)
  have e2 : (Tryz.prog.fieldsOf 109).toList.map (fun f => (f.name, f.type, f.offset)) = [("Global", 3, 0), ("A", 3, 1), ("B", 3, 2)] := by kernel_rfl
  have e3 : ∀ (c d : Int) (w : World), (Op.equalIn 9999 3 (.int .i64 c) (.int .i64 d)).run Tryz.prog w = .ok (c == d) w := fun c d w => run_equalIn_int w 9998 3 .i64 .i64 c d u3
  have hd : (a = b) ↔ (a.g = b.g ∧ a.a = b.a ∧ a.b = b.b) := ⟨fun e => by rw [e]; exact ⟨rfl, rfl, rfl⟩, fun ⟨x, y, z⟩ => by cases a; cases b; simp only at x y z; rw [x, y, z]⟩
  generalize hF : (Tryz.prog.fieldsOf 109).toList = fs at e1 e2
  match fs, e2 with
  | [f0, f1, f2], e2 =>
    simp only [List.map_cons, List.map_nil, List.cons.injEq, Prod.mk.injEq, and_true] at e2
    obtain ⟨⟨n0, t0, o0⟩, ⟨n1, t1, o1⟩, ⟨n2, t2, o2⟩⟩ := e2
    have p0 : ∀ (a b c : Value) (w : World), (part 3 #[a, b, c] 0).run Tryz.prog w = .ok a w := fun a b c w => by simp [part, run_isAgg ty3]
    have p1 : ∀ (a b c : Value) (w : World), (part 3 #[a, b, c] 1).run Tryz.prog w = .ok b w := fun a b c w => by simp [part, run_isAgg ty3]
    have p2 : ∀ (a b c : Value) (w : World), (part 3 #[a, b, c] 2).run Tryz.prog w = .ok c w := fun a b c w => by simp [part, run_isAgg ty3]
    simp only [bin, Sem.run_bind, e0, Result.andThen_ok, run_neq_struct, e1, Op.eqFields, n0, n1, n2, t0, t1, t2, o0, o1, o2]
    simp only [ne_eq, String.reduceEq, not_false_eq_true, if_true, Sem.run_bind, p0, p1, p2, Result.andThen_ok, e3, Sem.run_ite, Sem.run_pure, hd]
    by_cases x0 : a.g = b.g <;> by_cases x1 : a.a = b.a <;> by_cases x2 : a.b = b.b <;> simp [x0, x1, x2, hd]
end Go.Proofs.YtjgfldfbljmhhaaGreat
namespace Go.Sh
set_option linter.unusedVariables false
open Rep (rep)
abbrev RInts := RV Int 3
abbrev RIntss := RV RInts 23
structure DStV where
  vars : List Int
  owner : List Int
  stacks : RIntss
theorem DStV.ext_iff {x y : DStV} : x = y ↔ (x.vars = y.vars ∧ x.owner = y.owner ∧ x.stacks = y.stacks) := ⟨fun h => by rw [h]; exact ⟨rfl, rfl, rfl⟩, fun h => by obtain ⟨h0, h1, h2⟩ := h; cases x; cases y; simp only at h0 h1 h2; simp only [h0, h1, h2]⟩
instance : Rep DStV := Rep.via fun x => (x.vars, x.owner, x.stacks)
theorem at_DStV_2 {w : World} {b o : Nat} {x : DStV} (h : At w b o x) : At w b (o + 2) x.stacks := at_snd (α := List Int) (β := RIntss) (p := (x.owner, x.stacks)) (at_snd (α := List Int) (β := (List Int) × RIntss) (p := (x.vars, x.owner, x.stacks)) h)
instance : RepZ DStV := ⟨⟨(RepZ.zv : List Int), (RepZ.zv : List Int), (RepZ.zv : RIntss)⟩, RepZ.zc ((List Int) × (List Int) × RIntss), fun w => RepZ.zr (α := (List Int) × (List Int) × RIntss) w⟩
theorem lens_DStV_0 {γ : Type} {H : List Nat → World → γ → Prop} {F : List Nat} {w : World} {b o : Nat} {G : List Nat} {x : DStV} {upd : DStV → γ} (h : Lens H F w b o G x upd) :
    ∃ G1, Lens H F w b (o + 0) G1 x.vars (fun y => upd ⟨y, x.owner, x.stacks⟩) := by
  have h' : Lens H F w b o G (x.vars, x.owner, x.stacks) (fun p : (List Int) × (List Int) × RIntss => upd ⟨p.1, p.2.1, p.2.2⟩) := ⟨h.here, h.sub, fun w' G' y' hc hO hs => h.back w' G' _ hc hO hs⟩
  obtain ⟨G0, h'⟩ := h'.fst
  exact ⟨_, h'⟩
theorem lens_DStV_1 {γ : Type} {H : List Nat → World → γ → Prop} {F : List Nat} {w : World} {b o : Nat} {G : List Nat} {x : DStV} {upd : DStV → γ} (h : Lens H F w b o G x upd) :
    ∃ G1, Lens H F w b (o + 1) G1 x.owner (fun y => upd ⟨x.vars, y, x.stacks⟩) := by
  have h' : Lens H F w b o G (x.vars, x.owner, x.stacks) (fun p : (List Int) × (List Int) × RIntss => upd ⟨p.1, p.2.1, p.2.2⟩) := ⟨h.here, h.sub, fun w' G' y' hc hO hs => h.back w' G' _ hc hO hs⟩
  obtain ⟨G0, h'⟩ := h'.snd
  obtain ⟨G1, h'⟩ := h'.fst
  exact ⟨_, h'⟩
theorem lens_DStV_2 {γ : Type} {H : List Nat → World → γ → Prop} {F : List Nat} {w : World} {b o : Nat} {G : List Nat} {x : DStV} {upd : DStV → γ} (h : Lens H F w b o G x upd) :
    ∃ G1, Lens H F w b (o + 2) G1 x.stacks (fun y => upd ⟨x.vars, x.owner, y⟩) := by
  have h' : Lens H F w b o G (x.vars, x.owner, x.stacks) (fun p : (List Int) × (List Int) × RIntss => upd ⟨p.1, p.2.1, p.2.2⟩) := ⟨h.here, h.sub, fun w' G' y' hc hO hs => h.back w' G' _ hc hO hs⟩
  obtain ⟨G0, h'⟩ := h'.snd
  obtain ⟨G1, h'⟩ := h'.snd
  exact ⟨_, h'⟩
theorem inv_DStV {w : World} {F : List Nat} {cs : List Value} {x : DStV} (h : rep F w cs x) : ∃ F0 c0 F1 c1 F2 c2, F = (F0 ++ (F1 ++ F2)) ∧ cs = (c0 ++ (c1 ++ c2)) ∧ rep F0 w c0 x.vars ∧ rep F1 w c1 x.owner ∧ rep F2 w c2 x.stacks := by
  obtain ⟨F0, G0, c0, d0, rfl, rfl, h0, h⟩ := h
  obtain ⟨F1, G1, c1, d1, rfl, rfl, h1, h⟩ := h
  exact ⟨_, _, _, _, _, _, rfl, rfl, h0, h1, h⟩
def DStV.er (z : DStV) : DState := ⟨z.vars, z.owner, z.stacks.l.map RV.l⟩
section
variable {w : World}
theorem mine_stv {F G H : List Nat} {a b : Value} {s : DStV} (h1 : Mine F w a s.vars) (h2 : Mine G w b s.owner) (h3 : Mine H w s.stacks.v s.stacks) (hn : (F ++ (G ++ H)).Nodup) : Mine (F ++ (G ++ H)) w (.agg #[a, b, s.stacks.v]) s :=
  ⟨⟨[a, b, s.stacks.v], mine_prod (mine_cell rfl h1.own) (mine_prod (mine_cell rfl h2.own) (mine_cell rfl h3.own)), rfl⟩, hn, h1.wr.append (h2.wr.append h3.wr)⟩
theorem ownI_stv {a b : Value} {s : DStV} {lo hi l0 h0 l1 h1 l2 h2 : Nat} (m0 : OwnI l0 h0 w a s.vars) (m1 : OwnI l1 h1 w b s.owner) (m2 : OwnI l2 h2 w s.stacks.v s.stacks) (d01 : h0 ≤ l1 ∨ h1 ≤ l0) (d02 : h0 ≤ l2 ∨ h2 ≤ l0) (d12 : h1 ≤ l2 ∨ h2 ≤ l1)
    (b0 : lo ≤ l0 ∧ h0 ≤ hi) (b1 : lo ≤ l1 ∧ h1 ≤ hi) (b2 : lo ≤ l2 ∧ h2 ≤ hi) : OwnI lo hi w (.agg #[a, b, s.stacks.v]) s := by
  obtain ⟨F0, M0, B0⟩ := m0
  obtain ⟨F1, M1, B1⟩ := m1
  obtain ⟨F2, M2, B2⟩ := m2
  refine ⟨F0 ++ (F1 ++ F2), mine_stv M0 M1 M2 ?_, fun x hx => ?_⟩
  · rw [List.nodup_append, List.nodup_append]
    refine ⟨M0.nodup, ⟨M1.nodup, M2.nodup, fun p hp q hq e => ?_⟩, fun p hp q hq e => ?_⟩
    · subst e; have := B1 p hp; have := B2 p hq; omega
    · subst e
      have := B0 p hp
      rcases List.mem_append.1 hq with hq | hq
      · have := B1 p hq; omega
      · have := B2 p hq; omega
  · rcases List.mem_append.1 hx with hx | hx
    · have := B0 x hx; omega
    · rcases List.mem_append.1 hx with hx | hx
      · have := B1 x hx; omega
      · have := B2 x hx; omega
end
end Go.Sh
namespace Go.Proofs.YtjgfldfbljmhhaaGreat
open Go Go.Sh Go.Proofs
set_option linter.unusedVariables false
def F270 (a0 : Value) (w : World) (R : Value → World → Prop) : Prop :=
 OP Tryz.prog (Instr.box 37 a0) w fun x1 w =>
 OP Tryz.prog (Instr.alloc 37 true (.tuple #[])) w fun x2 w =>
 (fun w0 => PAR w0 [[(0, 6)], [(1, 7), (0, 6)], [(2, 8), (1, 7)], [(3, 9)], [(4, 10), (3, 9)], [(5, 11), (4, 10), (2, 8)], [(6, 12), (2, 8), (5, 11)], [(7, 3)]] (fun Q =>
 (∀ (u1 : Env) (T : Nat → Nat × Nat) (w : World), Ext w0 w → Apart [] w0.heap.size w.heap.size T → (True) → (fun w1 => RD Tryz.prog (Instr.fieldAt 37 x1 0) w fun x6 =>
 Ext w1 w ∧ Q 0 (upd u1 6 x6) (updT T 0 (w1.heap.size, w.heap.size)) w) w) ∧
 (∀ (u1 : Env) (T : Nat → Nat × Nat) (w : World), Ext w0 w → Apart [0] w0.heap.size w.heap.size T → (Q 0 u1 T w ∧ True) → (fun w1 => RD Tryz.prog (Instr.loadAt 23 (u1 6)) w fun x7 =>
 Ext w1 w ∧ Q 1 (upd u1 7 x7) (updT T 1 (w1.heap.size, w.heap.size)) w) w) ∧
 (∀ (u1 : Env) (T : Nat → Nat × Nat) (w : World), Ext w0 w → Apart [1] w0.heap.size w.heap.size T → (Q 1 u1 T w ∧ True) → (fun w1 => CALL Tryz.prog 298 [(u1 7)] w fun x8 w =>
 Ext w1 w ∧ Q 2 (upd u1 8 x8) (updT T 2 (w1.heap.size, w.heap.size)) w) w) ∧
 (∀ (u1 : Env) (T : Nat → Nat × Nat) (w : World), Ext w0 w → Apart [] w0.heap.size w.heap.size T → (True) → (fun w1 => RD Tryz.prog (Instr.fieldAt 37 x1 1) w fun x9 =>
 Ext w1 w ∧ Q 3 (upd u1 9 x9) (updT T 3 (w1.heap.size, w.heap.size)) w) w) ∧
 (∀ (u1 : Env) (T : Nat → Nat × Nat) (w : World), Ext w0 w → Apart [3] w0.heap.size w.heap.size T → (Q 3 u1 T w ∧ True) → (fun w1 => RD Tryz.prog (Instr.loadAt 23 (u1 9)) w fun x10 =>
 Ext w1 w ∧ Q 4 (upd u1 10 x10) (updT T 4 (w1.heap.size, w.heap.size)) w) w) ∧
 (∀ (u1 : Env) (T : Nat → Nat × Nat) (w : World), Ext w0 w → Apart [4, 2] w0.heap.size w.heap.size T → (Q 4 u1 T w ∧ Q 2 u1 T w ∧ True) → (fun w1 => CALL Tryz.prog 298 [(u1 10)] w fun x11 w =>
 Ext w1 w ∧ Q 5 (upd u1 11 x11) (updT T 5 (w1.heap.size, w.heap.size)) w) w) ∧
 (∀ (u1 : Env) (T : Nat → Nat × Nat) (w : World), Ext w0 w → Apart [2, 5] w0.heap.size w.heap.size T → (Q 2 u1 T w ∧ Q 5 u1 T w ∧ True) → (fun w1 => RD Tryz.prog (Instr.build 37 #[(0, (u1 8)), (1, (u1 11))]) w fun x12 =>
 Ext w1 w ∧ Q 6 (upd u1 12 x12) (updT T 6 (w1.heap.size, w.heap.size)) w) w) ∧
 (∀ (u1 : Env) (T : Nat → Nat × Nat) (w : World), Ext w0 w → Apart [] w0.heap.size w.heap.size T → (True) → (fun w1 => OP Tryz.prog (Instr.alloc 37 true (.tuple #[])) w fun x3 w =>
 Ext w1 w ∧ Q 7 (upd u1 3 x3) (updT T 7 (w1.heap.size, w.heap.size)) w) w) ∧
 True)
 (fun Q => ∀ (u1 : Env) (T : Nat → Nat × Nat) (w : World), Ext w0 w → Apart [0, 1, 2, 3, 4, 5, 6, 7] w0.heap.size w.heap.size T → (Q 0 u1 T w ∧ Q 1 u1 T w ∧ Q 2 u1 T w ∧ Q 3 u1 T w ∧ Q 4 u1 T w ∧ Q 5 u1 T w ∧ Q 6 u1 T w ∧ Q 7 u1 T w ∧ True) →
 OPU Tryz.prog (Instr.storeAt 37 (u1 3) (u1 12)) w fun w =>
 RD Tryz.prog (Instr.fieldAt 37 x1 2) w fun x13 =>
 RD Tryz.prog (Instr.loadAt 27 x13) w fun x14 =>
 RD Tryz.prog (Builtin.len_ #[27] 3 [x14].toArray) w fun x15 =>
 LOOPI [16] [(Value.int .i64 0)] w fun u3 w next3 =>
 RD Tryz.prog (bin .lss 3 (.tmp 0) (.tmp 0) (u3 16) x15) w fun x17 =>
 BR x17
 (RD Tryz.prog (Instr.indexAt 27 x14 (u3 16)) w fun x18 =>
 RD Tryz.prog (Instr.loadAt 23 x18) w fun x19 =>
 (fun w => RD Tryz.prog (Instr.fieldAt 37 (u1 3) 2) w fun x20 =>
 RD Tryz.prog (Instr.loadAt 27 x20) w fun x21 =>
 (fun w_ => CALL Tryz.prog 298 [x19] w_ fun x23 w =>
 Ext w_ w ∧
 (fun w_ => OP Tryz.prog (Instr.buildSlice 27 1 #[(0, x23)]) w_ fun x24 w =>
 Ext w_ w ∧
 (OP Tryz.prog (Builtin.append_ #[27, 27] 27 [x21, x24].toArray) w fun x25 w =>
 RD Tryz.prog (Instr.fieldAt 37 (u1 3) 2) w fun x26 =>
 OPU Tryz.prog (Instr.storeAt 27 x26 x25) w fun w =>
 RD Tryz.prog (bin .add 3 (.tmp 0) (.const undef) (u3 16) (Value.int .i64 1)) w fun x27 =>
 next3 [x27] w)) w) w) (World.drew1 w))
 (RD Tryz.prog (Instr.loadAt 37 (u1 3)) w fun x28 =>
 OPU Tryz.prog (Instr.storeAt 37 x2 x28) w fun w =>
 RD Tryz.prog (loadRes 37 x2) w fun r2 => R r2 w))) (World.drew1 w)
def cfg270 : Cfg := { ext := extL, joins := [], loops := [(3, 268369952, [16])], draws := [(5, [0, 1, 2, 3, 4, 5, 6, 7], 24)], pars := [(1, 8136, 8)] }
theorem F270_eq (a0 : Value) (w : World) (R : Value → World → Prop) : vcF Tryz.prog cfg270 Tryz.f270 [a0] w R = F270 a0 w R := by kernel_rfl
theorem F270_call {a0 : Value} {w : World} {R : Value → World → Prop} (h : F270 a0 w R) : CALL Tryz.prog 270 [a0] w R :=
  call_of (g := cfg270) ent mixed Tryz.func270 (Nat.le_of_ble_eq_true (by kernel_rfl)) (by kernel_rfl) (F270_eq a0 w R ▸ h)
def F267 (a0 : Value) (w : World) (R : Value → World → Prop) : Prop :=
 OP Tryz.prog (Instr.box 37 a0) w fun x1 w =>
 OP Tryz.prog (Instr.alloc 37 true (.tuple #[])) w fun x2 w =>
 (fun w0 => PAR w0 [[(0, 5)], [(1, 6)], [(2, 7), (1, 6)], [(3, 8), (0, 5), (2, 7)], [(4, 9)], [(5, 10)], [(6, 11), (5, 10)], [(7, 12), (4, 9), (6, 11), (3, 8)], [(8, 13), (3, 8), (7, 12)], [(9, 3)]] (fun Q =>
 (∀ (u1 : Env) (T : Nat → Nat × Nat) (w : World), Ext w0 w → Apart [] w0.heap.size w.heap.size T → (True) → (fun w1 => OP Tryz.prog (Instr.buildSlice 23 0 #[]) w fun x5 w =>
 Ext w1 w ∧ Q 0 (upd u1 5 x5) (updT T 0 (w1.heap.size, w.heap.size)) w) w) ∧
 (∀ (u1 : Env) (T : Nat → Nat × Nat) (w : World), Ext w0 w → Apart [] w0.heap.size w.heap.size T → (True) → (fun w1 => RD Tryz.prog (Instr.fieldAt 37 x1 0) w fun x6 =>
 Ext w1 w ∧ Q 1 (upd u1 6 x6) (updT T 1 (w1.heap.size, w.heap.size)) w) w) ∧
 (∀ (u1 : Env) (T : Nat → Nat × Nat) (w : World), Ext w0 w → Apart [1] w0.heap.size w.heap.size T → (Q 1 u1 T w ∧ True) → (fun w1 => RD Tryz.prog (Instr.loadAt 23 (u1 6)) w fun x7 =>
 Ext w1 w ∧ Q 2 (upd u1 7 x7) (updT T 2 (w1.heap.size, w.heap.size)) w) w) ∧
 (∀ (u1 : Env) (T : Nat → Nat × Nat) (w : World), Ext w0 w → Apart [0, 2] w0.heap.size w.heap.size T → (Q 0 u1 T w ∧ Q 2 u1 T w ∧ True) → (fun w1 => OP Tryz.prog (Builtin.append_ #[23, 23] 23 [(u1 5), (u1 7)].toArray) w fun x8 w =>
 Ext w1 w ∧ Q 3 (upd u1 8 x8) (updT T 3 (w1.heap.size, w.heap.size)) w) w) ∧
 (∀ (u1 : Env) (T : Nat → Nat × Nat) (w : World), Ext w0 w → Apart [] w0.heap.size w.heap.size T → (True) → (fun w1 => OP Tryz.prog (Instr.buildSlice 23 0 #[]) w fun x9 w =>
 Ext w1 w ∧ Q 4 (upd u1 9 x9) (updT T 4 (w1.heap.size, w.heap.size)) w) w) ∧
 (∀ (u1 : Env) (T : Nat → Nat × Nat) (w : World), Ext w0 w → Apart [] w0.heap.size w.heap.size T → (True) → (fun w1 => RD Tryz.prog (Instr.fieldAt 37 x1 1) w fun x10 =>
 Ext w1 w ∧ Q 5 (upd u1 10 x10) (updT T 5 (w1.heap.size, w.heap.size)) w) w) ∧
 (∀ (u1 : Env) (T : Nat → Nat × Nat) (w : World), Ext w0 w → Apart [5] w0.heap.size w.heap.size T → (Q 5 u1 T w ∧ True) → (fun w1 => RD Tryz.prog (Instr.loadAt 23 (u1 10)) w fun x11 =>
 Ext w1 w ∧ Q 6 (upd u1 11 x11) (updT T 6 (w1.heap.size, w.heap.size)) w) w) ∧
 (∀ (u1 : Env) (T : Nat → Nat × Nat) (w : World), Ext w0 w → Apart [4, 6, 3] w0.heap.size w.heap.size T → (Q 4 u1 T w ∧ Q 6 u1 T w ∧ Q 3 u1 T w ∧ True) → (fun w1 => OP Tryz.prog (Builtin.append_ #[23, 23] 23 [(u1 9), (u1 11)].toArray) w fun x12 w =>
 Ext w1 w ∧ Q 7 (upd u1 12 x12) (updT T 7 (w1.heap.size, w.heap.size)) w) w) ∧
 (∀ (u1 : Env) (T : Nat → Nat × Nat) (w : World), Ext w0 w → Apart [3, 7] w0.heap.size w.heap.size T → (Q 3 u1 T w ∧ Q 7 u1 T w ∧ True) → (fun w1 => RD Tryz.prog (Instr.build 37 #[(0, (u1 8)), (1, (u1 12))]) w fun x13 =>
 Ext w1 w ∧ Q 8 (upd u1 13 x13) (updT T 8 (w1.heap.size, w.heap.size)) w) w) ∧
 (∀ (u1 : Env) (T : Nat → Nat × Nat) (w : World), Ext w0 w → Apart [] w0.heap.size w.heap.size T → (True) → (fun w1 => OP Tryz.prog (Instr.alloc 37 true (.tuple #[])) w fun x3 w =>
 Ext w1 w ∧ Q 9 (upd u1 3 x3) (updT T 9 (w1.heap.size, w.heap.size)) w) w) ∧
 True)
 (fun Q => ∀ (u1 : Env) (T : Nat → Nat × Nat) (w : World), Ext w0 w → Apart [0, 1, 2, 3, 4, 5, 6, 7, 8, 9] w0.heap.size w.heap.size T → (Q 0 u1 T w ∧ Q 1 u1 T w ∧ Q 2 u1 T w ∧ Q 3 u1 T w ∧ Q 4 u1 T w ∧ Q 5 u1 T w ∧ Q 6 u1 T w ∧ Q 7 u1 T w ∧ Q 8 u1 T w ∧ Q 9 u1 T w ∧ True) →
 OPU Tryz.prog (Instr.storeAt 37 (u1 3) (u1 13)) w fun w =>
 LOOPI [4] [(Value.int .i64 0)] w fun u3 w next3 =>
 RD Tryz.prog (Instr.fieldAt 37 x1 2) w fun x15 =>
 RD Tryz.prog (Instr.loadAt 27 x15) w fun x16 =>
 RD Tryz.prog (Builtin.len_ #[27] 3 [x16].toArray) w fun x17 =>
 RD Tryz.prog (bin .lss 3 (.tmp 0) (.tmp 0) (u3 4) x17) w fun x18 =>
 BR x18
 ((fun w => RD Tryz.prog (Instr.fieldAt 37 (u1 3) 2) w fun x21 =>
 RD Tryz.prog (Instr.loadAt 27 x21) w fun x22 =>
 RD Tryz.prog (Instr.fieldAt 37 x1 2) w fun x24 =>
 RD Tryz.prog (Instr.loadAt 27 x24) w fun x25 =>
 RD Tryz.prog (Instr.indexAt 27 x25 (u3 4)) w fun x27 =>
 RD Tryz.prog (Instr.loadAt 23 x27) w fun x28 =>
 (fun w_ => OP Tryz.prog (Instr.buildSlice 23 0 #[]) w_ fun x23 w =>
 Ext w_ w ∧
 ((fun w_ => OP Tryz.prog (Builtin.append_ #[23, 23] 23 [x23, x28].toArray) w_ fun x29 w =>
 Ext w_ w ∧
 ((fun w_ => OP Tryz.prog (Instr.buildSlice 27 1 #[(0, x29)]) w_ fun x30 w =>
 Ext w_ w ∧
 (OP Tryz.prog (Builtin.append_ #[27, 27] 27 [x22, x30].toArray) w fun x31 w =>
 RD Tryz.prog (Instr.fieldAt 37 (u1 3) 2) w fun x32 =>
 OPU Tryz.prog (Instr.storeAt 27 x32 x31) w fun w =>
 RD Tryz.prog (bin .add 3 (.tmp 0) (.const undef) (u3 4) (Value.int .i64 1)) w fun x20 =>
 next3 [x20] w)) w)) w)) w) (World.drew1 w))
 (RD Tryz.prog (Instr.loadAt 37 (u1 3)) w fun x33 =>
 OPU Tryz.prog (Instr.storeAt 37 x2 x33) w fun w =>
 RD Tryz.prog (loadRes 37 x2) w fun r2 => R r2 w))) (World.drew1 w)
def cfg267 : Cfg := { ext := extL, joins := [], loops := [(3, 8589918224, [4])], draws := [(5, [0, 1, 3, 4, 5, 6, 7, 2, 8, 9, 10, 11, 12], 772)], pars := [(1, 16360, 10)] }
theorem F267_eq (a0 : Value) (w : World) (R : Value → World → Prop) : vcF Tryz.prog cfg267 Tryz.f267 [a0] w R = F267 a0 w R := by kernel_rfl
theorem F267_call {a0 : Value} {w : World} {R : Value → World → Prop} (h : F267 a0 w R) : CALL Tryz.prog 267 [a0] w R :=
  call_of (g := cfg267) ent mixed Tryz.func267 (Nat.le_of_ble_eq_true (by kernel_rfl)) (by kernel_rfl) (F267_eq a0 w R ▸ h)
set_option linter.unusedVariables false
set_option linter.unusedSimpArgs false
theorem zlSt : zeroL Tryz.prog 37 = some [.slice none 0 0, .slice none 0 0, .slice none 0 0] := by kernel_rfl
theorem ownI_form {lo hi : Nat} {w : World} {v : Value} {α : Type} [Rep α] {l : List α} (h : OwnI lo hi w v l) : ∃ a n c, v = .slice a n c := by
  obtain ⟨a, cap, Fi, xs, hv, _⟩ := is_list h.is
  exact ⟨a, _, cap, hv⟩
theorem op_appendN {P : Program} {w w0 : World} {α : Type} [Rep α] [Flat α] {t ty e : TypeId} {by_ : Nat} {a : Option Addr} {src : Value} {m : List α} {K : Value → World → Prop} (ht : P.underlying t = some (.slice e)) (he : tyI P e = some (Rep.size α, by_, Rep.agg α))
    (hzc : (P.info? e).map (fun i => (i.zero.map (·.cells.size))) = some (some (Rep.size α))) (hs : Is w0 src m) (hx : Ext w0 w) (hm : m.length ≤ maxLen) (hb : m.length * by_ ≤ 140737488355328)
    (k : ∀ v' w', Ext w w' → RowI w.heap.size w'.heap.size e w' v' m → K v' w') : OP P (Builtin.append_ #[t, t] ty [.slice a 0 0, src].toArray) w K :=
  op_appendI (lo := w.heap.size) (hi := w.heap.size) (l := ([] : List α)) ht he hzc (rowI_zcap _ _ _ _ _) (Nat.le_refl _) hs hx (by simpa using hm) (by simpa using hb) fun v' w' hc hr => k v' w' ((Ext.refl w).chgI hc (Nat.le_refl _)) (by simpa using hr)
theorem clone_row {w w0 : World} {v : Value} {l : List Int} (h : Is w0 v l) (hx : Ext w0 w) (hn : l.length ≤ 1073741824) :
    CALL Tryz.prog 298 [v] w fun r w' => Ext w w' ∧ RowI w.heap.size w'.heap.size 3 w' r l := by
  refine F298_call ?_
  unfold F298
  obtain ⟨a, cap, Fi, xs, rfl, h1, h2, hc, h4⟩ := is_list h
  refine rd_slice_nil uInts ?_
  refine br_b (fun hnil => ?_) (fun hnn => ?_)
  · have : l = [] := by
      rcases h4 with h4 | ⟨b, o, ha, _⟩
      · exact h4
      · subst ha; simp at hnil
    subst this
    exact ⟨Ext.refl w, rowI_nil _ _ _ _⟩
  · refine op_build0I (α := Int) uInts tyInt fun a1 w1 hx1 hr1 => ?_
    refine op_appendN (α := Int) uInts tyInt zcInt h (hx.trans hx1) (by rw [maxLen_eq]; omega) (by omega) fun v2 w2 hx2 hr2 => ?_
    exact ⟨hx1.trans hx2, hr2.mono hx1.size (Nat.le_refl _)⟩
def StSz (s : DState) : Prop := s.vars.length ≤ 1073741824 ∧ s.owner.length ≤ 1073741824 ∧ s.stacks.length ≤ 1073741824 ∧ ∀ x ∈ s.stacks, x.length ≤ 1073741824
def cpQ (s : DState) (g1 : Nat) (w0 : World) : ParQ := fun i u T w => match i with
  | 0 => u 6 = .pointer (some ⟨g1, 0 + 0, none⟩)
  | 1 => Is w0 (u 7) s.vars
  | 2 => OwnI (T 2).1 (T 2).2 w (u 8) s.vars
  | 3 => u 9 = .pointer (some ⟨g1, 0 + 1, none⟩)
  | 4 => Is w0 (u 10) s.owner
  | 5 => OwnI (T 5).1 (T 5).2 w (u 11) s.owner
  | 6 => u 12 = .agg #[u 8, u 11, .slice none 0 0]
  | 7 => ∃ g, u 3 = .pointer (some ⟨g, 0, none⟩) ∧ (T 7).1 ≤ g ∧ g < (T 7).2 ∧ Blk g 37 w [.slice none 0 0, .slice none 0 0, .slice none 0 0]
  | _ => True
theorem copyState_ok {w W : World} {v : Value} {s : DState} (h : Is W v s) (e : Ext W w) (hsz : StSz s) :
    CALL Tryz.prog 270 [v] w fun r w' => Ext w w' ∧ ∃ z : DStV, OwnI w.heap.size w'.heap.size w' r z ∧ z.er = s := by
  obtain ⟨hz1, hz2, hz3, hz4⟩ := hsz
  refine F270_call ?_
  unfold F270
  refine op_box h e fun w1 hx1 hA => ?_
  refine op_alloc zlSt fun w2 hx2 hB2 => ?_
  have hg2 := hB2.lt
  have hs1 := hx1.size
  have hx3 := ext_drew w2
  have hs3 := hx3.size
  refine PAR.mk (cpQ s w.heap.size (World.drew1 w2)) ?_ ?_ ?_
  · intro i u u' T T' wa wb hxa hxb hd hq
    match i, hd, hq with
    | 0, hd, hq => exact (hd (0, 6) (by decide)).1.trans hq
    | 1, hd, hq => have := (hd (1, 7) (by decide)).1; show Is _ (u' 7) _; simp only [this]; exact hq
    | 2, hd, hq =>
      obtain ⟨e1, e2⟩ := hd (2, 8) (by decide)
      simp only at e1 e2
      show OwnI (T' 2).1 (T' 2).2 wb (u' 8) s.vars
      rw [e1, e2]; exact OwnI.ext hq hxb
    | 3, hd, hq => exact (hd (3, 9) (by decide)).1.trans hq
    | 4, hd, hq => have := (hd (4, 10) (by decide)).1; show Is _ (u' 10) _; simp only [this]; exact hq
    | 5, hd, hq =>
      obtain ⟨e1, e2⟩ := hd (5, 11) (by decide)
      simp only at e1 e2
      show OwnI (T' 5).1 (T' 5).2 wb (u' 11) s.owner
      rw [e1, e2]; exact OwnI.ext hq hxb
    | 6, hd, hq =>
      have e1 := (hd (6, 12) (by decide)).1
      have e2 := (hd (2, 8) (by decide)).1
      have e3 := (hd (5, 11) (by decide)).1
      simp only at e1 e2 e3
      show u' 12 = .agg #[u' 8, u' 11, .slice none 0 0]
      rw [e1, e2, e3]; exact hq
    | 7, hd, ⟨g, q1, q2, q3, q4⟩ =>
      obtain ⟨e1, e2⟩ := hd (7, 3) (by decide)
      simp only at e1 e2
      exact ⟨g, e1.trans q1, by rw [e2]; exact q2, by rw [e2]; exact q3, q4.ext hxb⟩
    | n + 8, _, _ => trivial
  · refine ⟨fun u T w' hx _ _ => ?_, fun u T w' hx _ hp => ?_, fun u T w' hx _ hp => ?_, fun u T w' hx _ _ => ?_, fun u T w' hx _ hp => ?_, fun u T w' hx _ hp => ?_, fun u T w' hx _ hp => ?_, fun u T w' hx _ _ => ?_, trivial⟩
    · exact rd_fld fd37_0 ⟨Ext.refl _, rfl⟩
    · have q0 : u 6 = _ := hp.1
      rw [q0]
      exact rd_load ty23 (at_DState_0 hA) (hx2.trans (hx3.trans hx)) fun v6 h6 => ⟨Ext.refl _, (h6.ext (hx2.trans hx3))⟩
    · have q1 : Is _ (u 7) s.vars := hp.1
      exact (clone_ok q1 hx hz1).mono fun r w4 ⟨hx4, ho⟩ => ⟨hx4, ho.toI⟩
    · exact rd_fld fd37_1 ⟨Ext.refl _, rfl⟩
    · have q0 : u 9 = _ := hp.1
      rw [q0]
      exact rd_load ty23 (at_DState_1 hA) (hx2.trans (hx3.trans hx)) fun v6 h6 => ⟨Ext.refl _, (h6.ext (hx2.trans hx3))⟩
    · have q1 : Is _ (u 10) s.owner := hp.1
      exact (clone_ok q1 hx hz2).mono fun r w4 ⟨hx4, ho⟩ => ⟨hx4, ho.toI⟩
    · have o1 : OwnI _ _ _ (u 8) s.vars := hp.1
      have o2 : OwnI _ _ _ (u 11) s.owner := hp.2.1
      obtain ⟨a, n, cap, q1⟩ := ownI_form o1
      obtain ⟨a', n', cap', q1'⟩ := ownI_form o2
      rw [q1, q1']
      refine rd_build (cells := #[.slice a n cap, .slice a' n' cap', .slice none 0 0]) (by kernel_rfl) ⟨Ext.refl _, ?_⟩
      show _ = Value.agg #[u 8, u 11, .slice none 0 0]
      rw [q1, q1']; rfl
    · exact op_alloc zlSt fun w4 hx4 hB => ⟨hx4, w'.heap.size, rfl, Nat.le_refl _, hB.lt, hB⟩
  · rintro u T w4 hx4 hap ⟨-, -, o8, -, -, o11, q12, ⟨g, q3, hg0, hg1, hB3⟩, -⟩
    have q12 : u 12 = .agg #[u 8, u 11, .slice none 0 0] := q12
    have o8 : OwnI (T 2).1 (T 2).2 w4 (u 8) s.vars := o8
    have o11 : OwnI (T 5).1 (T 5).2 w4 (u 11) s.owner := o11
    have t2 := hap.1 2 (by decide)
    have t5 := hap.1 5 (by decide)
    have t7 := hap.1 7 (by decide)
    have d25 := hap.2 2 (by decide) 5 (by decide) (by decide)
    have d27 := hap.2 2 (by decide) 7 (by decide) (by decide)
    have d57 := hap.2 5 (by decide) 7 (by decide) (by decide)
    generalize u 8 = v8 at *
    generalize u 11 = v11 at *
    have hs4 := hx4.size
    rw [q12, q3]
    refine opu_blkS (x := (⟨s.vars, s.owner, []⟩ : DState)) (lo := 0) (hi := w4.heap.size) ty37 rfl hB3 rfl
      (ownI_state (l2 := 0) (h2 := 0) o8 o11 (ownI_zcap none) (by omega) (by omega) (by omega) (by omega) (by omega) (by omega)) fun w5 hc5 hB5 => ?_
    have hs5 := hc5.size
    have hx15 : Ext w1 w5 := Ext.chgI (hx2.trans (hx3.trans hx4)) hc5 (by omega)
    replace o8 := o8.chg hc5 (by omega)
    replace o11 := o11.chg hc5 (by omega)
    have hB25 := ((hB2.ext hx3).ext hx4).chgI hc5 (by omega)
    refine rd_fld fd37_2 ?_
    refine rd_load ty27 (at_DState_2 hA) hx15 fun v14 h14 => ?_
    refine rd_len u27 h14 ?_
    refine loopC s.stacks.length (fun k us w' => us = [.int .i64 (k : Int)] ∧ w5.heap.size ≤ w'.heap.size ∧ Ext w1 w' ∧ OwnI (T 2).1 (T 2).2 w' v8 s.vars ∧ OwnI (T 5).1 (T 5).2 w' v11 s.owner ∧
      (∃ v1 hi, ∃ l : List RInts, hi ≤ w'.heap.size ∧ w5.heap.size ≤ hi ∧ l.map RV.l = s.stacks.take k ∧ Blk g 37 w' [v8, v11, v1] ∧ RowI w5.heap.size hi 23 w' v1 l) ∧ Blk w1.heap.size 37 w' [.slice none 0 0, .slice none 0 0, .slice none 0 0]) 0 (Nat.zero_le _)
      ⟨rfl, Nat.le_refl _, hx15, o8, o11, ⟨.slice none 0 0, w5.heap.size, [], Nat.le_refl _, Nat.le_refl _, by simp, hB5, rowI_nil _ _ _ _⟩, hB25⟩ ?_
    rintro k m uu w7 hkm ⟨hu, hs7, hx7, o8, o11, ⟨v1, hi, l, hhi, hhi2, hl, hB7, r7⟩, hB27⟩
    simp only [List.map_cons, List.map_nil, List.cons.injEq, and_true] at hu
    rw [hu]
    have hll : l.length = k := by have := congrArg List.length hl; simp at this; omega
    refine rd_lss ?_
    refine br (fun hlt => ?_) (fun hge => ?_)
    · have hk : k < s.stacks.length := by omega
      refine rd_indexN u27 ty23 h14 hk fun b o hA2 => ?_
      refine rd_load ty23 hA2 hx7 fun v19 h19 => ?_
      have hx8 := ext_drew w7
      have hs8 := hx8.size
      refine rd_fld fd37_2 ?_
      refine rd_blkV ty27 (hB7.ext hx8) rfl ?_
      refine (clone_row h19 (hx7.trans hx8) (hz4 _ (List.getElem_mem hk))).mono ?_
      rintro r23 w9 ⟨hx9, r9⟩
      have hs9 := hx9.size
      refine ⟨hx9, ?_⟩
      refine op_pushX (α := RInts) u27 ty23 z23 zc23 (by decide) ((r7.ext hx8).ext hx9) (by omega) (ownI_rv r9) (by omega) (by omega) (by rw [maxLen_eq]; omega) (by omega) fun v25 w10 hc10 r10 => ?_
      have hs10 := hc10.size
      have hx79 := hx8.trans hx9
      refine rd_fld fd37_2 ?_
      refine opu_blkC (α := List RInts) ty27 rfl rfl ((hB7.ext hx79).chgI hc10 (by omega)) (by simp) r10.own fun w11 hc11 hB11 => ?_
      have hs11 := hc11.size
      refine rd_inc (by omega) ?_
      refine ⟨m - 1, by omega, k + 1, by omega, rfl, by omega, Ext.chgI (Ext.chgI (hx7.trans hx79) hc10 (by omega)) hc11 (by omega), ((o8.ext hx79).chg hc10 (by omega)).chg hc11 (by omega), ((o11.ext hx79).chg hc10 (by omega)).chg hc11 (by omega), ⟨v25, w10.heap.size, _, by omega, by omega, ?_, hB11, r10.chg hc11 (by omega)⟩, ((hB27.ext hx79).chgI hc10 (by omega)).chgI hc11 (by omega)⟩
      rw [List.map_append, hl, List.take_succ_eq_append_getElem hk]; rfl
    · have hk : k = s.stacks.length := by omega
      refine rd_blkS hB7 ty37 ?_
      have ost : OwnI w2.heap.size w7.heap.size w7 (.agg #[v8, v11, v1]) (⟨s.vars, s.owner, ⟨v1, l⟩⟩ : DStV) :=
        ownI_stv (s := ⟨s.vars, s.owner, ⟨v1, l⟩⟩) o8 o11 (ownI_rv r7) (by omega) (by omega) (by omega) (by omega) (by omega) (by omega)
      refine opu_blkS ty37 rfl hB27 rfl ost fun w13 hc13 hB13 => ?_
      have hs13 := hc13.size
      refine rd_blkR hB13 ty37 ?_
      refine ⟨Ext.chgI (hx1.trans hx7) hc13 (by omega), _, (ost.chg hc13 (by omega)).mono (by omega) (by omega), ?_⟩
      show (⟨s.vars, s.owner, l.map RV.l⟩ : DState) = s
      rw [hl, hk, List.take_length]
def cqQ (s : DState) (g1 : Nat) (w0 : World) : ParQ := fun i u T w => match i with
  | 0 => ∃ a, u 5 = .slice (some a) 0 0
  | 1 => u 6 = .pointer (some ⟨g1, 0 + 0, none⟩)
  | 2 => Is w0 (u 7) s.vars
  | 3 => OwnI (T 3).1 (T 3).2 w (u 8) s.vars
  | 4 => ∃ a, u 9 = .slice (some a) 0 0
  | 5 => u 10 = .pointer (some ⟨g1, 0 + 1, none⟩)
  | 6 => Is w0 (u 11) s.owner
  | 7 => OwnI (T 7).1 (T 7).2 w (u 12) s.owner
  | 8 => u 13 = .agg #[u 8, u 12, .slice none 0 0]
  | 9 => ∃ g, u 3 = .pointer (some ⟨g, 0, none⟩) ∧ (T 9).1 ≤ g ∧ g < (T 9).2 ∧ Blk g 37 w [.slice none 0 0, .slice none 0 0, .slice none 0 0]
  | _ => True
theorem l21Copy_ok {w W : World} {v : Value} {s : DState} (h : Is W v s) (e : Ext W w) (hsz : StSz s) :
    CALL Tryz.prog 267 [v] w fun r w' => Ext w w' ∧ ∃ z : DStV, OwnI w.heap.size w'.heap.size w' r z ∧ z.er = s := by
  obtain ⟨hz1, hz2, hz3, hz4⟩ := hsz
  refine F267_call ?_
  unfold F267
  refine op_box h e fun w1 hx1 hA => ?_
  refine op_alloc zlSt fun w2 hx2 hB2 => ?_
  have hg2 := hB2.lt
  have hs1 := hx1.size
  have hx3 := ext_drew w2
  have hs3 := hx3.size
  refine PAR.mk (cqQ s w.heap.size (World.drew1 w2)) ?_ ?_ ?_
  · intro i u u' T T' wa wb hxa hxb hd hq
    match i, hd, hq with
    | 0, hd, ⟨a, hq⟩ => exact ⟨a, (hd (0, 5) (by decide)).1.trans hq⟩
    | 1, hd, hq => exact (hd (1, 6) (by decide)).1.trans hq
    | 2, hd, hq => have := (hd (2, 7) (by decide)).1; show Is _ (u' 7) _; simp only [this]; exact hq
    | 3, hd, hq =>
      obtain ⟨e1, e2⟩ := hd (3, 8) (by decide)
      simp only at e1 e2
      show OwnI (T' 3).1 (T' 3).2 wb (u' 8) s.vars
      rw [e1, e2]; exact OwnI.ext hq hxb
    | 4, hd, ⟨a, hq⟩ => exact ⟨a, (hd (4, 9) (by decide)).1.trans hq⟩
    | 5, hd, hq => exact (hd (5, 10) (by decide)).1.trans hq
    | 6, hd, hq => have := (hd (6, 11) (by decide)).1; show Is _ (u' 11) _; simp only [this]; exact hq
    | 7, hd, hq =>
      obtain ⟨e1, e2⟩ := hd (7, 12) (by decide)
      simp only at e1 e2
      show OwnI (T' 7).1 (T' 7).2 wb (u' 12) s.owner
      rw [e1, e2]; exact OwnI.ext hq hxb
    | 8, hd, hq =>
      have e1 := (hd (8, 13) (by decide)).1
      have e2 := (hd (3, 8) (by decide)).1
      have e3 := (hd (7, 12) (by decide)).1
      simp only at e1 e2 e3
      show u' 13 = .agg #[u' 8, u' 12, .slice none 0 0]
      rw [e1, e2, e3]; exact hq
    | 9, hd, ⟨g, q1, q2, q3, q4⟩ =>
      obtain ⟨e1, e2⟩ := hd (9, 3) (by decide)
      simp only at e1 e2
      exact ⟨g, e1.trans q1, by rw [e2]; exact q2, by rw [e2]; exact q3, q4.ext hxb⟩
    | n + 10, _, _ => trivial
  · refine ⟨fun u T w' hx _ _ => ?_, fun u T w' hx _ _ => ?_, fun u T w' hx _ hp => ?_, fun u T w' hx _ hp => ?_, fun u T w' hx _ _ => ?_, fun u T w' hx _ _ => ?_, fun u T w' hx _ hp => ?_, fun u T w' hx _ hp => ?_, fun u T w' hx _ hp => ?_, fun u T w' hx _ _ => ?_, trivial⟩
    · exact op_build0I (α := Int) u23 ty3 fun a w4 hx4 _ => ⟨hx4, a, rfl⟩
    · exact rd_fld fd37_0 ⟨Ext.refl _, rfl⟩
    · have q0 : u 6 = _ := hp.1
      rw [q0]
      exact rd_load ty23 (at_DState_0 hA) (hx2.trans (hx3.trans hx)) fun v6 h6 => ⟨Ext.refl _, (h6.ext (hx2.trans hx3))⟩
    · obtain ⟨a, q0⟩ : ∃ a, u 5 = .slice (some a) 0 0 := hp.1
      have q1 : Is _ (u 7) s.vars := hp.2.1
      rw [q0]
      exact op_appendN (α := Int) u23 ty3 zc3 q1 hx (by rw [maxLen_eq]; omega) (by omega) fun v4 w4 hx4 r4 => ⟨hx4, r4.own⟩
    · exact op_build0I (α := Int) u23 ty3 fun a w4 hx4 _ => ⟨hx4, a, rfl⟩
    · exact rd_fld fd37_1 ⟨Ext.refl _, rfl⟩
    · have q0 : u 10 = _ := hp.1
      rw [q0]
      exact rd_load ty23 (at_DState_1 hA) (hx2.trans (hx3.trans hx)) fun v6 h6 => ⟨Ext.refl _, (h6.ext (hx2.trans hx3))⟩
    · obtain ⟨a, q0⟩ : ∃ a, u 9 = .slice (some a) 0 0 := hp.1
      have q1 : Is _ (u 11) s.owner := hp.2.1
      rw [q0]
      exact op_appendN (α := Int) u23 ty3 zc3 q1 hx (by rw [maxLen_eq]; omega) (by omega) fun v4 w4 hx4 r4 => ⟨hx4, r4.own⟩
    · have o1 : OwnI _ _ _ (u 8) s.vars := hp.1
      have o2 : OwnI _ _ _ (u 12) s.owner := hp.2.1
      obtain ⟨a, n, cap, q1⟩ := ownI_form o1
      obtain ⟨a', n', cap', q1'⟩ := ownI_form o2
      rw [q1, q1']
      refine rd_build (cells := #[.slice a n cap, .slice a' n' cap', .slice none 0 0]) (by kernel_rfl) ⟨Ext.refl _, ?_⟩
      show _ = Value.agg #[u 8, u 12, .slice none 0 0]
      rw [q1, q1']; rfl
    · exact op_alloc zlSt fun w4 hx4 hB => ⟨hx4, w'.heap.size, rfl, Nat.le_refl _, hB.lt, hB⟩
  · rintro u T w4 hx4 hap ⟨-, -, -, o8, -, -, -, o11, q12, ⟨g, q3, hg0, hg1, hB3⟩, -⟩
    have q12 : u 13 = .agg #[u 8, u 12, .slice none 0 0] := q12
    have o8 : OwnI (T 3).1 (T 3).2 w4 (u 8) s.vars := o8
    have o11 : OwnI (T 7).1 (T 7).2 w4 (u 12) s.owner := o11
    have t2 := hap.1 3 (by decide)
    have t5 := hap.1 7 (by decide)
    have t7 := hap.1 9 (by decide)
    have d25 := hap.2 3 (by decide) 7 (by decide) (by decide)
    have d27 := hap.2 3 (by decide) 9 (by decide) (by decide)
    have d57 := hap.2 7 (by decide) 9 (by decide) (by decide)
    generalize u 8 = v8 at *
    generalize u 12 = v11 at *
    have hs4 := hx4.size
    rw [q12, q3]
    refine opu_blkS (x := (⟨s.vars, s.owner, []⟩ : DState)) (lo := 0) (hi := w4.heap.size) ty37 rfl hB3 rfl
      (ownI_state (l2 := 0) (h2 := 0) o8 o11 (ownI_zcap none) (by omega) (by omega) (by omega) (by omega) (by omega) (by omega)) fun w5 hc5 hB5 => ?_
    have hs5 := hc5.size
    have hx15 : Ext w1 w5 := Ext.chgI (hx2.trans (hx3.trans hx4)) hc5 (by omega)
    replace o8 := o8.chg hc5 (by omega)
    replace o11 := o11.chg hc5 (by omega)
    have hB25 := ((hB2.ext hx3).ext hx4).chgI hc5 (by omega)
    refine loopC s.stacks.length (fun k us w' => us = [.int .i64 (k : Int)] ∧ w5.heap.size ≤ w'.heap.size ∧ Ext w1 w' ∧ OwnI (T 3).1 (T 3).2 w' v8 s.vars ∧ OwnI (T 7).1 (T 7).2 w' v11 s.owner ∧
      (∃ v1 hi, ∃ l : List RInts, hi ≤ w'.heap.size ∧ w5.heap.size ≤ hi ∧ l.map RV.l = s.stacks.take k ∧ Blk g 37 w' [v8, v11, v1] ∧ RowI w5.heap.size hi 23 w' v1 l) ∧ Blk w1.heap.size 37 w' [.slice none 0 0, .slice none 0 0, .slice none 0 0]) 0 (Nat.zero_le _)
      ⟨rfl, Nat.le_refl _, hx15, o8, o11, ⟨.slice none 0 0, w5.heap.size, [], Nat.le_refl _, Nat.le_refl _, by simp, hB5, rowI_nil _ _ _ _⟩, hB25⟩ ?_
    rintro k m uu w7 hkm ⟨hu, hs7, hx7, o8, o11, ⟨v1, hi, l, hhi, hhi2, hl, hB7, r7⟩, hB27⟩
    simp only [List.map_cons, List.map_nil, List.cons.injEq, and_true] at hu
    rw [hu]
    have hll : l.length = k := by have := congrArg List.length hl; simp at this; omega
    refine rd_fld fd37_2 ?_
    refine rd_load ty27 (at_DState_2 hA) hx7 fun v16 h16 => ?_
    refine rd_len u27 h16 ?_
    refine rd_lss ?_
    refine br (fun hlt => ?_) (fun hge => ?_)
    · have hk : k < s.stacks.length := by omega
      have hx8 := ext_drew w7
      have hs8 := hx8.size
      refine rd_fld fd37_2 ?_
      refine rd_blkV ty27 (hB7.ext hx8) rfl ?_
      refine rd_fld fd37_2 ?_
      refine rd_load ty27 (at_DState_2 hA) (hx7.trans hx8) fun v14 h14 => ?_
      refine rd_indexN u27 ty23 h14 hk fun b o hA2 => ?_
      refine rd_load ty23 hA2 (hx7.trans hx8) fun v19 h19 => ?_
      have hlk := hz4 _ (List.getElem_mem hk)
      refine op_build0I (α := Int) u23 ty3 fun a23 w8' hx8' _ => ?_
      refine ⟨hx8', ?_⟩
      have hs8' := hx8'.size
      refine op_appendN (α := Int) u23 ty3 zc3 h19 (hx7.trans (hx8.trans hx8')) (by rw [maxLen_eq]; omega) (by omega) fun r23 w9 hx9' r9' => ?_
      have hs9' := hx9'.size
      refine ⟨hx9', ?_⟩
      have hx9 := hx8'.trans hx9'
      have hs9 := hx9.size
      have r9 := r9'.mono hs8' (Nat.le_refl _)
      refine op_pushX (α := RInts) u27 ty23 z23 zc23 (by decide) ((r7.ext hx8).ext hx9) (by omega) (ownI_rv r9) (by omega) (by omega) (by rw [maxLen_eq]; omega) (by omega) fun v25 w10 hc10 r10 => ?_
      have hs10 := hc10.size
      have hx79 := hx8.trans hx9
      refine rd_fld fd37_2 ?_
      refine opu_blkC (α := List RInts) ty27 rfl rfl ((hB7.ext hx79).chgI hc10 (by omega)) (by simp) r10.own fun w11 hc11 hB11 => ?_
      have hs11 := hc11.size
      refine rd_inc (by omega) ?_
      refine ⟨m - 1, by omega, k + 1, by omega, rfl, by omega, Ext.chgI (Ext.chgI (hx7.trans hx79) hc10 (by omega)) hc11 (by omega), ((o8.ext hx79).chg hc10 (by omega)).chg hc11 (by omega), ((o11.ext hx79).chg hc10 (by omega)).chg hc11 (by omega), ⟨v25, w10.heap.size, _, by omega, by omega, ?_, hB11, r10.chg hc11 (by omega)⟩, ((hB27.ext hx79).chgI hc10 (by omega)).chgI hc11 (by omega)⟩
      rw [List.map_append, hl, List.take_succ_eq_append_getElem hk]; rfl
    · have hk : k = s.stacks.length := by omega
      refine rd_blkS hB7 ty37 ?_
      have ost : OwnI w2.heap.size w7.heap.size w7 (.agg #[v8, v11, v1]) (⟨s.vars, s.owner, ⟨v1, l⟩⟩ : DStV) :=
        ownI_stv (s := ⟨s.vars, s.owner, ⟨v1, l⟩⟩) o8 o11 (ownI_rv r7) (by omega) (by omega) (by omega) (by omega) (by omega) (by omega)
      refine opu_blkS ty37 rfl hB27 rfl ost fun w13 hc13 hB13 => ?_
      have hs13 := hc13.size
      refine rd_blkR hB13 ty37 ?_
      refine ⟨Ext.chgI (hx1.trans hx7) hc13 (by omega), _, (ost.chg hc13 (by omega)).mono (by omega) (by omega), ?_⟩
      show (⟨s.vars, s.owner, l.map RV.l⟩ : DState) = s
      rw [hl, hk, List.take_length]
end Go.Proofs.YtjgfldfbljmhhaaGreat
namespace Go.Proofs.YtjgfldfbljmhhaaGreat
open Go Go.Sh Go.Proofs
set_option linter.unusedVariables false
def F172 (a0 : Value) (w : World) (R : Value → World → Prop) : Prop :=
 RD Tryz.prog (Builtin.len_ #[58] 3 [a0].toArray) w fun x7 =>
 RD Tryz.prog (bin .lss 3 (.tmp 0) (.const undef) x7 (Value.int .i64 2)) w fun x8 =>
 BR x8
 (R a0 w)
 (LOOPI [3] [(Value.int .i64 1)] w fun u4 w next4 =>
 RD Tryz.prog (Builtin.len_ #[58] 3 [a0].toArray) w fun x12 =>
 RD Tryz.prog (bin .lss 3 (.tmp 0) (.tmp 0) (u4 3) x12) w fun x13 =>
 BR x13
 ((fun w => RD Tryz.prog (Instr.indexAt 58 a0 (u4 3)) w fun x18 =>
 RD Tryz.prog (Instr.loadAt 109 x18) w fun x19 =>
 RD Tryz.prog (bin .sub 3 (.tmp 0) (.const undef) (u4 3) (Value.int .i64 1)) w fun x22 =>
 RD Tryz.prog (Instr.indexAt 58 a0 x22) w fun x23 =>
 RD Tryz.prog (Instr.loadAt 109 x23) w fun x24 =>
 RD Tryz.prog (bin .eql 109 (.tmp 0) (.tmp 0) x19 x24) w fun x25 =>
 BR x25
 (RD Tryz.prog (Instr.sliceAt 58 a0 (some (u4 3)) none none) w fun x28 =>
 LOOPI [3, 5] [(u4 3), (Value.int .i64 1)] w fun u9 w next9 =>
 RD Tryz.prog (Builtin.len_ #[58] 3 [x28].toArray) w fun x31 =>
 RD Tryz.prog (bin .lss 3 (.tmp 0) (.tmp 0) (u9 5) x31) w fun x32 =>
 BR x32
 ((fun w => RD Tryz.prog (Instr.indexAt 58 x28 (u9 5)) w fun x37 =>
 RD Tryz.prog (Instr.loadAt 109 x37) w fun x38 =>
 RD Tryz.prog (bin .sub 3 (.tmp 0) (.const undef) (u9 5) (Value.int .i64 1)) w fun x41 =>
 RD Tryz.prog (Instr.indexAt 58 x28 x41) w fun x42 =>
 RD Tryz.prog (Instr.loadAt 109 x42) w fun x43 =>
 RD Tryz.prog (bin .neq 109 (.tmp 0) (.tmp 0) x38 x43) w fun x44 =>
 BR x44
 (RD Tryz.prog (Instr.indexAt 58 x28 (u9 5)) w fun x49 =>
 RD Tryz.prog (Instr.loadAt 109 x49) w fun x50 =>
 RD Tryz.prog (Instr.indexAt 58 a0 (u9 3)) w fun x51 =>
 OPU Tryz.prog (Instr.storeAt 109 x51 x50) w fun w =>
 RD Tryz.prog (bin .add 3 (.tmp 0) (.const undef) (u9 3) (Value.int .i64 1)) w fun x53 =>
 RD Tryz.prog (bin .add 3 (.tmp 0) (.const undef) (u9 5) (Value.int .i64 1)) w fun x34 =>
 next9 [x53, x34] w)
 (RD Tryz.prog (bin .add 3 (.tmp 0) (.const undef) (u9 5) (Value.int .i64 1)) w fun x34 =>
 next9 [(u9 3), x34] w)) (World.drew1 w))
 (RD Tryz.prog (Instr.sliceAt 58 a0 (some (u9 3)) none none) w fun x56 =>
 OP Tryz.prog (Builtin.clear_ #[58] 0 [x56].toArray) w fun _ w =>
 RD Tryz.prog (Instr.sliceAt 58 a0 none (some (u9 3)) none) w fun x59 =>
 R x59 w))
 (RD Tryz.prog (bin .add 3 (.tmp 0) (.const undef) (u4 3) (Value.int .i64 1)) w fun x15 =>
 next4 [x15] w)) (World.drew1 w))
 (R a0 w))
def cfg172 : Cfg := { ext := extL, joins := [], loops := [(4, 1152921504606846012, [3]), (9, 18014397972611112, [3, 5])], draws := [(6, [0, 1, 2, 3, 4, 5, 6, 7, 8, 9], 0), (11, [0, 1, 2, 3, 4, 5, 6, 7, 8, 9], 0)], pars := [] }
theorem F172_eq (a0 : Value) (w : World) (R : Value → World → Prop) : vcF Tryz.prog cfg172 Tryz.f172 [a0] w R = F172 a0 w R := by kernel_rfl
theorem F172_call {a0 : Value} {w : World} {R : Value → World → Prop} (h : F172 a0 w R) : CALL Tryz.prog 172 [a0] w R :=
  call_of (g := cfg172) ent mixed Tryz.func172 (Nat.le_of_ble_eq_true (by kernel_rfl)) (by kernel_rfl) (F172_eq a0 w R ▸ h)
def F168 (a0 : Value) (w : World) (R : Value → World → Prop) : Prop :=
 RD Tryz.prog (bin .eql 58 (.tmp 0) (.const undef) a0 (Value.slice none 0 0)) w fun x4 =>
 BR x4
 (R (Value.slice none 0 0) w)
 (OP Tryz.prog (Instr.buildSlice 58 0 #[]) w fun x5 w =>
 OP Tryz.prog (Builtin.append_ #[58, 58] 58 [x5, a0].toArray) w fun x7 w =>
 R x7 w)
def cfg168 : Cfg := { ext := extL, joins := [], loops := [], draws := [], pars := [] }
theorem F168_eq (a0 : Value) (w : World) (R : Value → World → Prop) : vcF Tryz.prog cfg168 Tryz.f168 [a0] w R = F168 a0 w R := by kernel_rfl
theorem F168_call {a0 : Value} {w : World} {R : Value → World → Prop} (h : F168 a0 w R) : CALL Tryz.prog 168 [a0] w R :=
  call_of (g := cfg168) ent mixed Tryz.func168 (Nat.le_of_ble_eq_true (by kernel_rfl)) (by kernel_rfl) (F168_eq a0 w R ▸ h)
def F171 (a0 : Value) (w : World) (R : Value → World → Prop) : Prop :=
 RD Tryz.prog (Builtin.len_ #[58] 3 [a0].toArray) w fun x5 =>
 RD Tryz.prog (Builtin.len_ #[58] 3 [a0].toArray) w fun x7 =>
 RD Tryz.prog (Instr.sliceAt 58 a0 none (some x5) (some x7)) w fun x8 =>
 R x8 w
def cfg171 : Cfg := { ext := extL, joins := [], loops := [], draws := [], pars := [] }
theorem F171_eq (a0 : Value) (w : World) (R : Value → World → Prop) : vcF Tryz.prog cfg171 Tryz.f171 [a0] w R = F171 a0 w R := by kernel_rfl
theorem F171_call {a0 : Value} {w : World} {R : Value → World → Prop} (h : F171 a0 w R) : CALL Tryz.prog 171 [a0] w R :=
  call_of (g := cfg171) ent mixed Tryz.func171 (Nat.le_of_ble_eq_true (by kernel_rfl)) (by kernel_rfl) (F171_eq a0 w R ▸ h)
set_option linter.unusedVariables false
set_option linter.unusedSimpArgs false
theorem rd_idxC {P : Program} {w : World} {t e : TypeId} {b a n cap sz by_ k : Nat} {ag : Bool} {u : Value} {K : Value → Prop} (ht : P.underlying t = some (.slice e)) (he : tyI P e = some (sz, by_, ag)) (hu : u = .slice (some ⟨b, a, none⟩) n cap) (hk : k < n) (kk : K (.pointer (some ⟨b, a + k * sz, none⟩))) :
    RD P (Instr.indexAt t u (.int .i64 (k : Int))) w K := by
  subst hu
  exact rd_of (fun w' _ => by rw [run_indexAt' ht he (by omega) (by omega)]; simp) kk
instance : Flat DRace := ⟨fun h => by obtain ⟨F1, F2, c1, c2, rfl, rfl, ⟨rfl, _⟩, ⟨F3, F4, c3, c4, rfl, rfl, ⟨rfl, _⟩, ⟨rfl, _⟩⟩⟩ := h; rfl⟩
section
variable {α : Type} [DecidableEq α]
def ddg (x : α) : List α → List α
  | [] => []
  | y :: l => if y = x then ddg x l else y :: ddg y l
def ddp : List α → List α
  | [] => []
  | x :: l => x :: ddg x l
theorem ddg_snoc (y : α) : ∀ (l : List α) (x : α), ddg x (l ++ [y]) = if y = l.getLastD x then ddg x l else ddg x l ++ [y]
  | [], x => rfl
  | a :: l, x => by
    rw [List.cons_append, ddg, ddg, List.getLastD_cons]
    by_cases h : a = x
    · rw [if_pos h, if_pos h, ddg_snoc y l x, h]
    · rw [if_neg h, if_neg h, ddg_snoc y l a]
      split <;> rfl
theorem ddp_take {l : List α} {k : Nat} (h0 : 0 < k) (hk : k < l.length) : ddp (l.take (k + 1)) = if l[k] = l[k - 1] then ddp (l.take k) else ddp (l.take k) ++ [l[k]] := by
  rw [List.take_succ_eq_append_getElem hk]
  cases l with
  | nil => simp at hk
  | cons x l =>
    obtain ⟨j, rfl⟩ : ∃ j, k = j + 1 := ⟨k - 1, by omega⟩
    have hj : j < l.length := by simpa using hk
    have e : (l.take j).getLastD x = (x :: l)[j + 1 - 1] := by
      rw [List.getLastD_eq_getLast?, List.getLast?_eq_getElem?, List.length_take, Nat.min_eq_left (by omega)]
      cases j with
      | zero => simp
      | succ j => simp [List.getElem?_take]; rw [List.getElem?_eq_getElem (by omega)]; rfl
    rw [List.take_succ_cons, List.cons_append, ddp, ddp, ddg_snoc, e]
    split <;> rfl
end
theorem compact_ok {w : World} {lo hi : Nat} {v : Value} {l : List DRace} (h : OwnI lo hi w v l) (hn : l.length ≤ 1073741824) :
    CALL Tryz.prog 172 [v] w fun r w' => ChgI lo hi w w' ∧ OwnI lo hi w' r (ddp l) := by
  obtain ⟨F, hM, hF⟩ := h
  refine F172_call ?_
  unfold F172
  refine rd_len u58 hM.is ?_
  refine rd_lss ?_
  refine br (fun hlt => ?_) (fun hge => ?_)
  · refine ⟨ChgI.refl w, F, ?_, hF⟩
    have : ddp l = l := by
      match l, hlt with
      | [], _ => rfl
      | [x], _ => rfl
      | _ :: _ :: _, h => simp only [List.length_cons] at h; omega
    rw [this]; exact hM
  have hne : l ≠ [] := fun e => by rw [e] at hge; simp at hge
  obtain ⟨b, o, cap, xs, rfl, rfl, h1, h2, hcc, hrr, hww⟩ := mine_parts hM hne
  have hln := hM.is
  refine loopC l.length (fun k us w' => us = [.int .i64 (k : Int)] ∧ Ext w w' ∧ 1 ≤ k ∧ k ≤ l.length ∧ ddp (l.take k) = l.take k) 1 (by omega) ⟨rfl, Ext.refl w, Nat.le_refl _, by omega, ?_⟩ ?_
  · cases l with
    | nil => exact absurd rfl hne
    | cons x l => rfl
  rintro k0 mk u w1 hkm ⟨hu, hx1, hk1, hkl, hd0⟩
  simp only [List.map_cons, List.map_nil, List.cons.injEq, and_true] at hu
  rw [hu]
  refine rd_len u58 hln ?_
  refine rd_lss ?_
  refine br (fun hlt => ?_) (fun hge1 => ?_)
  case refine_2 =>
    have : k0 = l.length := by omega
    subst this
    rw [List.take_length] at hd0
    rw [hd0]
    exact ⟨hx1.toI, [b], hM.ext hx1, hF⟩
  have hk : k0 < l.length := by omega
  have hx2 := ext_drew w1
  have hx12 := hx1.trans hx2
  generalize World.drew1 w1 = w2 at *
  refine rd_indexN u58 ty109 hln hk fun b1 o1 hA1 => ?_
  refine rd_load ty109 hA1 hx12 fun v19 h19 => ?_
  refine rd_sub (by unfold I64; omega) ?_
  rw [show ((k0 : Int) - 1) = ((k0 - 1 : Nat) : Int) by omega]
  refine rd_indexN (i := k0 - 1) u58 ty109 hln (by omega) fun b2 o2 hA2 => ?_
  refine rd_load ty109 hA2 hx12 fun v24 h24 => ?_
  refine rd_eqlDRace h19 h24 ?_
  refine br (fun heq => ?_) (fun hneq => ?_)
  case refine_2 =>
    refine rd_inc (by omega) ?_
    refine ⟨mk - 1, by omega, k0 + 1, by omega, rfl, hx12, by omega, by omega, ?_⟩
    rw [ddp_take (by omega) hk, if_neg hneq, hd0, ← List.take_succ_eq_append_getElem hk]
  refine rd_dropF (α := DRace) u58 ty109 (by omega) h1 ?_
  rw [if_neg (by omega)]
  have e3 : Rep.size DRace = 3 := rfl
  rw [e3]
  refine loopC (l.length - k0) (fun k2 us w' => ∃ (k : Nat) (cur : List DRace), us = [.int .i64 (k : Int), .int .i64 (k2 : Int)] ∧ Chg [b] w w' ∧ Mine [b] w' (.slice (some ⟨b, o, none⟩) l.length cap) cur ∧ cur.length = l.length ∧ 1 ≤ k2 ∧ k2 ≤ l.length - k0 ∧ k0 ≤ k ∧ k + 1 ≤ k0 + k2 ∧
      cur.take k = ddp (l.take (k0 + k2)) ∧ ∀ j, k ≤ j → cur[j]? = l[j]?) 1 (by omega)
    ⟨k0, l, rfl, hx12.chg _, hM.ext hx12, rfl, Nat.le_refl _, by omega, Nat.le_refl _, by omega, by rw [ddp_take (by omega) hk, if_pos heq, hd0], fun _ _ => rfl⟩ ?_
  rintro k2 mk2 u9 w3 hkm2 ⟨k, cur, hu9, hc3, hm3, hl3, hk21, hk22, hk0, hkk, htk, hrest⟩
  simp only [List.map_cons, List.map_nil, List.cons.injEq, and_true] at hu9
  obtain ⟨hu91, hu92⟩ := hu9
  rw [hu91, hu92]
  refine rd_of (v := .int .i64 ((l.length - k0 : Nat) : Int)) (fun w' _ => by simp [Builtin.len_, run_underlying u58]; rfl) ?_
  refine rd_lss ?_
  refine br (fun hlt2 => ?_) (fun hge2 => ?_)
  · have hp : k0 + k2 < l.length := by omega
    have hx4 := ext_drew w3
    have hm4 := hm3.ext hx4
    have hc4 := hc3.trans (hx4.chg _)
    generalize World.drew1 w3 = w4 at *
    have hcne : cur ≠ [] := fun e => by rw [e] at hl3; simp at hl3; omega
    obtain ⟨b', o', cap', xs', hv', hb', _, _, hcc', hrr', hww'⟩ := mine_parts hm4 hcne
    simp only [Value.slice.injEq, Option.some.injEq, Addr.mk.injEq] at hv'
    obtain ⟨⟨rfl, rfl, _⟩, _, rfl⟩ := hv'
    have hat : ∀ i (hi : i < cur.length), At w4 b (o + i * 3) cur[i] := fun i hi => hcc'.at hrr' hi
    have hget : ∀ i (hi : i < l.length) (hki : k ≤ i), cur[i]'(by omega) = l[i] := fun i hi hki => by
      have := hrest i hki
      rw [List.getElem?_eq_getElem (by omega), List.getElem?_eq_getElem hi] at this
      exact Option.some.inj this
    have hA3 := hat (k0 + k2) (by omega)
    have hA4 := hat (k0 + k2 - 1) (by omega)
    rw [hget _ hp (by omega)] at hA3
    rw [hget _ (by omega) (by omega)] at hA4
    refine rd_idxC (k := k2) u58 ty109 rfl (by omega) ?_
    rw [show o + k0 * 3 + k2 * 3 = o + (k0 + k2) * 3 by omega]
    refine rd_load ty109 hA3 (Ext.refl _) fun v38 h38 => ?_
    refine rd_sub (by unfold I64; omega) ?_
    rw [show ((k2 : Int) - 1) = ((k2 - 1 : Nat) : Int) by omega]
    refine rd_idxC (k := k2 - 1) u58 ty109 rfl (by omega) ?_
    rw [show o + k0 * 3 + (k2 - 1) * 3 = o + (k0 + k2 - 1) * 3 by omega]
    refine rd_load ty109 hA4 (Ext.refl _) fun v43 h43 => ?_
    refine rd_neqDRace h38 h43 ?_
    have hdt := ddp_take (l := l) (k := k0 + k2) (by omega) hp
    refine br (fun hne2 => ?_) (fun heq2 => ?_)
    · refine rd_idxC (k := k2) u58 ty109 rfl (by omega) ?_
      rw [show o + k0 * 3 + k2 * 3 = o + (k0 + k2) * 3 by omega]
      refine rd_load ty109 hA3 (Ext.refl _) fun v50 h50 => ?_
      obtain ⟨F5, cs5, hr5, hv5⟩ := h50
      have hF5 := Flat.flat hr5
      subst hF5
      refine set_step (α := DRace) u58 ty109 hm4 (k := k) (by omega) ⟨cs5, hr5, hv5⟩ fun w5 hc5 hm5 => ?_
      refine rd_inc (by omega) ?_
      refine rd_inc (by omega) ?_
      refine ⟨mk2 - 1, by omega, k2 + 1, by omega, k + 1, _, rfl, hc4.trans hc5, hm5, by simp [hl3], by omega, by omega, by omega, by omega, ?_, fun j hj => ?_⟩
      · rw [show k0 + (k2 + 1) = k0 + k2 + 1 by omega, hdt, if_neg hne2, ← htk]
        rw [List.take_succ_eq_append_getElem (by simp; omega), List.getElem_set_self, List.take_set_of_le (Nat.le_refl _)]
      · rw [List.getElem?_set_ne (by omega)]
        exact hrest j (by omega)
    · have heq2 := Decidable.not_not.1 heq2
      refine rd_inc (by omega) ?_
      refine ⟨mk2 - 1, by omega, k2 + 1, by omega, k, cur, rfl, hc4, hm4, hl3, by omega, by omega, hk0, by omega, ?_, hrest⟩
      rw [show k0 + (k2 + 1) = k0 + k2 + 1 by omega, hdt, if_pos heq2, htk]
  · have hk2 : k0 + k2 = l.length := by omega
    rw [hk2, List.take_length] at htk
    refine rd_dropF (α := DRace) u58 ty109 (by omega) h1 ?_
    refine op_clearF (α := DRace) u58 zl109 hm3 hl3 (by omega) (by omega) h1 fun w5 hc5 hm5 => ?_
    refine rd_cutF (α := DRace) u58 ty109 (by omega) h1 ?_
    rw [htk] at hm5
    exact ⟨(hc3.trans hc5).toI hF, [b], hm5, hF⟩
theorem cloneR_ok {w W : World} {v : Value} {l : List DRace} (h : Is W v l) (e : Ext W w) (hn : l.length ≤ 1073741824) :
    CALL Tryz.prog 168 [v] w fun r w' => Ext w w' ∧ Own w.heap.size w' r l := by
  refine F168_call ?_
  unfold F168
  obtain ⟨a, cap, Fi, xs, rfl, h1, h2, h3, h4⟩ := is_list h
  refine rd_slice_nil u58 ?_
  refine br_b (fun hnil => ?_) (fun _ => ?_)
  · have : l = [] := by
      rcases h4 with h4 | ⟨b, o, rfl, _⟩
      · exact h4
      · simp at hnil
    subst this
    exact ⟨Ext.refl w, own_nil rfl⟩
  · refine op_build0I (α := DRace) u58 ty109 fun a5 w1 hx1 r5 => ?_
    have hs1 := hx1.size
    refine op_appendI (α := DRace) u58 ty109 zc109 r5 (Nat.le_refl _) h (e.trans hx1) (by rw [maxLen_eq]; simp; omega) (by simp; omega) fun v7 w2 hc2 r7 => ?_
    rw [List.nil_append] at r7
    exact ⟨Ext.chgI hx1 hc2 (by omega), r7.own.own.mono (by omega)⟩
theorem clipR_ok {w : World} {lo hi : Nat} {v : Value} {l : List DRace} (h : OwnI lo hi w v l) :
    CALL Tryz.prog 171 [v] w fun r w' => Ext w w' ∧ OwnI lo hi w' r l := by
  obtain ⟨F, hM, hF⟩ := h
  refine F171_call ?_
  unfold F171
  refine rd_len u58 hM.is ?_
  refine rd_len u58 hM.is ?_
  by_cases hne : l = []
  · subst hne
    obtain ⟨a, cap, Fi, xs, rfl, h1, h2, h3, h4⟩ := is_list hM.is
    refine rd_clipF (α := DRace) (k := 0) (j := 0) u58 ty109 (Nat.le_refl _) h1 fun a' _ => ⟨Ext.refl w, ownI_zcap a'⟩
  · obtain ⟨b, o, cap, xs, rfl, rfl, h1, h2, hc, hr, hw⟩ := mine_parts hM hne
    refine rd_clipF (α := DRace) (k := l.length) (j := l.length) u58 ty109 (Nat.le_refl _) h1 fun a' ha => ?_
    rw [ha (fun e => hne (List.eq_nil_of_length_eq_zero e))]
    exact ⟨Ext.refl w, [b], mine_of_parts (Nat.le_refl _) (by omega) hc hr hw, hF⟩
end Go.Proofs.YtjgfldfbljmhhaaGreat
namespace Go.Sh
set_option linter.unusedVariables false
set_option linter.unusedSimpArgs false
open Rep (rep)
def Reads (P : Program) (t : TypeId) (α : Type) [Rep α] (n : Nat) : Prop :=
  ∀ (H : Type) (enc : TypeId × Value → H) (w : World) (spare : Nat → Bool) (held : Bool) (cs : List Value) (y : DataW H × List MemPlace), DataW.trod enc P w 0 spare held n t cs = some y → ∃ F x, rep F w cs (x : α)
section
variable {P : Program} {t : TypeId}
theorem reads_int (ht : P.underlying t = some (.int .i64)) (n : Nat) : Reads P t Int n := by
  intro H enc w spare held cs y h
  obtain ⟨m, rfl, _, hw⟩ := DataW.trod_int ht h
  refine ⟨[], m, rfl, rfl, ?_⟩
  simpa [Lit.wf, IntKind.min, IntKind.max, IntKind.signed, IntKind.bits, I64] using hw
theorem reads_str (ht : P.underlying t = some .string) (n : Nat) : Reads P t ByteArray n := by
  intro H enc w spare held cs y h
  obtain ⟨s, rfl, _, hs⟩ := DataW.trod_string ht h
  exact ⟨[], s, rfl, rfl, hs⟩
theorem mapM_some {α β : Type} {f : α → Option β} : ∀ {l : List α} {r : List β}, l.mapM f = some r → l.length = r.length ∧ ∀ (i : Nat) x, l[i]? = some x → ∃ y, f x = some y ∧ r[i]? = some y
  | [], r, h => by simp at h; subst h; simp
  | a :: l, r, h => by
    simp only [List.mapM_cons, Option.pure_def, Option.bind_eq_bind, Option.bind_eq_some_iff, Option.some.injEq] at h
    obtain ⟨b, hb, bs, hbs, rfl⟩ := h
    obtain ⟨h1, h2⟩ := mapM_some hbs
    refine ⟨by simp [h1], fun i x hx => ?_⟩
    cases i with
    | zero => simp at hx; subst hx; exact ⟨b, hb, by simp⟩
    | succ i => obtain ⟨y, hy, hr⟩ := h2 i x (by simpa using hx); exact ⟨y, hy, by simpa using hr⟩
theorem cells_range {w : World} {a : Addr} {n : Nat} {cs : List Value} (h : w.cells? 0 a n = some cs) : cs.length = n ∧ ∀ j v, cs[j]? = some v → w.cell? (a.add j) = some v := by
  unfold World.cells? at h
  simp only [Nat.zero_le, if_true] at h
  obtain ⟨h1, h2⟩ := mapM_some h
  simp only [List.length_range] at h1
  refine ⟨h1.symm, fun j v hv => ?_⟩
  have hj : j < cs.length := (List.getElem?_eq_some_iff.1 hv).1
  obtain ⟨y, hy, hr⟩ := h2 j j (by rw [List.getElem?_range (by omega)])
  rw [hr] at hv
  cases hv
  exact hy
theorem cell_spot {w : World} {a : Addr} {v : Value} (h : w.cell? a = some v) : a.spot = none := by
  unfold World.cell? at h
  split at h
  · split at h
    · cases h
    · rename_i hs; simpa using hs
  · cases h
theorem cells_all {α : Type} [Rep α] {w : World} {b o : Nat} : ∀ (n : Nat), (∀ i, i < n → ∃ (cs : List Value) (F : List Nat) (x : α), w.rangeAt b (o + i * Rep.size α) cs ∧ rep F w cs x) →
    ∃ (F : List Nat) (xs : List Value) (l : List α), l.length = n ∧ Cells F w xs l ∧ w.rangeAt b o xs
  | 0, _ => ⟨[], [], [], rfl, ⟨rfl, rfl⟩, fun j v hv => by simp at hv⟩
  | n + 1, h => by
    obtain ⟨F, xs, l, hl, hc, hr⟩ := cells_all n fun i hi => h i (by omega)
    obtain ⟨cs, G, x, hra, hx⟩ := h n (by omega)
    refine ⟨F ++ G, xs ++ cs, l ++ [x], by simp [hl], Cells.append hc (Cells.single hx), ?_⟩
    intro j v hv
    have hlen := Cells.len hc
    rw [hl] at hlen
    rcases Nat.lt_or_ge j xs.length with hj | hj
    · rw [List.getElem?_append_left hj] at hv; exact hr j v hv
    · rw [List.getElem?_append_right hj] at hv
      have := hra (j - xs.length) v hv
      rwa [show o + n * Rep.size α + (j - xs.length) = o + j by omega] at this
theorem reads_slice {e : TypeId} {α : Type} [Rep α] {n : Nat} (ht : P.underlying t = some (.slice e)) (hc : P.cellsOf e = Rep.size α) (he : Reads P e α n) : Reads P t (List α) (n + 1) := by
  intro H enc w spare held cs y h
  rcases DataW.trod_slice ht h with ⟨rfl, _⟩ | ⟨a, len, cap, elems, rest, m, hm, rfl, _, _, h1, h2, h3, h4, _⟩
  · exact ⟨[], [], none, 0, [], [], rfl, Nat.le_refl _, Nat.zero_le _, ⟨rfl, rfl⟩, .inl ⟨rfl, rfl⟩⟩
  · obtain rfl : m = n := by omega
    by_cases h0 : len = 0
    · subst h0
      exact ⟨[], [], some a, cap, [], [], rfl, Nat.zero_le _, h2, ⟨rfl, rfl⟩, .inl ⟨rfl, rfl⟩⟩
    · have key : ∀ i, i < len → ∃ (cs : List Value) (F : List Nat) (x : α), cs.length = Rep.size α ∧ (∀ j v, cs[j]? = some v → w.cell? ((a.add (i * P.cellsOf e)).add j) = some v) ∧ rep F w cs x := by
        intro i hi
        have hy := h4 i hi
        rw [List.getElem?_eq_getElem (by omega)] at hy
        obtain ⟨cs, hcs, hy⟩ := Option.bind_eq_some_iff.1 hy
        obtain ⟨F, x, hx⟩ := he H enc w spare held cs _ hy
        obtain ⟨hl, hcell⟩ := cells_range hcs
        exact ⟨cs, F, x, by rw [hl, hc], hcell, hx⟩
      have hsp : a.spot = none := by
        obtain ⟨cs, F, x, hl, hcell, _⟩ := key 0 (by omega)
        have hp := Rep.pos (α := α)
        have := hcell 0 (cs[0]'(by omega)) (by rw [List.getElem?_eq_getElem])
        simpa [Addr.add] using cell_spot this
      obtain ⟨b, o, sp⟩ := a
      simp only at hsp
      subst hsp
      obtain ⟨F, xs, l, hl, hC, hR⟩ := cells_all (α := α) (w := w) (b := b) (o := o) len fun i hi => by
        obtain ⟨cs, F, x, _, hcell, hx⟩ := key i hi
        refine ⟨cs, F, x, fun j v hv => ?_, hx⟩
        have := hcell j v hv
        rw [hc] at this
        rwa [Addr.add_mid, Addr.add_mid] at this
      have hb : b < w.heap.size := rangeAt_lt hR (by rw [Cells.len hC, hl]; exact Nat.mul_pos (by omega) Rep.pos)
      subst hl
      exact ⟨b :: F, l, some ⟨b, o, none⟩, cap, F, xs, rfl, h1, h2, hC, .inr ⟨b, o, rfl, rfl, hR, hb⟩⟩
theorem reads_via {α β : Type} [Rep β] {f : α → β} {g : β → α} (hg : ∀ y, f (g y) = y) {n : Nat} (h : Reads P t β n) : @Reads P t α (Rep.via f) n := by
  intro H enc w spare held cs y hy
  obtain ⟨F, x, hx⟩ := h H enc w spare held cs y hy
  exact ⟨F, g x, show rep F w cs (f (g x)) by rw [hg]; exact hx⟩
theorem drop_take_split {cs : List Value} {o a b : Nat} : (cs.drop o).take (a + b) = (cs.drop o).take a ++ (cs.drop (o + a)).take b := by
  rw [List.take_add, List.drop_drop]
inductive FldR (P : Program) (n : Nat) : Nat → List Field → (α : Type) → Rep α → Prop
  | one {off : Nat} {f : Field} {α : Type} [i : Rep α] (h1 : f.offset = off) (h2 : P.cellsOf f.type = Rep.size α) (h3 : Reads P f.type α n) : FldR P n off [f] α i
  | cons {off : Nat} {f : Field} {fs : List Field} {α β : Type} [i : Rep α] [j : Rep β] (h1 : f.offset = off) (h2 : P.cellsOf f.type = Rep.size α) (h3 : Reads P f.type α n) (h4 : FldR P n (off + Rep.size α) fs β j) : FldR P n off (f :: fs) (α × β) inferInstance
theorem fldR_rep {n : Nat} {H : Type} {enc : TypeId × Value → H} {w : World} {spare : Nat → Bool} {held : Bool} {cs : List Value} {off : Nat} {fs : List Field} {α : Type} {i : Rep α} (h : FldR P n off fs α i) :
    (∀ f ∈ fs, ∃ y, DataW.trod enc P w 0 spare held n f.type ((cs.drop f.offset).take (P.cellsOf f.type)) = some y) → cs.length = off + @Rep.size α i → ∃ F x, @Rep.rep α i F w (cs.drop off) x := by
  induction h with
  | @one off f α i h1 h2 h3 =>
    intro hy hl
    obtain ⟨y, hf⟩ := hy f (by simp)
    subst h1
    rw [h2, List.take_of_length_le (by simp; omega)] at hf
    exact h3 _ _ _ _ _ _ _ hf
  | @cons off f fs α β i j h1 h2 h3 h4 ih =>
    intro hy hl
    obtain ⟨y, hf⟩ := hy f (by simp)
    have hl' : cs.length = off + (Rep.size α + Rep.size β) := hl
    obtain ⟨F2, x2, hx2⟩ := ih (fun g hg => hy g (by simp [hg])) (by omega)
    subst h1
    rw [h2] at hf
    obtain ⟨F1, x1, hx1⟩ := h3 _ _ _ _ _ _ _ hf
    refine ⟨F1 ++ F2, (x1, x2), F1, F2, _, _, rfl, ?_, hx1, hx2⟩
    have := drop_take_split (cs := cs) (o := f.offset) (a := Rep.size α) (b := Rep.size β)
    rw [List.take_of_length_le (by simp; omega), List.take_of_length_le (l := cs.drop (f.offset + Rep.size α)) (by simp; omega)] at this
    exact this
theorem reads_struct {fs : Array Field} {α : Type} [i : Rep α] {n : Nat} (ht : P.underlying t = some (.struct fs)) (hc : P.cellsOf t = Rep.size α) (hf : FldR P n 0 fs.toList α i) : Reads P t α (n + 1) := by
  intro H enc w spare held cs y h
  obtain ⟨xs, m, hm, _, hlen, hxl, hx⟩ := DataW.trod_struct ht h
  obtain rfl : m = n := by omega
  have := fldR_rep (enc := enc) (w := w) (spare := spare) (held := held) (cs := cs) hf (fun f hf => by
    obtain ⟨k, hk, hkf⟩ := List.getElem_of_mem hf
    have h1 : fs[k]? = some f := by rw [← hkf]; simp
    have h2 := hx k f h1
    have hk' : k < xs.length := by rw [hxl]; simpa using hk
    rw [List.getElem?_eq_getElem hk'] at h2
    exact ⟨_, h2⟩) (by rw [hlen, hc]; simp)
  simpa using this
theorem reads_zero {α : Type} [Rep α] : Reads P t α 0 := by intro H enc w spare held cs y h; simp [DataW.trod] at h
theorem reads_all_slice {e : TypeId} {α : Type} [Rep α] (ht : P.underlying t = some (.slice e)) (hc : P.cellsOf e = Rep.size α) (he : ∀ n, Reads P e α n) : ∀ n, Reads P t (List α) n
  | 0 => reads_zero
  | n + 1 => reads_slice ht hc (he n)
theorem reads_all_struct {fs : Array Field} {α : Type} [i : Rep α] (ht : P.underlying t = some (.struct fs)) (hc : P.cellsOf t = Rep.size α) (hf : ∀ n, FldR P n 0 fs.toList α i) : ∀ n, Reads P t α n
  | 0 => reads_zero
  | n + 1 => reads_struct ht hc (hf n)
theorem is_of_int {H : Type} {enc : TypeId × Value → H} {w W : World} {r : Reach} {b0 : Nat} {spare : Nat → Bool} {held : Bool} {v : Value} {d : DataW H} {p : List MemPlace} (ht : P.underlying t = some (.int .i64)) (hv : Value.okWide P W r b0 t v)
    (h : DataW.Trod enc P w 0 spare held t v d p) : ∃ x : Int, Is w v x := by
  obtain ⟨s, rfl⟩ := WideShapes.okWide_int ht hv
  obtain ⟨n, hn⟩ := h
  obtain ⟨F, x, hx⟩ := reads_int ht n H enc w spare held _ _ hn
  exact ⟨x, F, _, hx, rfl⟩
theorem is_of_struct {fs : Array Field} {α : Type} [Rep α] {H : Type} {enc : TypeId × Value → H} {w W : World} {r : Reach} {b0 : Nat} {spare : Nat → Bool} {held : Bool} {v : Value} {d : DataW H} {p : List MemPlace} (ht : P.underlying t = some (.struct fs)) (ha : Rep.agg α = true) (hr : ∀ n, Reads P t α n) (hv : Value.okWide P W r b0 t v)
    (h : DataW.Trod enc P w 0 spare held t v d p) : ∃ x : α, Is w v x := by
  simp only [Value.okWide, ht] at hv
  obtain ⟨cs, rfl, _⟩ := hv
  obtain ⟨n, hn⟩ := h
  obtain ⟨F, x, hx⟩ := hr n H enc w spare held _ _ hn
  exact ⟨x, F, _, hx, by simp [mkv, ha, Value.cells]⟩
end
end Go.Sh
namespace Go.Sh
set_option linter.unusedVariables false
set_option linter.unusedSimpArgs false
open Rep (rep)
inductive DTerm where
  | mk (kind num : Int) (name : ByteArray) (kids : List DTerm)
namespace DTerm
def kind : DTerm → Int | .mk k _ _ _ => k
def num : DTerm → Int | .mk _ n _ _ => n
def name : DTerm → ByteArray | .mk _ _ s _ => s
def kids : DTerm → List DTerm | .mk _ _ _ l => l
def tup (t : DTerm) : Int × Int × ByteArray × List DTerm := (t.kind, t.num, t.name, t.kids)
end DTerm
theorem DTerm.eta (t : DTerm) : DTerm.mk t.kind t.num t.name t.kids = t := by cases t; rfl
theorem DTerm.ext_iff {x y : DTerm} : x = y ↔ (x.kind = y.kind ∧ x.num = y.num ∧ x.name = y.name ∧ x.kids = y.kids) := by
  constructor
  · intro h; rw [h]; exact ⟨rfl, rfl, rfl, rfl⟩
  · rintro ⟨h1, h2, h3, h4⟩
    rw [← DTerm.eta x, ← DTerm.eta y, h1, h2, h3, h4]
theorem DTerm.kid_lt {t k : DTerm} (h : k ∈ t.kids) : SizeOf.sizeOf k < SizeOf.sizeOf t := by
  cases t with
  | mk a b c l =>
    have : k ∈ l := h
    have := List.sizeOf_lt_of_mem this
    simp only [DTerm.mk.sizeOf_spec]; omega
theorem DTerm.ind {p : DTerm → Prop} (h : ∀ t, (∀ k ∈ t.kids, p k) → p t) (t : DTerm) : p t :=
  h t fun k hk => DTerm.ind h k
termination_by SizeOf.sizeOf t
decreasing_by exact DTerm.kid_lt hk
mutual
def DTerm.beq : DTerm → DTerm → Bool
  | .mk a b c l, .mk a' b' c' l' => decide (a = a') && decide (b = b') && decide (c = c') && DTerm.beqL l l'
def DTerm.beqL : List DTerm → List DTerm → Bool
  | [], [] => true
  | x :: l, y :: m => DTerm.beq x y && DTerm.beqL l m
  | _, _ => false
end
mutual
theorem DTerm.beq_iff : ∀ (x y : DTerm), DTerm.beq x y = true ↔ x = y
  | .mk a b c l, .mk a' b' c' l' => by
    simp only [DTerm.beq, Bool.and_eq_true, decide_eq_true_eq, DTerm.mk.injEq, DTerm.beqL_iff l l', and_assoc]
theorem DTerm.beqL_iff : ∀ (x y : List DTerm), DTerm.beqL x y = true ↔ x = y
  | [], [] => by simp [DTerm.beqL]
  | [], y :: m => by simp [DTerm.beqL]
  | x :: l, [] => by simp [DTerm.beqL]
  | x :: l, y :: m => by simp only [DTerm.beqL, Bool.and_eq_true, DTerm.beq_iff x y, DTerm.beqL_iff l m, List.cons.injEq]
end
instance : DecidableEq DTerm := fun x y => decidable_of_iff _ (DTerm.beq_iff x y)
mutual
def repT : DTerm → List Nat → World → List Value → Prop
  | .mk k n s ks, F, w, cs => ∃ a cap Fi xs, cs = [.int .i64 k, .int .i64 n, .string s, .slice a ks.length cap] ∧ I64 k ∧ I64 n ∧ s.size ≤ maxLen ∧ ks.length ≤ cap ∧ cap ≤ maxLen ∧ cellsT ks Fi w xs ∧
    ((ks = [] ∧ F = []) ∨ ∃ b o, a = some ⟨b, o, none⟩ ∧ F = b :: Fi ∧ w.rangeAt b o xs ∧ b < w.heap.size)
def cellsT : List DTerm → List Nat → World → List Value → Prop
  | [], F, _, xs => F = [] ∧ xs = []
  | y :: ys, F, w, xs => ∃ F1 F2 c1 c2, F = F1 ++ F2 ∧ xs = c1 ++ c2 ∧ repT y F1 w c1 ∧ cellsT ys F2 w c2
end
theorem repT_len {t : DTerm} {F : List Nat} {w : World} {cs : List Value} (h : repT t F w cs) : cs.length = 4 := by
  cases t; rw [repT] at h; obtain ⟨a, cap, Fi, xs, rfl, _⟩ := h; rfl
theorem repT_one {t : DTerm} {F : List Nat} {w : World} {cs : List Value} (h : repT t F w cs) : ∀ v ∈ cs, v.oneCell' = true := by
  cases t; rw [repT] at h; obtain ⟨a, cap, Fi, xs, rfl, _⟩ := h
  intro v hv
  simp only [List.mem_cons, List.not_mem_nil, or_false] at hv
  rcases hv with rfl | rfl | rfl | rfl <;> rfl
mutual
theorem repT_keep : ∀ (t : DTerm) {F : List Nat} {w w' : World} {cs : List Value}, repT t F w cs → (∀ b ∈ F, w'.heap[b]? = w.heap[b]?) → repT t F w' cs
  | .mk k n s ks, F, w, w', cs, h, hk => by
    rw [repT] at h ⊢
    obtain ⟨a, cap, Fi, xs, hcs, i1, i2, i3, h1, h2, hc, h4⟩ := h
    rcases h4 with ⟨rfl, rfl⟩ | ⟨b, o, ha, hF, hr, hb⟩
    · exact ⟨a, cap, Fi, xs, hcs, i1, i2, i3, h1, h2, by rw [cellsT] at hc ⊢; exact hc, .inl ⟨rfl, rfl⟩⟩
    · subst hF
      have hbb := hk b (by simp)
      refine ⟨a, cap, Fi, xs, hcs, i1, i2, i3, h1, h2, cellsT_keep ks hc fun c hc => hk c (by simp [hc]), .inr ⟨b, o, ha, rfl, rangeAt_keep hr hbb, ?_⟩⟩
      rcases Nat.lt_or_ge b (Array.size (World.heap w')) with h' | h'
      · exact h'
      · rw [Array.getElem?_eq_none h'] at hbb
        simp [Array.getElem?_eq_getElem hb] at hbb
theorem cellsT_keep : ∀ (l : List DTerm) {F : List Nat} {w w' : World} {cs : List Value}, cellsT l F w cs → (∀ b ∈ F, w'.heap[b]? = w.heap[b]?) → cellsT l F w' cs
  | [], F, w, w', cs, h, _ => by rw [cellsT] at h ⊢; exact h
  | y :: ys, F, w, w', cs, h, hk => by
    rw [cellsT] at h ⊢
    obtain ⟨F1, F2, c1, c2, rfl, rfl, h1, h2⟩ := h
    exact ⟨F1, F2, c1, c2, rfl, rfl, repT_keep y h1 fun b hb => hk b (by simp [hb]), cellsT_keep ys h2 fun b hb => hk b (by simp [hb])⟩
end
mutual
theorem repT_lt : ∀ (t : DTerm) {F : List Nat} {w : World} {cs : List Value}, repT t F w cs → ∀ b ∈ F, b < w.heap.size
  | .mk k n s ks, F, w, cs, h, c, hm => by
    rw [repT] at h
    obtain ⟨a, cap, Fi, xs, hcs, i1, i2, i3, h1, h2, hc, h4⟩ := h
    rcases h4 with ⟨rfl, rfl⟩ | ⟨b, o, ha, hF, hr, hb⟩
    · cases hm
    · subst hF
      rcases List.mem_cons.1 hm with rfl | hm
      · exact hb
      · exact cellsT_lt ks hc c hm
theorem cellsT_lt : ∀ (l : List DTerm) {F : List Nat} {w : World} {cs : List Value}, cellsT l F w cs → ∀ b ∈ F, b < w.heap.size
  | [], F, w, cs, h, c, hm => by rw [cellsT] at h; rw [h.1] at hm; cases hm
  | y :: ys, F, w, cs, h, c, hm => by
    rw [cellsT] at h
    obtain ⟨F1, F2, c1, c2, rfl, rfl, h1, h2⟩ := h
    rcases List.mem_append.1 hm with hm | hm
    · exact repT_lt y h1 c hm
    · exact cellsT_lt ys h2 c hm
end
instance : Rep DTerm where
  size := 4
  agg := true
  rep F w cs x := repT x F w cs
  pos := by decide
  sz h := by cases h
  len h := repT_len h
  one h := repT_one h
  keep h hk := repT_keep _ h hk
  lt h := repT_lt _ h
theorem cellsT_eq {w : World} : ∀ {l : List DTerm} {F : List Nat} {xs : List Value}, cellsT l F w xs ↔ Cells F w xs l
  | [], F, xs => by rw [cellsT]; exact Iff.rfl
  | y :: ys, F, xs => by
    rw [cellsT]
    constructor
    · rintro ⟨F1, F2, c1, c2, h1, h2, h3, h4⟩; exact ⟨F1, F2, c1, c2, h1, h2, h3, cellsT_eq.1 h4⟩
    · rintro ⟨F1, F2, c1, c2, h1, h2, h3, h4⟩; exact ⟨F1, F2, c1, c2, h1, h2, h3, cellsT_eq.2 h4⟩
theorem rep_tup {w : World} {F : List Nat} {cs : List Value} {t : DTerm} : rep F w cs t ↔ rep F w cs t.tup := by
  obtain ⟨k, n, s, ks⟩ := t
  show repT _ F w cs ↔ _
  rw [repT]
  constructor
  · rintro ⟨a, cap, Fi, xs, rfl, i1, i2, i3, h1, h2, hc, h4⟩
    refine ⟨[], F, [.int .i64 k], _, rfl, rfl, ⟨rfl, rfl, i1⟩, [], F, [.int .i64 n], _, rfl, rfl, ⟨rfl, rfl, i2⟩, [], F, [.string s], _, rfl, rfl, ⟨rfl, rfl, i3⟩, a, cap, Fi, xs, rfl, h1, h2, cellsT_eq.1 hc, h4⟩
  · rintro ⟨_, _, _, _, rfl, rfl, ⟨rfl, rfl, i1⟩, _, _, _, _, rfl, rfl, ⟨rfl, rfl, i2⟩, _, _, _, _, rfl, rfl, ⟨rfl, rfl, i3⟩, a, cap, Fi, xs, rfl, h1, h2, hc, h4⟩
    exact ⟨a, cap, Fi, xs, rfl, i1, i2, i3, h1, h2, cellsT_eq.2 hc, h4⟩
theorem at_tup {w : World} {b o : Nat} {t : DTerm} : At w b o t ↔ At w b o t.tup :=
  ⟨fun ⟨F, cs, h, k⟩ => ⟨F, cs, rep_tup.1 h, k⟩, fun ⟨F, cs, h, k⟩ => ⟨F, cs, rep_tup.2 h, k⟩⟩
theorem oat_tup {w : World} {G : List Nat} {b o : Nat} {t : DTerm} : OAt G w b o t ↔ OAt G w b o t.tup :=
  ⟨fun ⟨cs, h, k⟩ => ⟨cs, rep_tup.1 h, k⟩, fun ⟨cs, h, k⟩ => ⟨cs, rep_tup.2 h, k⟩⟩
section
variable {w : World} {b o : Nat}
theorem at_DTerm_0 {x : DTerm} (h : At w b o x) : At w b (o + 0) x.kind := at_fst (α := Int) (β := Int × ByteArray × List DTerm) (p := x.tup) (at_tup.1 h)
theorem at_DTerm_1 {x : DTerm} (h : At w b o x) : At w b (o + 1) x.num := at_fst (α := Int) (β := ByteArray × List DTerm) (p := (x.num, x.name, x.kids)) (at_snd (α := Int) (β := Int × ByteArray × List DTerm) (p := x.tup) (at_tup.1 h))
theorem at_DTerm_2 {x : DTerm} (h : At w b o x) : At w b (o + 2) x.name := at_fst (α := ByteArray) (β := List DTerm) (p := (x.name, x.kids)) (at_snd (α := Int) (β := ByteArray × List DTerm) (p := (x.num, x.name, x.kids)) (at_snd (α := Int) (β := Int × ByteArray × List DTerm) (p := x.tup) (at_tup.1 h)))
theorem at_DTerm_3 {x : DTerm} (h : At w b o x) : At w b (o + 3) x.kids := at_snd (α := ByteArray) (β := List DTerm) (p := (x.name, x.kids)) (at_snd (α := Int) (β := ByteArray × List DTerm) (p := (x.num, x.name, x.kids)) (at_snd (α := Int) (β := Int × ByteArray × List DTerm) (p := x.tup) (at_tup.1 h)))
end
theorem Lens.term {w : World} {γ : Type} {H : List Nat → World → γ → Prop} {F : List Nat} {b o : Nat} {G : List Nat} {t : DTerm} {upd : DTerm → γ} (h : Lens H F w b o G t upd) :
    Lens H F w b o G t.tup (fun p => upd (.mk p.1 p.2.1 p.2.2.1 p.2.2.2)) :=
  ⟨oat_tup.1 h.here, h.sub, fun w' G' y' hc hO hs => h.back w' G' _ hc (oat_tup.2 hO) hs⟩
instance : RepZ DTerm := ⟨.mk 0 0 ByteArray.empty [], RepZ.zc (Int × Int × ByteArray × List DTerm), fun w => rep_tup.2 (RepZ.zr (α := Int × Int × ByteArray × List DTerm) w)⟩
section
variable {γ : Type} {H : List Nat → World → γ → Prop} {F : List Nat} {w : World} {b o : Nat} {G : List Nat} {x : DTerm} {upd : DTerm → γ}
theorem lens_DTerm_0 (h : Lens H F w b o G x upd) : ∃ G1, Lens H F w b (o + 0) G1 x.kind (fun y => upd (.mk y x.num x.name x.kids)) := by
  obtain ⟨G1, h1⟩ := h.term.fst; exact ⟨G1, h1⟩
theorem lens_DTerm_1 (h : Lens H F w b o G x upd) : ∃ G1, Lens H F w b (o + 1) G1 x.num (fun y => upd (.mk x.kind y x.name x.kids)) := by
  obtain ⟨G1, h1⟩ := h.term.snd; obtain ⟨G2, h2⟩ := h1.fst; exact ⟨G2, h2⟩
theorem lens_DTerm_2 (h : Lens H F w b o G x upd) : ∃ G1, Lens H F w b (o + 2) G1 x.name (fun y => upd (.mk x.kind x.num y x.kids)) := by
  obtain ⟨G1, h1⟩ := h.term.snd; obtain ⟨G2, h2⟩ := h1.snd; obtain ⟨G3, h3⟩ := h2.fst; exact ⟨G3, h3⟩
theorem lens_DTerm_3 (h : Lens H F w b o G x upd) : ∃ G1, Lens H F w b (o + 3) G1 x.kids (fun y => upd (.mk x.kind x.num x.name y)) := by
  obtain ⟨G1, h1⟩ := h.term.snd; obtain ⟨G2, h2⟩ := h1.snd; obtain ⟨G3, h3⟩ := h2.snd; exact ⟨G3, h3⟩
end
theorem reads_tup {P : Program} {t : TypeId} {n : Nat} (h : Reads P t (Int × Int × ByteArray × List DTerm) n) : Reads P t DTerm n := by
  intro H enc w spare held cs y hh
  obtain ⟨F, x, hx⟩ := h H enc w spare held cs y hh
  exact ⟨F, .mk x.1 x.2.1 x.2.2.1 x.2.2.2, rep_tup.2 hx⟩
structure DIns where
  op : Int
  arg : Int
  term : DTerm
  to : Int
theorem DIns.ext_iff {x y : DIns} : x = y ↔ (x.op = y.op ∧ x.arg = y.arg ∧ x.term = y.term ∧ x.to = y.to) := ⟨fun h => by rw [h]; exact ⟨rfl, rfl, rfl, rfl⟩, fun h => by obtain ⟨h0, h1, h2, h3⟩ := h; cases x; cases y; simp only at h0 h1 h2 h3; simp only [h0, h1, h2, h3]⟩
instance : DecidableEq DIns := fun x y => decidable_of_iff (x.op = y.op ∧ x.arg = y.arg ∧ x.term = y.term ∧ x.to = y.to) DIns.ext_iff.symm
instance : Rep DIns := Rep.via fun x => (x.op, x.arg, x.term, x.to)
theorem at_DIns_0 {w : World} {b o : Nat} {x : DIns} (h : At w b o x) : At w b (o + 0) x.op := at_fst (α := Int) (β := Int × DTerm × Int) (p := (x.op, x.arg, x.term, x.to)) h
theorem at_DIns_1 {w : World} {b o : Nat} {x : DIns} (h : At w b o x) : At w b (o + 1) x.arg := at_fst (α := Int) (β := DTerm × Int) (p := (x.arg, x.term, x.to)) (at_snd (α := Int) (β := Int × DTerm × Int) (p := (x.op, x.arg, x.term, x.to)) h)
theorem at_DIns_2 {w : World} {b o : Nat} {x : DIns} (h : At w b o x) : At w b (o + 2) x.term := at_fst (α := DTerm) (β := Int) (p := (x.term, x.to)) (at_snd (α := Int) (β := DTerm × Int) (p := (x.arg, x.term, x.to)) (at_snd (α := Int) (β := Int × DTerm × Int) (p := (x.op, x.arg, x.term, x.to)) h))
theorem at_DIns_3 {w : World} {b o : Nat} {x : DIns} (h : At w b o x) : At w b (o + 6) x.to := at_snd (α := DTerm) (β := Int) (p := (x.term, x.to)) (at_snd (α := Int) (β := DTerm × Int) (p := (x.arg, x.term, x.to)) (at_snd (α := Int) (β := Int × DTerm × Int) (p := (x.op, x.arg, x.term, x.to)) h))
instance : RepZ DIns := ⟨⟨(RepZ.zv : Int), (RepZ.zv : Int), (RepZ.zv : DTerm), (RepZ.zv : Int)⟩, RepZ.zc (Int × Int × DTerm × Int), fun w => RepZ.zr (α := Int × Int × DTerm × Int) w⟩
theorem lens_DIns_0 {γ : Type} {H : List Nat → World → γ → Prop} {F : List Nat} {w : World} {b o : Nat} {G : List Nat} {x : DIns} {upd : DIns → γ} (h : Lens H F w b o G x upd) :
    ∃ G1, Lens H F w b (o + 0) G1 x.op (fun y => upd ⟨y, x.arg, x.term, x.to⟩) := by
  have h' : Lens H F w b o G (x.op, x.arg, x.term, x.to) (fun p : Int × Int × DTerm × Int => upd ⟨p.1, p.2.1, p.2.2.1, p.2.2.2⟩) := ⟨h.here, h.sub, fun w' G' y' hc hO hs => h.back w' G' _ hc hO hs⟩
  obtain ⟨G0, h'⟩ := h'.fst
  exact ⟨_, h'⟩
theorem lens_DIns_1 {γ : Type} {H : List Nat → World → γ → Prop} {F : List Nat} {w : World} {b o : Nat} {G : List Nat} {x : DIns} {upd : DIns → γ} (h : Lens H F w b o G x upd) :
    ∃ G1, Lens H F w b (o + 1) G1 x.arg (fun y => upd ⟨x.op, y, x.term, x.to⟩) := by
  have h' : Lens H F w b o G (x.op, x.arg, x.term, x.to) (fun p : Int × Int × DTerm × Int => upd ⟨p.1, p.2.1, p.2.2.1, p.2.2.2⟩) := ⟨h.here, h.sub, fun w' G' y' hc hO hs => h.back w' G' _ hc hO hs⟩
  obtain ⟨G0, h'⟩ := h'.snd
  obtain ⟨G1, h'⟩ := h'.fst
  exact ⟨_, h'⟩
theorem lens_DIns_2 {γ : Type} {H : List Nat → World → γ → Prop} {F : List Nat} {w : World} {b o : Nat} {G : List Nat} {x : DIns} {upd : DIns → γ} (h : Lens H F w b o G x upd) :
    ∃ G1, Lens H F w b (o + 2) G1 x.term (fun y => upd ⟨x.op, x.arg, y, x.to⟩) := by
  have h' : Lens H F w b o G (x.op, x.arg, x.term, x.to) (fun p : Int × Int × DTerm × Int => upd ⟨p.1, p.2.1, p.2.2.1, p.2.2.2⟩) := ⟨h.here, h.sub, fun w' G' y' hc hO hs => h.back w' G' _ hc hO hs⟩
  obtain ⟨G0, h'⟩ := h'.snd
  obtain ⟨G1, h'⟩ := h'.snd
  obtain ⟨G2, h'⟩ := h'.fst
  exact ⟨_, h'⟩
theorem lens_DIns_3 {γ : Type} {H : List Nat → World → γ → Prop} {F : List Nat} {w : World} {b o : Nat} {G : List Nat} {x : DIns} {upd : DIns → γ} (h : Lens H F w b o G x upd) :
    ∃ G1, Lens H F w b (o + 6) G1 x.to (fun y => upd ⟨x.op, x.arg, x.term, y⟩) := by
  have h' : Lens H F w b o G (x.op, x.arg, x.term, x.to) (fun p : Int × Int × DTerm × Int => upd ⟨p.1, p.2.1, p.2.2.1, p.2.2.2⟩) := ⟨h.here, h.sub, fun w' G' y' hc hO hs => h.back w' G' _ hc hO hs⟩
  obtain ⟨G0, h'⟩ := h'.snd
  obtain ⟨G1, h'⟩ := h'.snd
  obtain ⟨G2, h'⟩ := h'.snd
  exact ⟨_, h'⟩
structure DCode where
  globals : List ByteArray
  locks : List ByteArray
  procs : List ByteArray
  entry : List Int
  ins : List DIns
theorem DCode.ext_iff {x y : DCode} : x = y ↔ (x.globals = y.globals ∧ x.locks = y.locks ∧ x.procs = y.procs ∧ x.entry = y.entry ∧ x.ins = y.ins) := ⟨fun h => by rw [h]; exact ⟨rfl, rfl, rfl, rfl, rfl⟩, fun h => by obtain ⟨h0, h1, h2, h3, h4⟩ := h; cases x; cases y; simp only at h0 h1 h2 h3 h4; simp only [h0, h1, h2, h3, h4]⟩
instance : DecidableEq DCode := fun x y => decidable_of_iff (x.globals = y.globals ∧ x.locks = y.locks ∧ x.procs = y.procs ∧ x.entry = y.entry ∧ x.ins = y.ins) DCode.ext_iff.symm
instance : Rep DCode := Rep.via fun x => (x.globals, x.locks, x.procs, x.entry, x.ins)
theorem at_DCode_0 {w : World} {b o : Nat} {x : DCode} (h : At w b o x) : At w b (o + 0) x.globals := at_fst (α := List ByteArray) (β := (List ByteArray) × (List ByteArray) × (List Int) × (List DIns)) (p := (x.globals, x.locks, x.procs, x.entry, x.ins)) h
theorem at_DCode_1 {w : World} {b o : Nat} {x : DCode} (h : At w b o x) : At w b (o + 1) x.locks := at_fst (α := List ByteArray) (β := (List ByteArray) × (List Int) × (List DIns)) (p := (x.locks, x.procs, x.entry, x.ins)) (at_snd (α := List ByteArray) (β := (List ByteArray) × (List ByteArray) × (List Int) × (List DIns)) (p := (x.globals, x.locks, x.procs, x.entry, x.ins)) h)
theorem at_DCode_2 {w : World} {b o : Nat} {x : DCode} (h : At w b o x) : At w b (o + 2) x.procs := at_fst (α := List ByteArray) (β := (List Int) × (List DIns)) (p := (x.procs, x.entry, x.ins)) (at_snd (α := List ByteArray) (β := (List ByteArray) × (List Int) × (List DIns)) (p := (x.locks, x.procs, x.entry, x.ins)) (at_snd (α := List ByteArray) (β := (List ByteArray) × (List ByteArray) × (List Int) × (List DIns)) (p := (x.globals, x.locks, x.procs, x.entry, x.ins)) h))
theorem at_DCode_3 {w : World} {b o : Nat} {x : DCode} (h : At w b o x) : At w b (o + 3) x.entry := at_fst (α := List Int) (β := (List DIns)) (p := (x.entry, x.ins)) (at_snd (α := List ByteArray) (β := (List Int) × (List DIns)) (p := (x.procs, x.entry, x.ins)) (at_snd (α := List ByteArray) (β := (List ByteArray) × (List Int) × (List DIns)) (p := (x.locks, x.procs, x.entry, x.ins)) (at_snd (α := List ByteArray) (β := (List ByteArray) × (List ByteArray) × (List Int) × (List DIns)) (p := (x.globals, x.locks, x.procs, x.entry, x.ins)) h)))
theorem at_DCode_4 {w : World} {b o : Nat} {x : DCode} (h : At w b o x) : At w b (o + 4) x.ins := at_snd (α := List Int) (β := (List DIns)) (p := (x.entry, x.ins)) (at_snd (α := List ByteArray) (β := (List Int) × (List DIns)) (p := (x.procs, x.entry, x.ins)) (at_snd (α := List ByteArray) (β := (List ByteArray) × (List Int) × (List DIns)) (p := (x.locks, x.procs, x.entry, x.ins)) (at_snd (α := List ByteArray) (β := (List ByteArray) × (List ByteArray) × (List Int) × (List DIns)) (p := (x.globals, x.locks, x.procs, x.entry, x.ins)) h)))
instance : RepZ DCode := ⟨⟨(RepZ.zv : List ByteArray), (RepZ.zv : List ByteArray), (RepZ.zv : List ByteArray), (RepZ.zv : List Int), (RepZ.zv : List DIns)⟩, RepZ.zc ((List ByteArray) × (List ByteArray) × (List ByteArray) × (List Int) × (List DIns)), fun w => RepZ.zr (α := (List ByteArray) × (List ByteArray) × (List ByteArray) × (List Int) × (List DIns)) w⟩
theorem lens_DCode_0 {γ : Type} {H : List Nat → World → γ → Prop} {F : List Nat} {w : World} {b o : Nat} {G : List Nat} {x : DCode} {upd : DCode → γ} (h : Lens H F w b o G x upd) :
    ∃ G1, Lens H F w b (o + 0) G1 x.globals (fun y => upd ⟨y, x.locks, x.procs, x.entry, x.ins⟩) := by
  have h' : Lens H F w b o G (x.globals, x.locks, x.procs, x.entry, x.ins) (fun p : (List ByteArray) × (List ByteArray) × (List ByteArray) × (List Int) × (List DIns) => upd ⟨p.1, p.2.1, p.2.2.1, p.2.2.2.1, p.2.2.2.2⟩) := ⟨h.here, h.sub, fun w' G' y' hc hO hs => h.back w' G' _ hc hO hs⟩
  obtain ⟨G0, h'⟩ := h'.fst
  exact ⟨_, h'⟩
theorem lens_DCode_1 {γ : Type} {H : List Nat → World → γ → Prop} {F : List Nat} {w : World} {b o : Nat} {G : List Nat} {x : DCode} {upd : DCode → γ} (h : Lens H F w b o G x upd) :
    ∃ G1, Lens H F w b (o + 1) G1 x.locks (fun y => upd ⟨x.globals, y, x.procs, x.entry, x.ins⟩) := by
  have h' : Lens H F w b o G (x.globals, x.locks, x.procs, x.entry, x.ins) (fun p : (List ByteArray) × (List ByteArray) × (List ByteArray) × (List Int) × (List DIns) => upd ⟨p.1, p.2.1, p.2.2.1, p.2.2.2.1, p.2.2.2.2⟩) := ⟨h.here, h.sub, fun w' G' y' hc hO hs => h.back w' G' _ hc hO hs⟩
  obtain ⟨G0, h'⟩ := h'.snd
  obtain ⟨G1, h'⟩ := h'.fst
  exact ⟨_, h'⟩
theorem lens_DCode_2 {γ : Type} {H : List Nat → World → γ → Prop} {F : List Nat} {w : World} {b o : Nat} {G : List Nat} {x : DCode} {upd : DCode → γ} (h : Lens H F w b o G x upd) :
    ∃ G1, Lens H F w b (o + 2) G1 x.procs (fun y => upd ⟨x.globals, x.locks, y, x.entry, x.ins⟩) := by
  have h' : Lens H F w b o G (x.globals, x.locks, x.procs, x.entry, x.ins) (fun p : (List ByteArray) × (List ByteArray) × (List ByteArray) × (List Int) × (List DIns) => upd ⟨p.1, p.2.1, p.2.2.1, p.2.2.2.1, p.2.2.2.2⟩) := ⟨h.here, h.sub, fun w' G' y' hc hO hs => h.back w' G' _ hc hO hs⟩
  obtain ⟨G0, h'⟩ := h'.snd
  obtain ⟨G1, h'⟩ := h'.snd
  obtain ⟨G2, h'⟩ := h'.fst
  exact ⟨_, h'⟩
theorem lens_DCode_3 {γ : Type} {H : List Nat → World → γ → Prop} {F : List Nat} {w : World} {b o : Nat} {G : List Nat} {x : DCode} {upd : DCode → γ} (h : Lens H F w b o G x upd) :
    ∃ G1, Lens H F w b (o + 3) G1 x.entry (fun y => upd ⟨x.globals, x.locks, x.procs, y, x.ins⟩) := by
  have h' : Lens H F w b o G (x.globals, x.locks, x.procs, x.entry, x.ins) (fun p : (List ByteArray) × (List ByteArray) × (List ByteArray) × (List Int) × (List DIns) => upd ⟨p.1, p.2.1, p.2.2.1, p.2.2.2.1, p.2.2.2.2⟩) := ⟨h.here, h.sub, fun w' G' y' hc hO hs => h.back w' G' _ hc hO hs⟩
  obtain ⟨G0, h'⟩ := h'.snd
  obtain ⟨G1, h'⟩ := h'.snd
  obtain ⟨G2, h'⟩ := h'.snd
  obtain ⟨G3, h'⟩ := h'.fst
  exact ⟨_, h'⟩
theorem lens_DCode_4 {γ : Type} {H : List Nat → World → γ → Prop} {F : List Nat} {w : World} {b o : Nat} {G : List Nat} {x : DCode} {upd : DCode → γ} (h : Lens H F w b o G x upd) :
    ∃ G1, Lens H F w b (o + 4) G1 x.ins (fun y => upd ⟨x.globals, x.locks, x.procs, x.entry, y⟩) := by
  have h' : Lens H F w b o G (x.globals, x.locks, x.procs, x.entry, x.ins) (fun p : (List ByteArray) × (List ByteArray) × (List ByteArray) × (List Int) × (List DIns) => upd ⟨p.1, p.2.1, p.2.2.1, p.2.2.2.1, p.2.2.2.2⟩) := ⟨h.here, h.sub, fun w' G' y' hc hO hs => h.back w' G' _ hc hO hs⟩
  obtain ⟨G0, h'⟩ := h'.snd
  obtain ⟨G1, h'⟩ := h'.snd
  obtain ⟨G2, h'⟩ := h'.snd
  obtain ⟨G3, h'⟩ := h'.snd
  exact ⟨_, h'⟩
theorem inv_DCode {w : World} {F : List Nat} {cs : List Value} {x : DCode} (h : rep F w cs x) : ∃ F0 c0 F1 c1 F2 c2 F3 c3 F4 c4, F = (F0 ++ (F1 ++ (F2 ++ (F3 ++ F4)))) ∧ cs = (c0 ++ (c1 ++ (c2 ++ (c3 ++ c4)))) ∧ rep F0 w c0 x.globals ∧ rep F1 w c1 x.locks ∧ rep F2 w c2 x.procs ∧ rep F3 w c3 x.entry ∧ rep F4 w c4 x.ins := by
  obtain ⟨F0, G0, c0, d0, rfl, rfl, h0, h⟩ := h
  obtain ⟨F1, G1, c1, d1, rfl, rfl, h1, h⟩ := h
  obtain ⟨F2, G2, c2, d2, rfl, rfl, h2, h⟩ := h
  obtain ⟨F3, G3, c3, d3, rfl, rfl, h3, h⟩ := h
  exact ⟨_, _, _, _, _, _, _, _, _, _, rfl, rfl, h0, h1, h2, h3, h⟩
structure DTouch where
  at_ : Int
  global : Int
  write : Bool
  held : Int
theorem DTouch.ext_iff {x y : DTouch} : x = y ↔ (x.at_ = y.at_ ∧ x.global = y.global ∧ x.write = y.write ∧ x.held = y.held) := ⟨fun h => by rw [h]; exact ⟨rfl, rfl, rfl, rfl⟩, fun h => by obtain ⟨h0, h1, h2, h3⟩ := h; cases x; cases y; simp only at h0 h1 h2 h3; simp only [h0, h1, h2, h3]⟩
instance : DecidableEq DTouch := fun x y => decidable_of_iff (x.at_ = y.at_ ∧ x.global = y.global ∧ x.write = y.write ∧ x.held = y.held) DTouch.ext_iff.symm
instance : Rep DTouch := Rep.via fun x => (x.at_, x.global, x.write, x.held)
theorem at_DTouch_0 {w : World} {b o : Nat} {x : DTouch} (h : At w b o x) : At w b (o + 0) x.at_ := at_fst (α := Int) (β := Int × Bool × Int) (p := (x.at_, x.global, x.write, x.held)) h
theorem at_DTouch_1 {w : World} {b o : Nat} {x : DTouch} (h : At w b o x) : At w b (o + 1) x.global := at_fst (α := Int) (β := Bool × Int) (p := (x.global, x.write, x.held)) (at_snd (α := Int) (β := Int × Bool × Int) (p := (x.at_, x.global, x.write, x.held)) h)
theorem at_DTouch_2 {w : World} {b o : Nat} {x : DTouch} (h : At w b o x) : At w b (o + 2) x.write := at_fst (α := Bool) (β := Int) (p := (x.write, x.held)) (at_snd (α := Int) (β := Bool × Int) (p := (x.global, x.write, x.held)) (at_snd (α := Int) (β := Int × Bool × Int) (p := (x.at_, x.global, x.write, x.held)) h))
theorem at_DTouch_3 {w : World} {b o : Nat} {x : DTouch} (h : At w b o x) : At w b (o + 3) x.held := at_snd (α := Bool) (β := Int) (p := (x.write, x.held)) (at_snd (α := Int) (β := Bool × Int) (p := (x.global, x.write, x.held)) (at_snd (α := Int) (β := Int × Bool × Int) (p := (x.at_, x.global, x.write, x.held)) h))
instance : RepZ DTouch := ⟨⟨(RepZ.zv : Int), (RepZ.zv : Int), (RepZ.zv : Bool), (RepZ.zv : Int)⟩, RepZ.zc (Int × Int × Bool × Int), fun w => RepZ.zr (α := Int × Int × Bool × Int) w⟩
theorem mk_DTouch {w : World} {x : DTouch} (h_at_ : I64 x.at_) (h_global : I64 x.global)  (h_held : I64 x.held) : Mine [] w (.agg #[.int .i64 x.at_, .int .i64 x.global, .bool x.write, .int .i64 x.held]) x := ⟨⟨[.int .i64 x.at_, .int .i64 x.global, .bool x.write, .int .i64 x.held], ⟨[], [], [.int .i64 x.at_], [.int .i64 x.global, .bool x.write, .int .i64 x.held], rfl, rfl, ⟨rfl, rfl, h_at_⟩, ⟨[], [], [.int .i64 x.global], [.bool x.write, .int .i64 x.held], rfl, rfl, ⟨rfl, rfl, h_global⟩, ⟨[], [], [.bool x.write], [.int .i64 x.held], rfl, rfl, ⟨rfl, rfl⟩, ⟨rfl, rfl, h_held⟩⟩⟩⟩, rfl⟩, List.nodup_nil, Wr.nil w⟩
instance : Flat DTouch := ⟨fun h => Flat.flat (α := Int × Int × Bool × Int) h⟩
end Go.Sh
