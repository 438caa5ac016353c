/-
  Variables of one's own: places within, while the world grows.
-/
import Derived.Test.YteephmhilnlkpaaGreatRv
namespace Go.Sh
set_option linter.unusedVariables false
set_option linter.unusedSimpArgs false
set_option linter.unusedSectionVars false
open Rep (rep)

/-- a cell as it is -/
structure Raw where
  v : Value
instance : Rep Raw where
  size := 1
  agg := false
  rep F _ cs x := F = [] ∧ cs = [x.v] ∧ x.v.oneCell' = true
  pos := by decide
  sz _ := rfl
  len := by rintro _ _ _ _ ⟨_, rfl, _⟩; rfl
  one := by rintro _ _ _ _ ⟨_, rfl, h⟩ v hv; simp at hv; subst hv; exact h
  keep := by rintro _ _ _ _ _ h _; exact h
  lt := by rintro _ _ _ _ ⟨rfl, _⟩ b hb; cases hb
section
variable {P : Program} {w w0 w' w1 : World} {α β γ : Type} [Rep α] [Rep β] {e lo hi : Nat} {v : Value} {F G S : List Nat} {b o g : Nat}
theorem ChgAt.ext_left {n : Nat} (hx : Ext w w1) (h : ChgAt b o n G w1 w') : ChgAt b o n G w w' :=
  ⟨(hx.chg _).trans h.chg, fun c e hc => h.cell c e (by rw [hx.heap (Array.getElem?_eq_some_iff.1 hc).1]; exact hc)⟩
theorem OAt.ext {x : α} (h : OAt G w b o x) (hx : Ext w w1) : OAt G w1 b o x := h.keep fun c hc => hx.heap (h.lts c hc)
/-- a place stays while the world grows -/
theorem Lens.ext {H : List Nat → World → γ → Prop} {y : β} {upd : β → γ} (h : Lens H S w b o G y upd) (hx : Ext w w1) : Lens H S w1 b o G y upd :=
  ⟨h.here.ext hx, h.sub, fun w' G' y' hch hO hs => h.back w' G' y' (hch.ext_left hx) hO hs⟩
theorem rd_cell {ft by_ : Nat} {u : Value} {K : Value → Prop} (hft : tyI P ft = some (1, by_, false)) (hr : w.rangeAt b o [u]) (k : K u) : RD P (Instr.loadAt ft (.pointer (some ⟨b, o, none⟩))) w K := by
  refine rd_of (fun w' hx' => ?_) k
  have h0 : w'.cell? ⟨b, o, none⟩ = some u := by simpa using (rangeAt_ext hr hx') 0 u rfl
  have hA := run_isAgg hft w'
  simp [Instr.loadAt, Instr.sureAddr, loadVar, hA, h0]
/-- one cell is written, whatever it held -/
theorem opu_cell {t by_ : Nat} {u old : Value} {K : World → Prop} (ht : tyI P t = some (1, by_, false)) (hw : ∃ c e, w.heap[b]? = some (.cells c e (0, 0))) (hr : w.rangeAt b o [old]) (ho : old.oneCell' = true) (hu : u.oneCell' = true)
    (k : ∀ w', ChgAt b o 1 [] w w' → w'.rangeAt b o [u] → K w') : OPU P (Instr.storeAt t (.pointer (some ⟨b, o, none⟩)) u) w K := by
  refine opu_at (β := Raw) (G := []) (y := ⟨old⟩) (y' := ⟨u⟩) (G' := []) ht ⟨[old], ⟨rfl, rfl, ho⟩, hr, List.nodup_nil, Wr.nil w, by simp, hw⟩ ⟨[u], ⟨rfl, rfl, hu⟩, rfl⟩ List.nodup_nil (Wr.nil w) (by simp) fun w' hc hO => k w' hc ?_
  obtain ⟨cs, ⟨_, rfl, _⟩, hr', _⟩ := hO
  exact hr'
/-- a store of what has no blocks at a place of a variable -/
theorem opu_varL {t by_ : Nat} {y y' : β} {upd : β → α} {u : Value} {K : World → Prop} (ht : tyI P t = some (Rep.size β, by_, Rep.agg β)) (hL : Lens (VH g) (g :: F) w b o G y upd) (hF : ∀ b ∈ F, lo ≤ b ∧ b < hi) (hg : hi ≤ g) (hlo : lo ≤ g) (hu : Mine [] w u y')
    (k : ∀ w', ChgI lo (g + 1) w w' → VarI lo hi w' g (upd y') → K w') : OPU P (Instr.storeAt t (.pointer (some ⟨b, o, none⟩)) u) w K := by
  refine opu_lens ht hL hu (by simp) fun w' hc ⟨F', h1, h2⟩ => k w' (hc.toI fun c hcm => ?_) ⟨F', h1, fun c hcm => ?_⟩
  · rcases List.mem_cons.1 hcm with rfl | hcm
    · omega
    · have := hF c hcm; omega
  · rcases h2 c hcm with h | h
    · rcases List.mem_cons.1 h with rfl | h
      · obtain ⟨_, _, _, _, _, hn, _⟩ := h1; exact absurd hcm hn
      · exact hF c h
    · simp at h
/-- the same, where the variable lies among the blocks -/
theorem opu_varM {t by_ : Nat} {y y' : β} {upd : β → α} {u : Value} {K : World → Prop} (ht : tyI P t = some (Rep.size β, by_, Rep.agg β)) (hL : Lens (VH g) (g :: F) w b o G y upd) (hF : ∀ b ∈ F, lo ≤ b ∧ b < hi) (hg : lo ≤ g ∧ g < hi) (hu : Mine [] w u y')
    (k : ∀ w', ChgI lo hi w w' → VarI lo hi w' g (upd y') → K w') : OPU P (Instr.storeAt t (.pointer (some ⟨b, o, none⟩)) u) w K := by
  refine opu_lens ht hL hu (by simp) fun w' hc ⟨F', h1, h2⟩ => k w' (hc.toI fun c hcm => ?_) ⟨F', h1, fun c hcm => ?_⟩
  · rcases List.mem_cons.1 hcm with rfl | hcm
    · exact hg
    · exact hF c hcm
  · rcases h2 c hcm with h | h
    · rcases List.mem_cons.1 h with rfl | h
      · obtain ⟨_, _, _, _, _, hn, _⟩ := h1; exact absurd hcm hn
      · exact hF c h
    · simp at h
theorem VarI.mono {lo' hi' : Nat} {x : α} (h : VarI lo hi w g x) (h1 : lo' ≤ lo) (h2 : hi ≤ hi') : VarI lo' hi' w g x := by
  obtain ⟨F, h, hF⟩ := h; exact ⟨F, h, fun b hb => by have := hF b hb; omega⟩
/-- what lies in a place that is a slice of lists with their values is the list of the lists -/
theorem cells_er : ∀ {l : List (RV α e)} {F : List Nat} {xs : List Value}, Cells F w xs l → Cells F w xs (l.map RV.l)
  | [], _, _, h => h
  | x :: l, _, _, ⟨F1, F2, c1, c2, hF, h, ⟨hc, h1⟩, h2⟩ => by
    obtain ⟨cs, hr, hv⟩ := h1.own
    have : cs = [x.v] := by
      obtain ⟨a, cap, Fi, xs, rfl, _⟩ := hr
      rw [hv]; rfl
    subst this
    exact ⟨F1, F2, c1, c2, hF, h, by rw [hc]; exact hr, cells_er h2⟩
theorem rep_er {e2 : TypeId} {cs : List Value} {x : RV (RV α e) e2} (h : rep F w cs x) : rep F w cs (x.l.map RV.l) := by
  obtain ⟨rfl, h⟩ := h
  obtain ⟨cs, ⟨a, cap, Fi, xs, rfl, h1, h2, hc, h4⟩, hv⟩ := h.own
  have hvv : x.v = .slice a x.l.length cap := hv
  rw [hvv]
  refine ⟨a, cap, Fi, xs, by simp, by simpa using h1, h2, cells_er hc, ?_⟩
  rcases h4 with ⟨h4, h5⟩ | h4
  · exact .inl ⟨by simp [h4], h5⟩
  · exact .inr h4
/-- append(v, x), told by the blocks -/
theorem op_pushB {t ty : TypeId} {by_ : Nat} {u : Value} {x : β} {l : List β} {GX : List Nat} {K : World → Value → World → Prop} {C : Value → World → Prop} (ht : P.underlying t = some (.slice e)) (he : tyI P e = some (Rep.size β, by_, Rep.agg β)) (hz : zeroOf P e = true)
    (hzc : (P.info? e).map (fun i => (i.zero.map (·.cells.size))) = some (some (Rep.size β))) (hsz : Rep.size β ≤ 1000) (hv : RowG G e w v l) (hn : G.Nodup) (hx : Mine GX w u x) (hd : ∀ c ∈ GX, c ∉ G) (hm : l.length + 1 ≤ maxLen) (hb : (l.length + 1) * by_ ≤ 140737488355328)
    (k : ∀ w1 v' w' G', Ext w w1 → Chg G w1 w' → RowG G' e w' v' (l ++ [x]) → G'.Nodup → (∀ c ∈ G', c ∈ G ∨ c ∈ GX ∨ w.heap.size ≤ c) → K w1 v' w')
    (hC : ∀ s w1, Ext w w1 → OP P (Builtin.append_ #[t, t] ty [v, s].toArray) w1 (K w1) → C s w1) : OP P (Instr.buildSlice t 1 #[(0, u)]) w C := by
  refine op_build1 ht he hz hsz hx fun w1 hx1 hm1 => ?_
  obtain ⟨⟨cs, ⟨a, cap, Fi, xs, rfl, h1, h2, hc, h4⟩, hveq⟩, hn1, hw1⟩ := hm1
  simp only [mkv, Rep.agg, cond_false, List.headD_cons, Value.slice.injEq, List.length_cons, List.length_nil] at hveq
  obtain ⟨rfl, _, rfl⟩ := hveq
  rcases h4 with ⟨h4, _⟩ | ⟨b, o, hab, hFe, hra, hbl⟩
  · simp at h4
  simp only [List.cons.injEq] at hFe
  obtain ⟨_, rfl⟩ := hFe
  refine hC _ w1 hx1 ?_
  have key : ∀ (v : Value) (F : List Nat), RowF F e w v l → F.Nodup → (∀ c ∈ F, c ∈ G) → OP P (Builtin.append_ #[t, t] ty [v, .slice (some ⟨w.heap.size, 0, none⟩) 1 1].toArray) w1 (K w1) := by
    intro v F hF hFn hFG
    have hF1 := hF.ext hx1
    have hdd : (GX ++ F).Nodup := by
      rw [List.nodup_append]
      exact ⟨hx.nodup, hFn, fun p hp q hq e => hd p hp (hFG _ (e ▸ hq))⟩
    refine op_append (m := [x]) ht he hzc hF1 hFn rfl hc (.inr ⟨b, o, hab, hra⟩) (hw1.sub (by simp +contextual)) hdd (by simpa using hm) (by simpa using hb) fun v' w' F' hch hfull hr' hn' hs' => ?_
    have hown : ∀ c ∈ v.ownBlock.toList, c ∈ G := fun c hc => by
      obtain ⟨xs, Fi, _, _, rfl, _⟩ := hF
      exact hFG c (by simp only [List.mem_append]; exact .inl hc)
    refine k w1 v' w' F' hx1 (hch.mono hown) (.inr hr') hn' fun c hc => ?_
    rcases hs' c hc with h | h | h
    · exact .inl (hFG c h)
    · exact .inr (.inl h)
    · exact .inr (.inr (Nat.le_trans hx1.size h))
  rcases hv with ⟨a0, rfl, rfl, rfl⟩ | hF
  · have kn := key (.slice none 0 0) [] (rowF_none e w) List.nodup_nil (by simp)
    cases a0 with
    | none => exact kn
    | some x0 =>
      simp only [Option.some.injEq, Addr.mk.injEq] at hab
      obtain ⟨rfl, rfl, _⟩ := hab
      exact op_of_eq (append_zcap (α := β) (n := 1) ht he hzc (by simpa using Cells.len hc) hra (by omega) (by rw [maxLen_eq]; omega) (by simpa using hb)) kn
  · exact key v G hF hn (fun _ h => h)
/-- what was pushed is put where the row lay -/
theorem opu_pushed {t by_ : Nat} {x : RV β e} {upd : RV β e → α} {w2 : World} {v' : Value} {l' : List β} {G' : List Nat} {K : World → Prop} (ht : tyI P t = some (1, by_, false)) (hL : Lens (VH g) (g :: F) w b o G x upd) (hlt : ∀ c ∈ g :: F, c < w.heap.size) (hc : Chg G w w2)
    (hR : RowG G' e w2 v' l') (hN : G'.Nodup) (hs : ∀ c ∈ G', c ∈ G ∨ w.heap.size ≤ c)
    (k : ∀ w3, Chg (b :: G) w w3 → (∃ F', OAt F' w3 g 0 (upd ⟨v', l'⟩) ∧ ∀ c ∈ F', c ∈ g :: F ∨ w.heap.size ≤ c) → K w3) : OPU P (Instr.storeAt t (.pointer (some ⟨b, o, none⟩)) v') w2 K := by
  obtain ⟨cs, ⟨rfl, hrow⟩, hr, hn, hw, hb, hwb⟩ := hL.here
  have hbl : b < w.heap.size := hlt b (hL.sub b (by simp))
  have hbk : w2.heap[b]? = w.heap[b]? := hc.block b hbl hb
  have hwb2 : ∃ c e, w2.heap[b]? = some (.cells c e (0, 0)) := by obtain ⟨c, e, h⟩ := hwb; exact ⟨c, e, by rw [hbk]; exact h⟩
  have hbG' : b ∉ G' := fun hm => by
    rcases hs b hm with h | h
    · exact hb h
    · omega
  refine opu_cell ht hwb2 (rangeAt_keep hr hbk) hrow.one hR.one fun w3 hc3 hr3 => ?_
  have hcat : ChgAt b o 1 G w w3 := by
    refine ⟨(hc.mono (by simp +contextual)).trans (hc3.chg.mono (by simp +contextual)), fun c e hcc => ?_⟩
    obtain ⟨c', h1, h2⟩ := hc3.cell c e (by rw [hbk]; exact hcc)
    exact ⟨c', h1, h2⟩
  have hkeep : ∀ c ∈ G', w3.heap[c]? = w2.heap[c]? := fun c hcm => hc3.chg.block c (hR.lt c hcm) (by simp; exact fun e => hbG' (e ▸ hcm))
  obtain ⟨c', e', hc'⟩ := hwb2
  obtain ⟨c'', hc'', _⟩ := hc3.cell c' e' hc'
  obtain ⟨F', h1, h2⟩ := hL.back w3 G' ⟨v', l'⟩ hcat ⟨[v'], ⟨rfl, hR.keep hkeep⟩, hr3, hN, (hR.keep hkeep).wr, hbG', c'', e', hc''⟩ fun c hcm => by
    rcases hs c hcm with h | h
    · exact .inl h
    · exact .inr fun hm => by have := hlt c hm; omega
  refine k w3 hcat.chg ⟨F', h1, fun c hcm => ?_⟩
  rcases h2 c hcm with h | h
  · exact .inl h
  · rcases hs c h with h | h
    · exact .inl (hL.sub c (by simp [h]))
    · exact .inr h
/-- a literal of one element without blocks: a row -/
theorem op_build1R [Flat β] {t : TypeId} {by_ : Nat} {u : Value} {x : β} {K : Value → World → Prop} (ht : P.underlying t = some (.slice e)) (he : tyI P e = some (Rep.size β, by_, Rep.agg β)) (hz : zeroOf P e = true) (hsz : Rep.size β ≤ 1000) (hx : Mine [] w u x)
    (k : ∀ v w', Ext w w' → RowI w.heap.size w'.heap.size e w' v [x] → K v w') : OP P (Instr.buildSlice t 1 #[(0, u)]) w K := by
  obtain ⟨⟨cs, hr, rfl⟩, hn, hw⟩ := hx
  have hcl := mkv_cells hr
  have hlen := Rep.len hr
  have hvs : (mkv β cs).cells.size = Rep.size β := by rw [← Array.length_toList, hcl, hlen]
  obtain ⟨i, d, hi, hd, hs, hby, hg⟩ := tyI_info he
  unfold zeroOf at hz
  rw [hi] at hz
  obtain ⟨z, hz⟩ := Option.isSome_iff_exists.1 hz
  have hpos := Rep.pos (α := β)
  refine ⟨_, w.alloc (.cells (mkv β cs).cells e), ?_, k (.slice (some ⟨w.heap.size, 0, none⟩) 1 1) _ (ext_alloc w _) (.inr ⟨[w.heap.size], ⟨cs, [], ⟨by simp [hlen], .inr ⟨w.heap.size, 1, (mkv β cs).cells, rfl, Nat.zero_le _, heap_alloc_new w _, Nat.le_refl _, by rw [maxLen_eq]; omega, by rw [hvs, Nat.one_mul], ?_⟩⟩, Cells.single (rep_ext hr (ext_alloc w _)), rfl, Wr.nil _⟩, by simp, ?_⟩)⟩
  · have hne : ¬ Rep.size β = 0 := by omega
    have h24 : ¬ 2 ^ 24 < Rep.size β := by omega
    simp only [Instr.buildSlice, Sem.run_bind, run_underlying ht, Result.andThen_ok, run_sizeOf' he, Nat.one_mul]
    simp [h24, hne, zeroValue, typeInfo, hi, hz, fill_one _ _ _ hvs, newRow]
  · rw [hcl, List.length_singleton, Nat.one_mul, List.take_of_length_le (by omega)]
  · intro b hb
    simp only [List.mem_cons, List.not_mem_nil, or_false] at hb
    subst hb
    exact ⟨Nat.le_refl _, (Array.getElem?_eq_some_iff.1 (heap_alloc_new w _)).1⟩
theorem Ext.toX {X : Nat → Prop} (h : Ext w w') : ExtX X w w' := ⟨h.os, h.tape, h.output, h.size, fun b hb _ => h.block b hb⟩
theorem Chg.toX {X : Nat → Prop} (h : Chg G w w') (hX : ∀ c ∈ G, X c) : ExtX X w w' := ⟨h.os, h.tape, h.output, h.size, fun b hb hn => h.block b hb fun hm => hn (hX b hm)⟩
/-- a reading of what lay there ahead of all that may turn -/
theorem rdx_of_rd {X : Nat → Prop} {m : Sem Value} {K : Value → Prop} (hX : ∀ b, X b → w0.heap.size ≤ b) (hx : Ext w0 w) (h : RD P m w0 K) : RDX P X m w K := by
  obtain ⟨v, h1, h2⟩ := h
  exact ⟨v, fun w' hw => h1 w' ⟨hw.os.trans hx.os, hw.tape.trans hx.tape, hw.output.trans hx.output, Nat.le_trans hx.size hw.size, fun b hb => (hw.block b (Nat.lt_of_lt_of_le hb hx.size) fun hXb => by have := hX b hXb; omega).trans (hx.block b hb)⟩, h2⟩
theorem rdx_fld {X : Nat → Prop} {t i off : Nat} {K : Value → Prop} (hf : fldB P t i = some off) (k : K (.pointer (some ⟨b, o + off, none⟩))) : RDX P X (Instr.fieldAt t (.pointer (some ⟨b, o, none⟩)) i) w K := by
  obtain ⟨v, h1, h2⟩ := rd_fld (P := P) (w := w) (K := fun v => ∀ w' : World, (Instr.fieldAt t (.pointer (some ⟨b, o, none⟩)) i).run P w' = .ok v w' ∧ v = .pointer (some ⟨b, o + off, none⟩)) hf (fun w' => by
    obtain ⟨v, h1, h2⟩ := rd_fld (P := P) (w := w') (b := b) (o := o) (K := fun v => v = .pointer (some ⟨b, o + off, none⟩)) hf rfl
    subst h2
    exact ⟨h1 w' (Ext.refl w'), rfl⟩)
  refine ⟨v, fun w' _ => (h2 w').1, ?_⟩
  rw [(h2 w).2]; exact k
/-- one cell of a block that does not turn -/
theorem rdx_cell {X : Nat → Prop} {ft by_ : Nat} {u : Value} {K : Value → Prop} (hft : tyI P ft = some (1, by_, false)) (hr : w.rangeAt b o [u]) (hX : ¬ X b) (k : K u) : RDX P X (Instr.loadAt ft (.pointer (some ⟨b, o, none⟩))) w K := by
  refine ⟨u, fun w' hx' => ?_, k⟩
  have hb := rangeAt_lt hr (by simp)
  have h0 : w'.cell? ⟨b, o, none⟩ = some u := by simpa using (rangeAt_keep hr (hx'.block b hb hX)) 0 u rfl
  have hA := run_isAgg hft w'
  simp [Instr.loadAt, Instr.sureAddr, loadVar, hA, h0]
theorem at_cell {x : Int} (h : At w b o x) : w.rangeAt b o [.int .i64 x] := by
  obtain ⟨F, cs, ⟨_, rfl, _⟩, hr⟩ := h
  exact hr
end
end Go.Sh
