/-
  Slices that are appended to, held in data: the slice's value is part of the datum.
-/
import Derived.Test.YteephmhilnlkpaaGreatMake
namespace Go.Sh
set_option linter.unusedVariables false
set_option linter.unusedSimpArgs false
set_option linter.unusedSectionVars false
open Rep (rep)

/-- a row, or a slice that holds nothing and has no room -/
def RowG {α : Type} [Rep α] (F : List Nat) (e : TypeId) (w : World) (v : Value) (l : List α) : Prop := (∃ a, v = .slice a 0 0 ∧ l = [] ∧ F = []) ∨ RowF F e w v l
section
variable {P : Program} {w w0 w' : World} {α β γ : Type} [Rep α] [Rep β] {e lo hi : Nat} {v : Value} {l : List α} {F : List Nat}
theorem RowG.lt (h : RowG F e w v l) : ∀ b ∈ F, b < w.heap.size := by
  rcases h with ⟨a, _, _, rfl⟩ | h
  · simp
  · exact h.lt
theorem RowG.keep (h : RowG F e w v l) (hk : ∀ b ∈ F, w'.heap[b]? = w.heap[b]?) : RowG F e w' v l := by
  rcases h with h | h
  · exact .inl h
  · exact .inr (h.keep hk)
theorem RowG.own (h : RowG F e w v l) : OwnF F w v l := by
  rcases h with ⟨a, rfl, rfl, rfl⟩ | h
  · exact ⟨_, ⟨a, 0, [], [], rfl, Nat.le_refl _, Nat.zero_le _, ⟨rfl, rfl⟩, .inl ⟨rfl, rfl⟩⟩, rfl⟩
  · exact h.own
theorem RowG.wr (h : RowG F e w v l) : Wr F w := by
  rcases h with ⟨a, _, _, rfl⟩ | h
  · exact Wr.nil w
  · exact h.wr
theorem RowG.one (h : RowG F e w v l) : v.oneCell' = true := by
  obtain ⟨cs, ⟨a, cap, Fi, xs, rfl, _⟩, rfl⟩ := h.own
  rfl
theorem rowI_iff : RowI lo hi e w v l ↔ ∃ F, RowG F e w v l ∧ F.Nodup ∧ ∀ b ∈ F, lo ≤ b ∧ b < hi := by
  constructor
  · rintro (⟨a, h1, h2⟩ | ⟨F, h1, h2, h3⟩)
    · exact ⟨[], .inl ⟨a, h1, h2, rfl⟩, List.nodup_nil, by simp⟩
    · exact ⟨F, .inr h1, h2, h3⟩
  · rintro ⟨F, (⟨a, h1, h2, _⟩ | h1), h2', h3⟩
    · exact .inl ⟨a, h1, h2⟩
    · exact .inr ⟨F, h1, h2', h3⟩
end
/-- a slice that is appended to, with its value -/
structure RV (α : Type) (e : TypeId) where
  v : Value
  l : List α
instance {α : Type} [Rep α] {e : TypeId} : Rep (RV α e) where
  size := 1
  agg := false
  rep F w cs x := cs = [x.v] ∧ RowG F e w x.v x.l
  pos := by decide
  sz _ := rfl
  len := by rintro _ _ _ _ ⟨rfl, _⟩; rfl
  one := by rintro _ _ _ _ ⟨rfl, h⟩ v hv; simp at hv; subst hv; exact h.one
  keep := by rintro _ _ _ _ _ ⟨rfl, h⟩ hk; exact ⟨rfl, h.keep hk⟩
  lt := by rintro _ _ _ _ ⟨rfl, h⟩; exact h.lt
section
variable {P : Program} {w w0 w' : World} {α β γ : Type} [Rep α] [Rep β] {e lo hi : Nat} {v : Value} {l : List α} {F : List Nat}
theorem ownI_rv (h : RowI lo hi e w v l) : OwnI lo hi w v (⟨v, l⟩ : RV α e) := by
  obtain ⟨F, h1, h2, h3⟩ := rowI_iff.1 h
  exact ⟨F, ⟨⟨[v], ⟨rfl, h1⟩, rfl⟩, h2, h1.wr⟩, h3⟩
theorem rowI_rv {x : RV α e} (h : OwnI lo hi w v x) : v = x.v ∧ RowI lo hi e w x.v x.l := by
  obtain ⟨F, ⟨⟨cs, ⟨rfl, h1⟩, hv⟩, h2, h3⟩, h4⟩ := h
  exact ⟨hv, rowI_iff.2 ⟨F, h1, h2, h4⟩⟩
theorem is_rv {x : RV α e} (h : Is w v x) : v = x.v ∧ Is w x.v x.l := by
  obtain ⟨F, cs, ⟨rfl, h1⟩, hv⟩ := h
  obtain ⟨cs, hr, hv'⟩ := h1.own
  exact ⟨hv, F, cs, hr, hv'⟩
theorem rd_loadV {t by_ b o : Nat} {x : RV α e} {K : Value → Prop} (ht : tyI P t = some (1, by_, false)) (h : At w0 b o x) (hx : Ext w0 w) (k : K x.v) : RD P (Instr.loadAt t (.pointer (some ⟨b, o, none⟩))) w K :=
  rd_load (α := RV α e) ht h hx fun v hv => by rw [(is_rv hv).1]; exact k
/-- the lists of the lists -/
theorem cells_rv {xs : List Value} : ∀ {l : List (RV α e)} {F : List Nat} {xs : List Value}, Cells F w xs l → ∃ F', Cells F' w xs (l.map RV.l)
  | [], _, _, ⟨_, h⟩ => ⟨[], rfl, h⟩
  | x :: l, _, _, ⟨F1, F2, c1, c2, _, h, ⟨hc, h1⟩, h2⟩ => by
    obtain ⟨F', h3⟩ := cells_rv (xs := xs) h2
    obtain ⟨cs, hr, hv⟩ := h1.own
    have : cs = [x.v] := by
      obtain ⟨a, cap, Fi, xs, rfl, _⟩ := hr
      rw [hv]; rfl
    subst this
    exact ⟨F1 ++ F', F1, F', c1, c2, rfl, h, by rw [hc]; exact hr, h3⟩
/-- an element of a row -/
theorem focusG {k : Nat} (hm : RowG F e w v l) (hn : F.Nodup) (hk : k < l.length) :
    ∃ b a cap G, v = .slice (some ⟨b, a, none⟩) l.length cap ∧ Lens (fun F w l => RowG F e w v l ∧ F.Nodup) F w b (a + k * Rep.size α) G l[k] (fun y => l.set k y) := by
  rcases hm with ⟨a, _, rfl, _⟩ | hm
  · simp at hk
  have hwF := hm.wr
  obtain ⟨xs, Fi, ho, hc, rfl, hwi⟩ := hm
  rcases ho.2 with ⟨_, h0⟩ | ⟨g, cap, cur, rfl, hb0, hg, h1, h2, h3, h4⟩
  · omega
  simp only [Value.ownBlock, Option.toList_some, List.cons_append, List.nil_append] at hn hwF ⊢
  have hlx := ho.1
  have e0 : l = l.take k ++ (l[k] :: l.drop (k + 1)) := by simp
  have hc' := hc
  rw [e0] at hc'
  obtain ⟨F1, F2', x1, x2', hFi, hxs, c1, c2'⟩ := Cells.split hc'
  obtain ⟨G, F2, cg, x2, rfl, rfl, hgr, c2⟩ := c2'
  subst hFi hxs
  have hl1 : x1.length = k * Rep.size α := by rw [Cells.len c1, List.length_take]; congr 1; omega
  have hlg := Rep.len hgr
  have hn' := hn
  rw [List.nodup_cons] at hn
  obtain ⟨hbn, hn⟩ := hn
  rw [List.nodup_append] at hn
  obtain ⟨hn1, hn2, hn3⟩ := hn
  rw [List.nodup_append] at hn2
  obtain ⟨hnG, hnF2, hn4⟩ := hn2
  have hrange : w.rangeAt g 0 (x1 ++ (cg ++ x2)) := by
    intro j u hu
    rw [← h4, List.getElem?_take] at hu
    split at hu
    · simpa [World.cell?, hg] using hu
    · cases hu
  obtain ⟨r1, r2⟩ := rangeAt_append hrange
  obtain ⟨rg, r3⟩ := rangeAt_append r2
  rw [hl1] at rg r3
  refine ⟨g, 0, cap, G, rfl, ⟨cg, hgr, rg, hnG, hwi.sub (by simp +contextual), fun h => hbn (by simp [h]), cur, e, hg⟩, by simp +contextual, fun w' G' y' hch hO hs => ?_⟩
  obtain ⟨cg', hg', rg', hnG', hwG', hbG', hwb'⟩ := hO
  have hlg' := Rep.len hg'
  obtain ⟨cur', hcur', hsame⟩ := hch.cell cur e hg
  have keep1 : ∀ c ∈ F1, w'.heap[c]? = w.heap[c]? := fun c hc1 => by
    refine hch.chg.block c (Cells.lt c1 c hc1) fun hm => ?_
    rcases List.mem_cons.1 hm with rfl | hm
    · exact hbn (by simp [hc1])
    · exact hn3 c hc1 c (by simp [hm]) rfl
  have keep2 : ∀ c ∈ F2, w'.heap[c]? = w.heap[c]? := fun c hc1 => by
    refine hch.chg.block c (Cells.lt c2 c hc1) fun hm => ?_
    rcases List.mem_cons.1 hm with rfl | hm
    · exact hbn (by simp [hc1])
    · exact hn4 c hm c hc1 rfl
  have hfit : k * Rep.size α + Rep.size α ≤ cur.size := by
    rw [h3]
    have := Nat.mul_le_mul_right (Rep.size α) (show k + 1 ≤ cap by omega)
    rw [Nat.add_mul, Nat.one_mul] at this
    exact this
  have hcell' : ∀ j, j < cg'.length → cur'[0 + k * Rep.size α + j]? = cg'[j]? := by
    intro j hj
    have := rg' j cg'[j] (by simp [hj])
    simpa [World.cell?, hcur', hj] using this
  have hpos := Rep.pos (α := α)
  have hsz' : cur'.size = cur.size := by
    rcases Nat.lt_trichotomy cur'.size cur.size with h | h | h
    · exfalso
      rcases Nat.lt_or_ge cur'.size (k * Rep.size α + Rep.size α) with h' | h'
      · have := hcell' (Rep.size α - 1) (by omega)
        rw [List.getElem?_eq_getElem (by omega)] at this
        have := (Array.getElem?_eq_some_iff.1 this).1
        omega
      · have := hsame cur'.size (.inr (by omega))
        rw [Array.getElem?_eq_none (Nat.le_refl _), Array.getElem?_eq_getElem h] at this
        cases this
    · exact h
    · exfalso
      have := hsame cur.size (.inr (by omega))
      rw [Array.getElem?_eq_none (Nat.le_refl _), Array.getElem?_eq_getElem h] at this
      cases this
  have hlset : (l.set k y').length = l.length := by simp
  refine ⟨g :: (F1 ++ (G' ++ F2)), ⟨.inr ⟨x1 ++ (cg' ++ x2), F1 ++ (G' ++ F2), ⟨?_, .inr ⟨g, cap, cur', by rw [hlset], hb0, hcur', by rw [hlset]; exact h1, h2, by rw [hsz']; exact h3, ?_⟩⟩, ?_, rfl, ?_⟩, nodup_mid hn' hnG' hs⟩, ?_⟩
  · rw [hlset]
    simp only [List.length_append] at hlx ⊢
    omega
  · rw [hlset]
    apply List.ext_getElem?
    intro j
    have hjx : (cur.toList.take (l.length * Rep.size α))[j]? = (x1 ++ (cg ++ x2))[j]? := by rw [h4]
    rcases Nat.lt_or_ge j (l.length * Rep.size α) with hj | hj
    · rw [List.getElem?_take, if_pos hj] at hjx ⊢
      rcases Nat.lt_or_ge j (k * Rep.size α) with h' | h'
      · rw [Array.getElem?_toList, hsame j (.inl (by omega)), ← Array.getElem?_toList, hjx, List.getElem?_append_left (by omega), List.getElem?_append_left (by omega)]
      · rcases Nat.lt_or_ge j (k * Rep.size α + Rep.size α) with h'' | h''
        · rw [Array.getElem?_toList, List.getElem?_append_right (by omega), List.getElem?_append_left (by omega), hl1, ← hcell' (j - k * Rep.size α) (by omega)]
          congr 1
          omega
        · rw [Array.getElem?_toList, hsame j (.inr (by omega)), ← Array.getElem?_toList, hjx, List.getElem?_append_right (by omega), List.getElem?_append_right (by omega), List.getElem?_append_right (by omega), List.getElem?_append_right (by omega), hlg, hlg']
    · rw [List.getElem?_take, if_neg (by omega), List.getElem?_eq_none]
      simp only [List.length_append] at hlx ⊢
      omega
  · have : l.set k y' = l.take k ++ (y' :: l.drop (k + 1)) := by rw [List.set_eq_take_append_cons_drop]; simp [hk]
    rw [this]
    exact Cells.append (Cells.keep c1 keep1) ⟨G', F2, cg', x2, rfl, rfl, hg', Cells.keep c2 keep2⟩
  · exact ((hwi.sub (by simp +contextual)).keep keep1).append (hwG'.append ((hwi.sub (by simp +contextual)).keep keep2))
  · intro c hcm
    rcases List.mem_cons.1 hcm with rfl | hcm
    · exact .inl (by simp)
    · rcases List.mem_append.1 hcm with hcm | hcm
      · exact .inl (by simp [hcm])
      · rcases List.mem_append.1 hcm with hcm | hcm
        · exact .inr hcm
        · exact .inl (by simp [hcm])
/-- an element of the row that lies there -/
theorem Lens.elemV {H : List Nat → World → γ → Prop} {S : List Nat} {b o : Nat} {G : List Nat} {x : RV β e} {upd : RV β e → γ} (h : Lens H S w b o G x upd) {k : Nat} (hk : k < x.l.length) :
    ∃ b2 a cap G2, x.v = .slice (some ⟨b2, a, none⟩) x.l.length cap ∧ (∀ c ∈ b2 :: G2, c ∈ G) ∧ Lens H S w b2 (a + k * Rep.size β) G2 x.l[k] (fun y => upd ⟨x.v, x.l.set k y⟩) := by
  obtain ⟨⟨cs, ⟨rfl, hrow⟩, hr, hn, hw, hb, hwb⟩, hsub, hback⟩ := h
  obtain ⟨b2, a, cap, G2, hu, hL⟩ := focusG hrow hn hk
  have hG : ∀ c ∈ G, c ∈ S := fun c hc => hsub c (by simp [hc])
  refine ⟨b2, a, cap, G2, hu, hL.sub, hL.here, fun c hc => hG c (hL.sub c hc), fun w' G' y' hch hO hs => ?_⟩
  obtain ⟨F1, ⟨hR1, hN1⟩, hF1⟩ := hL.back w' G' y' hch hO fun c hc => by
    rcases hs c hc with h | h
    · exact .inl h
    · exact .inr fun e => h (hG c e)
  have hchG : Chg G w w' := hch.chg.mono hL.sub
  have hbl : b < w.heap.size := by obtain ⟨c, e, h⟩ := hwb; exact (Array.getElem?_eq_some_iff.1 h).1
  have hbk : w'.heap[b]? = w.heap[b]? := hchG.block b hbl hb
  have hs1 : ∀ c ∈ F1, c ∈ G ∨ c ∉ S := fun c hc => by
    rcases hF1 c hc with h | h
    · exact .inl h
    · rcases hs c h with h | h
      · exact .inl (hL.sub c (by simp [h]))
      · exact .inr h
  have hbF1 : b ∉ F1 := fun hm => by
    rcases hs1 b hm with h | h
    · exact hb h
    · exact h (hsub b (by simp))
  obtain ⟨F', hM', hF'⟩ := hback w' F1 ⟨x.v, x.l.set k y'⟩ ⟨hchG.mono (by simp +contextual), fun c e hc => ⟨c, by rw [hbk]; exact hc, fun _ _ => rfl⟩⟩
    ⟨[x.v], ⟨rfl, hR1⟩, rangeAt_keep hr hbk, hN1, hR1.wr, hbF1, by obtain ⟨c, e, h⟩ := hwb; exact ⟨c, e, by rw [hbk]; exact h⟩⟩ hs1
  refine ⟨F', hM', fun c hc => ?_⟩
  rcases hF' c hc with h | h
  · exact .inl h
  · rcases hF1 c h with h | h
    · exact .inl (hG c h)
    · exact .inr h
/-- the place of such an element, by its value -/
theorem rd_elemV {t te : TypeId} {by_ : Nat} {H : List Nat → World → γ → Prop} {S : List Nat} {b o : Nat} {G : List Nat} {x : RV β e} {upd : RV β e → γ} {k : Nat} {K : Value → Prop} (ht : P.underlying t = some (.slice te)) (he : tyI P te = some (Rep.size β, by_, Rep.agg β)) (h : Lens H S w b o G x upd) (hk : k < x.l.length)
    (kk : ∀ b2 o2 G2, Lens H S w b2 o2 G2 x.l[k] (fun y => upd ⟨x.v, x.l.set k y⟩) → K (.pointer (some ⟨b2, o2, none⟩))) : RD P (Instr.indexAt t x.v (.int .i64 (k : Int))) w K := by
  obtain ⟨b2, a, cap, G2, hv, _, hL⟩ := h.elemV hk
  refine rd_of (v := .pointer (some ⟨b2, a + k * Rep.size β, none⟩)) (fun w' _ => ?_) (kk _ _ _ hL)
  rw [hv, run_indexAt' ht he (by omega) (by omega)]; simp
instance : RepZ (RV α e) := ⟨⟨.slice none 0 0, []⟩, [.slice none 0 0], fun _ => ⟨rfl, .inl ⟨none, rfl, rfl, rfl⟩⟩⟩
end
end Go.Sh
