/-
  Places of one's own within data of one's own: what is written there, and how the whole reads afterwards.
-/
import Derived.Test.YteephmhilnlkpaaGreatMem
namespace Go.Sh
set_option linter.unusedVariables false
set_option linter.unusedSimpArgs false
set_option linter.unusedSectionVars false
open Go.RowKit (Below)
open Rep (rep)

/-- at offset o of block b lies x, by the blocks G, no two the same, that may be written, b too -/
def OAt {α : Type} [Rep α] (G : List Nat) (w : World) (b o : Nat) (x : α) : Prop :=
  ∃ cs, rep G w cs x ∧ w.rangeAt b o cs ∧ G.Nodup ∧ Wr G w ∧ b ∉ G ∧ ∃ c e, w.heap[b]? = some (.cells c e (0, 0))
/-- nothing has turned but n cells of the block b, from o on, and the blocks G -/
structure ChgAt (b o n : Nat) (G : List Nat) (w w' : World) : Prop where
  chg : Chg (b :: G) w w'
  cell : ∀ c e, w.heap[b]? = some (.cells c e (0, 0)) → ∃ c', w'.heap[b]? = some (.cells c' e (0, 0)) ∧ ∀ j, (j < o ∨ o + n ≤ j) → c'[j]? = c[j]?
theorem ChgAt.mono {b o n o' n' : Nat} {G G' : List Nat} {w w' : World} (h : ChgAt b o n G w w') (ho : o' ≤ o) (hn : o + n ≤ o' + n') (hG : ∀ c ∈ G, c ∈ G') : ChgAt b o' n' G' w w' :=
  ⟨h.chg.mono fun x hx => by
    rcases List.mem_cons.1 hx with rfl | hx
    · simp
    · exact List.mem_cons_of_mem _ (hG x hx), fun c e hc => by
    obtain ⟨c', h1, h2⟩ := h.cell c e hc
    exact ⟨c', h1, fun j hj => h2 j (by omega)⟩⟩
section
variable {P : Program} {w w0 : World} {α β : Type} [Rep α] [Rep β]
theorem ChgAt.range {b o n o' : Nat} {G : List Nat} {w' : World} {cs : List Value} (h : ChgAt b o n G w w') (hw : ∃ c e, w.heap[b]? = some (.cells c e (0, 0))) (hr : w.rangeAt b o' cs) (hd : o' + cs.length ≤ o ∨ o + n ≤ o') : w'.rangeAt b o' cs := by
  obtain ⟨c, e, hc⟩ := hw
  obtain ⟨c', h1, h2⟩ := h.cell c e hc
  intro j v hv
  have hj : j < cs.length := (List.getElem?_eq_some_iff.1 hv).1
  have := hr j v hv
  simp only [World.cell?, hc, h1] at this ⊢
  simp only [Option.isSome_none, Bool.false_eq_true, if_false] at this ⊢
  rw [h2 (o' + j) (by omega)]; exact this
theorem OAt.at {G : List Nat} {b o : Nat} {x : α} (h : OAt G w b o x) : At w b o x := by
  obtain ⟨cs, hr, ha, _⟩ := h; exact ⟨G, cs, hr, ha⟩
theorem OAt.lt {G : List Nat} {b o : Nat} {x : α} (h : OAt G w b o x) : b < w.heap.size := by
  obtain ⟨cs, _, _, _, _, _, c, e, hc⟩ := h; exact (Array.getElem?_eq_some_iff.1 hc).1
/-- H tells how a whole is held, S its blocks; within it at (b, o) lies y, by the blocks G; upd tells how the whole reads when y turns -/
structure Lens (H : List Nat → World → α → Prop) (S : List Nat) (w : World) (b o : Nat) (G : List Nat) (y : β) (upd : β → α) : Prop where
  here : OAt G w b o y
  sub : ∀ c ∈ b :: G, c ∈ S
  back : ∀ w' G' y', ChgAt b o (Rep.size β) G w w' → OAt G' w' b o y' → (∀ c ∈ G', c ∈ G ∨ c ∉ S) → ∃ F', H F' w' (upd y') ∧ ∀ c ∈ F', c ∈ S ∨ c ∈ G'
/-- a value that is held -/
abbrev MH (v : Value) : List Nat → World → α → Prop := fun F w x => Mine F w v x
/-- a variable that is held: the block g -/
abbrev VH (g : Nat) : List Nat → World → α → Prop := fun F w x => OAt F w g 0 x
theorem Lens.var {F : List Nat} {g : Nat} {x : α} (h : OAt F w g 0 x) : Lens (VH g) (g :: F) w g 0 F x (fun y => y) :=
  ⟨h, fun _ h => h, fun w' G' y' _ hO _ => ⟨G', hO, fun c hc => .inr hc⟩⟩
theorem nodup_mid {F1 F2 G G' : List Nat} {b : Nat} (h : (b :: (F1 ++ (G ++ F2))).Nodup) (hG : G'.Nodup) (hs : ∀ c ∈ G', c ∈ G ∨ c ∉ b :: (F1 ++ (G ++ F2))) : (b :: (F1 ++ (G' ++ F2))).Nodup := by
  rw [List.nodup_cons] at h ⊢
  obtain ⟨hb, h⟩ := h
  rw [List.nodup_append] at h ⊢
  obtain ⟨h1, h2, h3⟩ := h
  rw [List.nodup_append] at h2 ⊢
  obtain ⟨h4, h5, h6⟩ := h2
  refine ⟨fun hm => ?_, h1, ⟨hG, h5, fun a ha c hc e => ?_⟩, fun a ha c hc e => ?_⟩
  · rcases List.mem_append.1 hm with hm | hm
    · exact hb (by simp [hm])
    · rcases List.mem_append.1 hm with hm | hm
      · rcases hs _ hm with h' | h'
        · exact hb (by simp [h'])
        · exact h' (by simp)
      · exact hb (by simp [hm])
  · subst e
    rcases hs _ ha with h' | h'
    · exact h6 a h' a hc rfl
    · exact h' (by simp [hc])
  · subst e
    rcases List.mem_append.1 hc with hc | hc
    · rcases hs _ hc with h' | h'
      · exact h3 a ha a (by simp [h']) rfl
      · exact h' (by simp [ha])
    · exact h3 a ha a (by simp [hc]) rfl
/-- an element -/
theorem focus {F : List Nat} {v : Value} {l : List α} {k : Nat} (hm : Mine F w v l) (hk : k < l.length) :
    ∃ b a cap G, v = .slice (some ⟨b, a, none⟩) l.length cap ∧ Lens (MH v) F w b (a + k * Rep.size α) G l[k] (fun y => l.set k y) := by
  obtain ⟨⟨cs, ⟨a, cap, Fi, xs, rfl, h1, h2, hc, h4⟩, rfl⟩, hn, hw⟩ := hm
  rcases h4 with ⟨rfl, _⟩ | ⟨b, o, rfl, rfl, hra, hb⟩
  · simp at hk
  have e : l = l.take k ++ (l[k] :: l.drop (k + 1)) := by simp
  have hc' := hc
  rw [e] at hc'
  obtain ⟨F1, F2', x1, x2', hFi, hxs, c1, c2'⟩ := Cells.split hc'
  obtain ⟨G, F2, cg, x2, rfl, rfl, hg, c2⟩ := c2'
  subst hFi hxs
  have hl1 : x1.length = k * Rep.size α := by rw [Cells.len c1, List.length_take]; congr 1; omega
  have hlg := Rep.len hg
  have hn' := hn
  rw [List.nodup_cons] at hn
  obtain ⟨hbn, hn⟩ := hn
  rw [List.nodup_append] at hn
  obtain ⟨hn1, hn2, hn3⟩ := hn
  rw [List.nodup_append] at hn2
  obtain ⟨hnG, hnF2, hn4⟩ := hn2
  obtain ⟨r1, r2⟩ := rangeAt_append hra
  obtain ⟨rg, r3⟩ := rangeAt_append r2
  rw [hl1] at rg r3
  have hwb : ∃ c e, w.heap[b]? = some (.cells c e (0, 0)) := hw b (by simp)
  refine ⟨b, o, cap, G, rfl, ⟨cg, hg, rg, hnG, hw.sub (by simp +contextual), fun h => hbn (by simp [h]), hwb⟩, by simp +contextual, fun w' G' y' hch hO hs => ?_⟩
  obtain ⟨cg', hg', rg', hnG', hwG', hbG', hwb'⟩ := hO
  have hlg' := Rep.len hg'
  have keep1 : ∀ c ∈ F1, w'.heap[c]? = w.heap[c]? := fun c hc1 => by
    refine hch.chg.block c (Cells.lt c1 c hc1) fun hm => ?_
    rcases List.mem_cons.1 hm with rfl | hm
    · exact hbn (by simp [hc1])
    · exact hn3 c hc1 c (by simp [hm]) rfl
  have keep2 : ∀ c ∈ F2, w'.heap[c]? = w.heap[c]? := fun c hc1 => by
    refine hch.chg.block c (Cells.lt c2 c hc1) fun hm => ?_
    rcases List.mem_cons.1 hm with rfl | hm
    · exact hbn (by simp [hc1])
    · exact hn4 c hm c hc1 rfl
  refine ⟨b :: (F1 ++ (G' ++ F2)), ⟨⟨_, ⟨some ⟨b, o, none⟩, cap, F1 ++ (G' ++ F2), x1 ++ (cg' ++ x2), by simp, by simpa using h1, h2, ?_, .inr ⟨b, o, rfl, rfl, ?_, ?_⟩⟩, rfl⟩, nodup_mid hn' hnG' hs, ?_⟩, ?_⟩
  · have : l.set k y' = l.take k ++ (y' :: l.drop (k + 1)) := by rw [List.set_eq_take_append_cons_drop]; simp [hk]
    rw [this]
    exact Cells.append (Cells.keep c1 keep1) ⟨G', F2, cg', x2, rfl, rfl, hg', Cells.keep c2 keep2⟩
  · refine rangeAt_join (hch.range hwb r1 (.inl (by omega))) (rangeAt_join (by rw [hl1]; exact rg') ?_)
    have e3 : o + x1.length + cg'.length = o + k * Rep.size α + cg.length := by omega
    rw [e3]
    exact hch.range hwb r3 (.inr (by omega))
  · obtain ⟨c, e, h⟩ := hwb'; exact (Array.getElem?_eq_some_iff.1 h).1
  · intro c hcm
    rcases List.mem_cons.1 hcm with rfl | hcm
    · exact hwb'
    · rcases List.mem_append.1 hcm with hcm | hcm
      · exact (hw.sub (G := F1) (by simp +contextual)).keep keep1 c hcm
      · rcases List.mem_append.1 hcm with hcm | hcm
        · exact hwG' c hcm
        · exact (hw.sub (G := F2) (by simp +contextual)).keep keep2 c hcm
  · intro c hcm
    rcases List.mem_cons.1 hcm with rfl | hcm
    · exact .inl (by simp)
    · rcases List.mem_append.1 hcm with hcm | hcm
      · exact .inl (by simp [hcm])
      · rcases List.mem_append.1 hcm with hcm | hcm
        · exact .inr hcm
        · exact .inl (by simp [hcm])
section pair
variable {γ : Type}
/-- the first of a pair -/
theorem Lens.fst {H : List Nat → World → γ → Prop} {F : List Nat} {b o : Nat} {G : List Nat} {p : α × β} {upd : α × β → γ} (h : Lens H F w b o G p upd) :
    ∃ G1, Lens H F w b o G1 p.1 (fun y => upd (y, p.2)) := by
  obtain ⟨⟨cs, ⟨G1, G2, c1, c2, rfl, rfl, h1, h2⟩, hr, hn, hw, hb, hwb⟩, hsub, hback⟩ := h
  obtain ⟨r1, r2⟩ := rangeAt_append hr
  have hl1 := Rep.len h1
  have hl2 := Rep.len h2
  have hn' := hn
  rw [List.nodup_append] at hn
  obtain ⟨hn1, hn2, hn3⟩ := hn
  simp only [List.mem_append, not_or] at hb
  refine ⟨G1, ⟨c1, h1, r1, hn1, hw.sub (by simp +contextual), hb.1, hwb⟩, fun c hc => hsub c (by rcases List.mem_cons.1 hc with rfl | hc <;> simp_all), fun w' G' y' hch hO hs => ?_⟩
  obtain ⟨c1', h1', r1', hn1', hw1', hb1', hwb'⟩ := hO
  have keep2 : ∀ c ∈ G2, w'.heap[c]? = w.heap[c]? := fun c hc => by
    refine hch.chg.block c (Rep.lt h2 c hc) fun hm => ?_
    rcases List.mem_cons.1 hm with rfl | hm
    · exact hb.2 hc
    · exact hn3 c hm c hc rfl
  have hs' : ∀ c ∈ G' ++ G2, c ∈ G1 ++ G2 ∨ c ∉ F := fun c hc => by
    rcases List.mem_append.1 hc with hc | hc
    · rcases hs c hc with h | h
      · exact .inl (by simp [h])
      · exact .inr h
    · exact .inl (by simp [hc])
  have hnG : (G' ++ G2).Nodup := by
    rw [List.nodup_append]
    refine ⟨hn1', hn2, fun a ha c hc e => ?_⟩
    subst e
    rcases hs a ha with h | h
    · exact hn3 a h a hc rfl
    · exact h (hsub a (by simp [hc]))
  obtain ⟨F', hM, hF'⟩ := hback w' (G' ++ G2) (y', p.2) (hch.mono (Nat.le_refl _) (by simp only [Rep.size]; omega) (by simp +contextual))
    ⟨c1' ++ c2, ⟨G', G2, c1', c2, rfl, rfl, h1', Rep.keep h2 keep2⟩, rangeAt_join r1' (by
      rw [Rep.len h1', ← hl1]; exact hch.range hwb r2 (.inr (by rw [hl1]; exact Nat.le_refl _))), hnG, hw1'.append ((hw.sub (by simp +contextual)).keep keep2), by simp [hb1', hb.2], hwb'⟩ hs'
  refine ⟨F', hM, fun c hc => ?_⟩
  rcases hF' c hc with h | h
  · exact .inl h
  · rcases List.mem_append.1 h with h | h
    · exact .inr h
    · exact .inl (hsub c (by simp [h]))
/-- the second of a pair -/
theorem Lens.snd {H : List Nat → World → γ → Prop} {F : List Nat} {b o : Nat} {G : List Nat} {p : α × β} {upd : α × β → γ} (h : Lens H F w b o G p upd) :
    ∃ G1, Lens H F w b (o + Rep.size α) G1 p.2 (fun y => upd (p.1, y)) := by
  obtain ⟨⟨cs, ⟨G1, G2, c1, c2, rfl, rfl, h1, h2⟩, hr, hn, hw, hb, hwb⟩, hsub, hback⟩ := h
  obtain ⟨r1, r2⟩ := rangeAt_append hr
  have hl1 := Rep.len h1
  have hl2 := Rep.len h2
  have hn' := hn
  rw [List.nodup_append] at hn
  obtain ⟨hn1, hn2, hn3⟩ := hn
  simp only [List.mem_append, not_or] at hb
  rw [hl1] at r2
  refine ⟨G2, ⟨c2, h2, r2, hn2, hw.sub (by simp +contextual), hb.2, hwb⟩, fun c hc => hsub c (by rcases List.mem_cons.1 hc with rfl | hc <;> simp_all), fun w' G' y' hch hO hs => ?_⟩
  obtain ⟨c2', h2', r2', hn2', hw2', hb2', hwb'⟩ := hO
  have keep1 : ∀ c ∈ G1, w'.heap[c]? = w.heap[c]? := fun c hc => by
    refine hch.chg.block c (Rep.lt h1 c hc) fun hm => ?_
    rcases List.mem_cons.1 hm with rfl | hm
    · exact hb.1 hc
    · exact hn3 c hc c hm rfl
  have hs' : ∀ c ∈ G1 ++ G', c ∈ G1 ++ G2 ∨ c ∉ F := fun c hc => by
    rcases List.mem_append.1 hc with hc | hc
    · exact .inl (by simp [hc])
    · rcases hs c hc with h | h
      · exact .inl (by simp [h])
      · exact .inr h
  have hnG : (G1 ++ G').Nodup := by
    rw [List.nodup_append]
    refine ⟨hn1, hn2', fun a ha c hc e => ?_⟩
    subst e
    rcases hs a hc with h | h
    · exact hn3 a ha a h rfl
    · exact h (hsub a (by simp [ha]))
  obtain ⟨F', hM, hF'⟩ := hback w' (G1 ++ G') (p.1, y') (hch.mono (by omega) (by simp only [Rep.size]; omega) (by simp +contextual))
    ⟨c1 ++ c2', ⟨G1, G', c1, c2', rfl, rfl, Rep.keep h1 keep1, h2'⟩, rangeAt_join (hch.range hwb r1 (.inl (by rw [hl1]; exact Nat.le_refl _))) (by rw [hl1]; exact r2'), hnG, ((hw.sub (by simp +contextual)).keep keep1).append hw2', by simp [hb.1, hb2'], hwb'⟩ hs'
  refine ⟨F', hM, fun c hc => ?_⟩
  rcases hF' c hc with h | h
  · exact .inl h
  · rcases List.mem_append.1 h with h | h
    · exact .inl (hsub c (by simp [h]))
    · exact .inr h
/-- the slice that lies there: a value of one's own; it may turn -/
theorem Lens.row {H : List Nat → World → γ → Prop} {F : List Nat} {b o : Nat} {G : List Nat} {l : List β} {upd : List β → γ} (h : Lens H F w b o G l upd) :
    ∃ u, Mine G w u l ∧ w.rangeAt b o [u] ∧ (∀ c ∈ G, c ∈ F) ∧
      ∀ w' G' l', Chg G w w' → Mine G' w' u l' → (∀ c ∈ G', c ∈ G ∨ c ∉ F) → ∃ F', H F' w' (upd l') ∧ ∀ c ∈ F', c ∈ F ∨ c ∈ G' := by
  obtain ⟨⟨cs, hrep, hr, hn, hw, hb, hwb⟩, hsub, hback⟩ := h
  have hcs : ∃ u, cs = [u] := by obtain ⟨a, cap, Fi, xs, rfl, _⟩ := hrep; exact ⟨_, rfl⟩
  obtain ⟨u, rfl⟩ := hcs
  refine ⟨u, ⟨⟨_, hrep, rfl⟩, hn, hw⟩, hr, fun c hc => hsub c (by simp [hc]), fun w' G' l' hch hM hs => ?_⟩
  have hbl : b < w.heap.size := by obtain ⟨c, e, h⟩ := hwb; exact (Array.getElem?_eq_some_iff.1 h).1
  have hbk : w'.heap[b]? = w.heap[b]? := hch.block b hbl hb
  obtain ⟨⟨cs', hrep', hv'⟩, hn', hw'⟩ := hM
  have hcs' : cs' = [u] := by
    obtain ⟨a, cap, Fi, xs, rfl, _⟩ := hrep'
    simp only [mkv, Rep.agg, cond_false, List.headD_cons] at hv'
    rw [hv']
  subst hcs'
  have hbG' : b ∉ G' := fun hm => by
    rcases hs b hm with h | h
    · exact hb h
    · exact h (hsub b (by simp))
  exact hback w' G' l' ⟨hch.mono (by simp +contextual), fun c e hc => ⟨c, by rw [hbk]; exact hc, fun _ _ => rfl⟩⟩
    ⟨_, hrep', rangeAt_keep hr hbk, hn', hw', hbG', by obtain ⟨c, e, h⟩ := hwb; exact ⟨c, e, by rw [hbk]; exact h⟩⟩ hs
/-- an element of the slice that lies there -/
theorem Lens.elem {H : List Nat → World → γ → Prop} {F : List Nat} {b o : Nat} {G : List Nat} {l : List β} {upd : List β → γ} (h : Lens H F w b o G l upd) {k : Nat} (hk : k < l.length) :
    ∃ u b2 a cap G2, w.rangeAt b o [u] ∧ Is w u l ∧ u = .slice (some ⟨b2, a, none⟩) l.length cap ∧ Lens H F w b2 (a + k * Rep.size β) G2 l[k] (fun y => upd (l.set k y)) := by
  obtain ⟨u, hM, hr, hG, hb⟩ := h.row
  obtain ⟨b2, a, cap, G2, hu, hL⟩ := focus hM hk
  refine ⟨u, b2, a, cap, G2, hr, hM.is, hu, hL.here, fun c hc => hG c (hL.sub c hc), fun w' G' y' hch hO hs => ?_⟩
  obtain ⟨F1, hM1, hF1⟩ := hL.back w' G' y' hch hO fun c hc => by
    rcases hs c hc with h | h
    · exact .inl h
    · exact .inr fun e => h (hG c e)
  obtain ⟨F', hM', hF'⟩ := hb w' F1 _ (hch.chg.mono hL.sub) hM1 fun c hc => by
    rcases hF1 c hc with h | h
    · exact .inl h
    · rcases hs c h with h | h
      · exact .inl (hL.sub c (by simp [h]))
      · exact .inr h
  refine ⟨F', hM', fun c hc => ?_⟩
  rcases hF' c hc with h | h
  · exact .inl h
  · rcases hF1 c h with h | h
    · exact .inl (hG c h)
    · exact .inr h
end pair
/-- from a value that is a struct in hand: nothing is to be written in it, but in the slices that it holds -/
theorem opu_at {t by_ b o : Nat} {G : List Nat} {y y' : β} {u : Value} {G' : List Nat} {K : World → Prop} (ht : tyI P t = some (Rep.size β, by_, Rep.agg β)) (h : OAt G w b o y)
    (hu : OwnF G' w u y') (hn : G'.Nodup) (hwr : Wr G' w) (hb : b ∉ G') (k : ∀ w', ChgAt b o (Rep.size β) [] w w' → OAt G' w' b o y' → K w') : OPU P (Instr.storeAt t (.pointer (some ⟨b, o, none⟩)) u) w K := by
  obtain ⟨us, hr, rfl⟩ := hu
  obtain ⟨cs, hr0, ha, hn0, hw0, hb0, c, e, hc⟩ := h
  have hl0 := Rep.len hr0
  have hlu := Rep.len hr
  have hpos := Rep.pos (α := β)
  have hcell : ∀ j, j < cs.length → c[o + j]? = cs[j]? := by
    intro j hj
    have := ha j cs[j] (by simp [hj])
    simpa [World.cell?, hc, hj] using this
  have hfit : o + Rep.size β ≤ c.size := by
    have hj : cs.length - 1 < cs.length := by omega
    have := hcell (cs.length - 1) hj
    rw [List.getElem?_eq_getElem hj] at this
    have := (Array.getElem?_eq_some_iff.1 this).1
    omega
  have hst := run_storeAt' (P := P) (e := e) (cur := c) ht hr hc hfit
  have hset := setRow_heap w b c ((c.toList.take o ++ us ++ c.toList.drop (o + us.length)).toArray) e _ hc
  refine ⟨_, hst, k _ ⟨(setRow_chg w b _).mono (by simp), fun c1 e1 hc1 => ?_⟩ ?_⟩
  · rw [hc] at hc1
    simp only [Option.some.injEq, Obj.cells.injEq, and_true] at hc1
    obtain ⟨rfl, rfl⟩ := hc1
    refine ⟨_, hset, fun j hj => ?_⟩
    simp only [List.getElem?_toArray]
    rcases hj with hj | hj
    · rw [List.append_assoc, List.getElem?_append_left (by simp only [List.length_take, Array.length_toList]; omega), List.getElem?_take, if_pos hj, Array.getElem?_toList]
    · rw [List.getElem?_append_right (by simp only [List.length_append, List.length_take, Array.length_toList]; omega), List.getElem?_drop, Array.getElem?_toList]
      congr 1
      simp only [List.length_append, List.length_take, Array.length_toList]; omega
  · have hkeep : ∀ x ∈ G', (w.setRow b ((c.toList.take o ++ us ++ c.toList.drop (o + us.length)).toArray)).heap[x]? = w.heap[x]? := fun x hx =>
      (setRow_chg w b _).block x (hwr.lt x hx) (by simp; exact fun e => hb (e ▸ hx))
    refine ⟨us, Rep.keep hr hkeep, fun j v hv => ?_, hn, hwr.keep hkeep, hb, _, e, hset⟩
    have hj : j < us.length := (List.getElem?_eq_some_iff.1 hv).1
    simp only [World.cell?, hset]
    simp only [Option.isSome_none, Bool.false_eq_true, if_false, List.getElem?_toArray]
    rw [List.append_assoc, List.getElem?_append_right (by simp only [List.length_take, Array.length_toList]; omega), List.getElem?_append_left (by simp only [List.length_take, Array.length_toList]; omega), ← hv]
    congr 1
    simp only [List.length_take, Array.length_toList]; omega
/-- a store at such a place -/
theorem opu_lens {t by_ b o : Nat} {H : List Nat → World → α → Prop} {F G : List Nat} {y y' : β} {upd : β → α} {u : Value} {G' : List Nat} {K : World → Prop} (ht : tyI P t = some (Rep.size β, by_, Rep.agg β)) (h : Lens H F w b o G y upd)
    (hu : Mine G' w u y') (hs : ∀ c ∈ G', c ∈ G ∨ c ∉ F) (k : ∀ w', Chg F w w' → (∃ F', H F' w' (upd y') ∧ ∀ c ∈ F', c ∈ F ∨ c ∈ G') → K w') : OPU P (Instr.storeAt t (.pointer (some ⟨b, o, none⟩)) u) w K := by
  have hbG' : b ∉ G' := fun hm => by
    rcases hs b hm with h' | h'
    · obtain ⟨cs, _, _, _, _, hb, _⟩ := h.here; exact hb h'
    · exact h' (h.sub b (by simp))
  refine opu_at ht h.here hu.own hu.nodup hu.wr hbG' fun w' hch hO => k w' (hch.chg.mono fun c hc => h.sub c (by simp at hc; simp [hc])) ?_
  obtain ⟨F', h1, h2⟩ := h.back w' G' y' (hch.mono (Nat.le_refl _) (Nat.le_refl _) (by simp)) hO hs
  exact ⟨F', h1, h2⟩
end

/-- a datum whose cells are all zero -/
class RepZ (α : Type) [Rep α] where
  zv : α
  zc : List Value
  zr : ∀ w, rep [] w zc zv
instance : RepZ Int := ⟨0, [.int .i64 0], fun _ => ⟨rfl, rfl, by unfold I64; omega⟩⟩
instance : RepZ Bool := ⟨false, [.bool false], fun _ => ⟨rfl, rfl⟩⟩
instance : RepZ ByteArray := ⟨ByteArray.empty, [.string ByteArray.empty], fun _ => ⟨rfl, rfl, Nat.zero_le _⟩⟩
instance {α : Type} [Rep α] : RepZ (List α) := ⟨[], [.slice none 0 0], fun _ => ⟨none, 0, [], [], rfl, Nat.le_refl _, Nat.zero_le _, ⟨rfl, rfl⟩, .inl ⟨rfl, rfl⟩⟩⟩
instance {α β : Type} [Rep α] [Rep β] [RepZ α] [RepZ β] : RepZ (α × β) := ⟨((RepZ.zv : α), (RepZ.zv : β)), RepZ.zc α ++ RepZ.zc β, fun w => ⟨[], [], _, _, rfl, rfl, RepZ.zr w, RepZ.zr w⟩⟩

/-- v reads as x, by blocks from lo up to hi, no two the same, that may be written -/
def OwnI {α : Type} [Rep α] (lo hi : Nat) (w : World) (v : Value) (x : α) : Prop := ∃ F, Mine F w v x ∧ ∀ b ∈ F, lo ≤ b ∧ b < hi
/-- nothing has turned but blocks from lo up to hi -/
structure ChgI (lo hi : Nat) (w w' : World) : Prop where
  os : w'.os = w.os
  tape : w'.tape = w.tape
  output : w'.output = w.output
  size : w.heap.size ≤ w'.heap.size
  block : ∀ b, b < w.heap.size → (b < lo ∨ hi ≤ b) → w'.heap[b]? = w.heap[b]?
section
variable {w w' : World} {α : Type} [Rep α] {lo hi a b : Nat} {v : Value} {x : α}
theorem Chg.toI {F : List Nat} (h : Chg F w w') (hF : ∀ b ∈ F, lo ≤ b ∧ b < hi) : ChgI lo hi w w' :=
  ⟨h.os, h.tape, h.output, h.size, fun i hi' ho => h.block i hi' fun e => by have := hF i e; omega⟩
theorem Ext.toI (h : Ext w w') : ChgI lo hi w w' := ⟨h.os, h.tape, h.output, h.size, fun i hi' _ => h.block i hi'⟩
theorem ChgI.refl (w : World) : ChgI lo hi w w := ⟨rfl, rfl, rfl, Nat.le_refl _, fun _ _ _ => rfl⟩
theorem ChgI.trans {w'' : World} (h : ChgI lo hi w w') (k : ChgI lo hi w' w'') : ChgI lo hi w w'' :=
  ⟨k.os.trans h.os, k.tape.trans h.tape, k.output.trans h.output, Nat.le_trans h.size k.size, fun i hi' ho => (k.block i (Nat.lt_of_lt_of_le hi' h.size) ho).trans (h.block i hi' ho)⟩
theorem ChgI.mono {lo' hi' : Nat} (h : ChgI lo hi w w') (h1 : lo' ≤ lo) (h2 : hi ≤ hi') : ChgI lo' hi' w w' :=
  ⟨h.os, h.tape, h.output, h.size, fun i hi' ho => h.block i hi' (by omega)⟩
theorem Ext.chgI {c : World} (h : Ext w w') (k : ChgI lo hi w' c) (hl : w.heap.size ≤ lo) : Ext w c :=
  ⟨k.os.trans h.os, k.tape.trans h.tape, k.output.trans h.output, Nat.le_trans h.size k.size, fun i hi' => (k.block i (Nat.lt_of_lt_of_le hi' h.size) (by omega)).trans (h.block i hi')⟩
theorem Own.toI (h : Own lo w v x) : OwnI lo w.heap.size w v x := by
  obtain ⟨F, hm, hl⟩ := h; exact ⟨F, hm, fun b hb => ⟨hl b hb, hm.lt b hb⟩⟩
theorem OwnI.own (h : OwnI lo hi w v x) : Own lo w v x := by
  obtain ⟨F, hm, hl⟩ := h; exact ⟨F, hm, fun b hb => (hl b hb).1⟩
theorem OwnI.is (h : OwnI lo hi w v x) : Is w v x := by obtain ⟨F, hm, _⟩ := h; exact hm.is
theorem OwnI.ext (h : OwnI lo hi w v x) (hx : Ext w w') : OwnI lo hi w' v x := by obtain ⟨F, hm, hl⟩ := h; exact ⟨F, hm.ext hx, hl⟩
theorem OwnI.chg (h : OwnI lo hi w v x) (hc : ChgI a b w w') (hd : hi ≤ a ∨ b ≤ lo) : OwnI lo hi w' v x := by
  obtain ⟨F, hm, hl⟩ := h
  exact ⟨F, hm.keep fun c hcm => hc.block c (hm.lt c hcm) (by have := hl c hcm; omega), hl⟩
theorem OwnI.mono {lo' hi' : Nat} (h : OwnI lo hi w v x) (h1 : lo' ≤ lo) (h2 : hi ≤ hi') : OwnI lo' hi' w v x := by
  obtain ⟨F, hm, hl⟩ := h; exact ⟨F, hm, fun b hb => by have := hl b hb; omega⟩
/-- the variable g holds x, by blocks from lo up to hi -/
def VarI {α : Type} [Rep α] (lo hi : Nat) (w : World) (g : Nat) (x : α) : Prop := ∃ F, OAt F w g 0 x ∧ ∀ b ∈ F, lo ≤ b ∧ b < hi
theorem OAt.keep {F : List Nat} {g o : Nat} (h : OAt F w g o x) (hk : ∀ c ∈ g :: F, w'.heap[c]? = w.heap[c]?) : OAt F w' g o x := by
  obtain ⟨cs, hr, ha, hn, hw, hb, c, e, hc⟩ := h
  have hg := hk g (by simp)
  exact ⟨cs, Rep.keep hr fun b hb => hk b (by simp [hb]), rangeAt_keep ha hg, hn, hw.keep fun b hb => hk b (by simp [hb]), hb, c, e, by rw [hg]; exact hc⟩
theorem VarI.lt {g : Nat} (h : VarI lo hi w g x) : g < w.heap.size := by obtain ⟨F, h, _⟩ := h; exact h.lt
theorem OAt.lts {F : List Nat} {g o : Nat} (h : OAt F w g o x) : ∀ c ∈ g :: F, c < w.heap.size := by
  intro c hc
  rcases List.mem_cons.1 hc with rfl | hc
  · exact h.lt
  · obtain ⟨cs, hr, _⟩ := h; exact Rep.lt hr c hc
theorem VarI.ext {g : Nat} (h : VarI lo hi w g x) (hx : Ext w w') : VarI lo hi w' g x := by
  obtain ⟨F, h, hl⟩ := h
  exact ⟨F, h.keep fun c hc => hx.heap (h.lts c hc), hl⟩
theorem VarI.chg {g : Nat} (h : VarI lo hi w g x) (hc : ChgI a b w w') (hd : hi ≤ a ∨ b ≤ lo) (hg : g < a ∨ b ≤ g) : VarI lo hi w' g x := by
  obtain ⟨F, h, hl⟩ := h
  refine ⟨F, h.keep fun c hcm => hc.block c (h.lts c hcm) ?_, hl⟩
  rcases List.mem_cons.1 hcm with rfl | hcm
  · omega
  · have := hl c hcm; omega
theorem VarI.at {g : Nat} (h : VarI lo hi w g x) : At w g 0 x := by obtain ⟨F, h, _⟩ := h; exact h.at
theorem VarI.own {g : Nat} (h : VarI lo hi w g x) : ∃ v, OwnI lo hi w v x ∧ ∃ cs F, Rep.rep F w cs x ∧ w.rangeAt g 0 cs ∧ v = mkv α cs := by
  obtain ⟨F, ⟨cs, hr, ha, hn, hw, _⟩, hl⟩ := h
  exact ⟨mkv α cs, ⟨F, ⟨⟨cs, hr, rfl⟩, hn, hw⟩, hl⟩, cs, F, hr, ha, rfl⟩
section
variable {P : Program} {w0 : World}
theorem op_varZ [RepZ α] {e : TypeId} {K : Value → World → Prop} (hz : zeroL P e = some (RepZ.zc α))
    (k : ∀ w', Ext w w' → VarI w'.heap.size w'.heap.size w' w.heap.size ((RepZ.zv : α)) → K (.pointer (some ⟨w.heap.size, 0, none⟩)) w') : OP P (Instr.alloc e true (.tuple #[])) w K :=
  op_alloc hz fun w' hx hB => k w' hx ⟨[], ⟨RepZ.zc α, RepZ.zr w', hB.range, List.nodup_nil, Wr.nil _, by simp, _, _, hB⟩, by simp⟩
theorem rd_varI {t by_ g : Nat} {K : Value → Prop} (ht : tyI P t = some (Rep.size α, by_, Rep.agg α)) (h : VarI lo hi w0 g x) (hx : Ext w0 w) (k : ∀ v, OwnI lo hi w0 v x → K v) :
    RD P (Instr.loadAt t (.pointer (some ⟨g, 0, none⟩))) w K := by
  obtain ⟨v, ho, cs, F, hr, ha, rfl⟩ := h.own
  exact rd_of (fun w' hx' => run_loadAt' ht (rep_ext hr (hx.trans hx')) (rangeAt_ext ha (hx.trans hx'))) (k _ ho)
theorem rd_varRI {t by_ g : Nat} {K : Value → Prop} (ht : tyI P t = some (Rep.size α, by_, Rep.agg α)) (h : VarI lo hi w0 g x) (hx : Ext w0 w) (k : ∀ v, OwnI lo hi w0 v x → K v) :
    RD P (loadRes t (.pointer (some ⟨g, 0, none⟩))) w K := by
  obtain ⟨v, ho, cs, F, hr, ha, rfl⟩ := h.own
  refine rd_of (fun w' hx' => ?_) (k _ ho)
  have := run_loadAt' ht (rep_ext hr (hx.trans hx')) (rangeAt_ext ha (hx.trans hx'))
  simpa [loadRes, asAddr, Instr.loadAt, Instr.sureAddr] using this
/-- a store into the variable's field -/
theorem opu_varF {β : Type} [Rep β] {t by_ g o : Nat} {F G : List Nat} {y y' : β} {upd : β → α} {u : Value} {lo2 hi2 : Nat} {K : World → Prop} (ht : tyI P t = some (Rep.size β, by_, Rep.agg β)) (hL : Lens (VH g) (g :: F) w g o G y upd) (hF : ∀ b ∈ F, lo ≤ b ∧ b < hi)
    (hu : OwnI lo2 hi2 w u y') (h1 : hi ≤ lo2) (h2 : g < lo2) (k : ∀ w', ChgI g (g + 1) w w' → (∀ lo', lo' ≤ lo → lo' ≤ lo2 → ∀ hi', hi ≤ hi' → hi2 ≤ hi' → VarI lo' hi' w' g (upd y')) → K w') : OPU P (Instr.storeAt t (.pointer (some ⟨g, o, none⟩)) u) w K := by
  obtain ⟨G', hM, hG'⟩ := hu
  have hs : ∀ c ∈ G', c ∈ G ∨ c ∉ g :: F := fun c hc => .inr fun hm => by
    have := hG' c hc
    rcases List.mem_cons.1 hm with rfl | hm
    · omega
    · have := hF c hm; omega
  have hgG' : g ∉ G' := fun h => by have := hG' g h; omega
  refine opu_at ht hL.here hM.own hM.nodup hM.wr hgG' fun w' hch hO => k w' (hch.chg.toI (by simp)) ?_
  obtain ⟨F', h3, h4⟩ := hL.back w' G' y' (hch.mono (Nat.le_refl _) (Nat.le_refl _) (by simp)) hO hs
  intro lo' hl1 hl2 hi' hh1 hh2
  refine ⟨F', h3, fun c hc => ?_⟩
  rcases h4 c hc with h | h
  · rcases List.mem_cons.1 h with rfl | h
    · obtain ⟨_, _, _, _, _, hn, _⟩ := h3; exact absurd hc hn
    · have := hF c h; omega
  · have := hG' c h; omega
/-- the variable is set whole -/
theorem opu_varA {t by_ g : Nat} {x0 : α} {lo0 hi0 : Nat} {u : Value} {K : World → Prop} (ht : tyI P t = some (Rep.size α, by_, Rep.agg α)) (hv : VarI lo0 hi0 w g x0) (hu : OwnI lo hi w u x) (hg : g < lo ∨ hi ≤ g)
    (k : ∀ w', ChgI g (g + 1) w w' → VarI lo hi w' g x → K w') : OPU P (Instr.storeAt t (.pointer (some ⟨g, 0, none⟩)) u) w K := by
  obtain ⟨F, hO, _⟩ := hv
  obtain ⟨G', hM, hG'⟩ := hu
  have hgG' : g ∉ G' := fun h => by have := hG' g h; omega
  exact opu_at ht hO hM.own hM.nodup hM.wr hgG' fun w' hch hO' => k w' (hch.chg.toI (by simp)) ⟨G', hO', hG'⟩
end
theorem ownI_int {x : Int} (h : I64 x) : OwnI lo hi w (.int .i64 x) x := ⟨[], ⟨⟨_, ⟨rfl, rfl, h⟩, rfl⟩, List.nodup_nil, Wr.nil w⟩, by simp⟩
theorem ownI_str {x : ByteArray} (h : x.size ≤ maxLen) : OwnI lo hi w (.string x) x := ⟨[], ⟨⟨_, ⟨rfl, rfl, h⟩, rfl⟩, List.nodup_nil, Wr.nil w⟩, by simp⟩
theorem ownI_bool {x : Bool} : OwnI lo hi w (.bool x) x := ⟨[], ⟨⟨_, ⟨rfl, rfl⟩, rfl⟩, List.nodup_nil, Wr.nil w⟩, by simp⟩
theorem ownI_nil : OwnI (α := List α) lo hi w (.slice none 0 0) [] := by
  obtain ⟨F, hm, _⟩ := own_nil (w := w) (lo := 0) (α := α) rfl
  have : F = [] := by
    obtain ⟨⟨cs, ⟨a, cap, Fi, xs, rfl, _, _, _, h⟩, hv⟩, _⟩ := hm
    rcases h with ⟨_, h⟩ | ⟨b, o, ha, _⟩
    · exact h
    · subst ha; simp [mkv, Rep.agg] at hv
  subst this
  exact ⟨[], hm, by simp⟩
end
end Go.Sh
