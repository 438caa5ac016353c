/-
  Parts of the proof, put together by program.
-/
import Derived.Test.YtjgfldfbljmhhaaGreatPRacesOf1
namespace Go.Sh
set_option linter.unusedVariables false
set_option linter.unusedSimpArgs false
set_option linter.unusedSectionVars false
open Go.RowKit (Below)
open Rep (rep)
def OAt {α : Type} [Rep α] (G : List Nat) (w : World) (b o : Nat) (x : α) : Prop :=
 ∃ cs, rep G w cs x ∧ w.rangeAt b o cs ∧ G.Nodup ∧ Wr G w ∧ b ∉ G ∧ ∃ c e, w.heap[b]? = some (.cells c e (0, 0))
structure ChgAt (b o n : Nat) (G : List Nat) (w w' : World) : Prop where
 chg : Chg (b :: G) w w'
 cell : ∀ c e, w.heap[b]? = some (.cells c e (0, 0)) → ∃ c', w'.heap[b]? = some (.cells c' e (0, 0)) ∧ ∀ j, (j < o ∨ o + n ≤ j) → c'[j]? = c[j]?
theorem ChgAt.mono {b o n o' n' : Nat} {G G' : List Nat} {w w' : World} (h : ChgAt b o n G w w') (ho : o' ≤ o) (hn : o + n ≤ o' + n') (hG : ∀ c ∈ G, c ∈ G') : ChgAt b o' n' G' w w' :=
 ⟨h.chg.mono fun x hx => by
   rcases List.mem_cons.1 hx with rfl | hx
   · simp
   · exact List.mem_cons_of_mem _ (hG x hx), fun c e hc => by
   obtain ⟨c', h1, h2⟩ := h.cell c e hc
   exact ⟨c', h1, fun j hj => h2 j (by omega)⟩⟩
section
variable {P : Program} {w w0 : World} {α β : Type} [Rep α] [Rep β]
theorem ChgAt.range {b o n o' : Nat} {G : List Nat} {w' : World} {cs : List Value} (h : ChgAt b o n G w w') (hw : ∃ c e, w.heap[b]? = some (.cells c e (0, 0))) (hr : w.rangeAt b o' cs) (hd : o' + cs.length ≤ o ∨ o + n ≤ o') : w'.rangeAt b o' cs := by
 obtain ⟨c, e, hc⟩ := hw
 obtain ⟨c', h1, h2⟩ := h.cell c e hc
 intro j v hv
 have hj : j < cs.length := (List.getElem?_eq_some_iff.1 hv).1
 have := hr j v hv
 simp only [World.cell?, hc, h1] at this ⊢
 simp only [Option.isSome_none, Bool.false_eq_true, if_false] at this ⊢
 rw [h2 (o' + j) (by omega)]; exact this
theorem OAt.at {G : List Nat} {b o : Nat} {x : α} (h : OAt G w b o x) : At w b o x := by
 obtain ⟨cs, hr, ha, _⟩ := h; exact ⟨G, cs, hr, ha⟩
theorem OAt.lt {G : List Nat} {b o : Nat} {x : α} (h : OAt G w b o x) : b < w.heap.size := by
 obtain ⟨cs, _, _, _, _, _, c, e, hc⟩ := h; exact (Array.getElem?_eq_some_iff.1 hc).1
structure Lens (H : List Nat → World → α → Prop) (S : List Nat) (w : World) (b o : Nat) (G : List Nat) (y : β) (upd : β → α) : Prop where
 here : OAt G w b o y
 sub : ∀ c ∈ b :: G, c ∈ S
 back : ∀ w' G' y', ChgAt b o (Rep.size β) G w w' → OAt G' w' b o y' → (∀ c ∈ G', c ∈ G ∨ c ∉ S) → ∃ F', H F' w' (upd y') ∧ ∀ c ∈ F', c ∈ S ∨ c ∈ G'
abbrev MH (v : Value) : List Nat → World → α → Prop := fun F w x => Mine F w v x
abbrev VH (g : Nat) : List Nat → World → α → Prop := fun F w x => OAt F w g 0 x
theorem Lens.var {F : List Nat} {g : Nat} {x : α} (h : OAt F w g 0 x) : Lens (VH g) (g :: F) w g 0 F x (fun y => y) :=
 ⟨h, fun _ h => h, fun w' G' y' _ hO _ => ⟨G', hO, fun c hc => .inr hc⟩⟩
theorem nodup_mid {F1 F2 G G' : List Nat} {b : Nat} (h : (b :: (F1 ++ (G ++ F2))).Nodup) (hG : G'.Nodup) (hs : ∀ c ∈ G', c ∈ G ∨ c ∉ b :: (F1 ++ (G ++ F2))) : (b :: (F1 ++ (G' ++ F2))).Nodup := by
 rw [List.nodup_cons] at h ⊢
 obtain ⟨hb, h⟩ := h
 rw [List.nodup_append] at h ⊢
 obtain ⟨h1, h2, h3⟩ := h
 rw [List.nodup_append] at h2 ⊢
 obtain ⟨h4, h5, h6⟩ := h2
 refine ⟨fun hm => ?_, h1, ⟨hG, h5, fun a ha c hc e => ?_⟩, fun a ha c hc e => ?_⟩
 · rcases List.mem_append.1 hm with hm | hm
   · exact hb (by simp [hm])
   · rcases List.mem_append.1 hm with hm | hm
     · rcases hs _ hm with h' | h'
       · exact hb (by simp [h'])
       · exact h' (by simp)
     · exact hb (by simp [hm])
 · subst e
   rcases hs _ ha with h' | h'
   · exact h6 a h' a hc rfl
   · exact h' (by simp [hc])
 · subst e
   rcases List.mem_append.1 hc with hc | hc
   · rcases hs _ hc with h' | h'
     · exact h3 a ha a (by simp [h']) rfl
     · exact h' (by simp [ha])
   · exact h3 a ha a (by simp [hc]) rfl
theorem focus {F : List Nat} {v : Value} {l : List α} {k : Nat} (hm : Mine F w v l) (hk : k < l.length) :
   ∃ b a cap G, v = .slice (some ⟨b, a, none⟩) l.length cap ∧ Lens (MH v) F w b (a + k * Rep.size α) G l[k] (fun y => l.set k y) := by
 obtain ⟨⟨cs, ⟨a, cap, Fi, xs, rfl, h1, h2, hc, h4⟩, rfl⟩, hn, hw⟩ := hm
 rcases h4 with ⟨rfl, _⟩ | ⟨b, o, rfl, rfl, hra, hb⟩
 · simp at hk
 have e : l = l.take k ++ (l[k] :: l.drop (k + 1)) := by simp
 have hc' := hc
 rw [e] at hc'
 obtain ⟨F1, F2', x1, x2', hFi, hxs, c1, c2'⟩ := Cells.split hc'
 obtain ⟨G, F2, cg, x2, rfl, rfl, hg, c2⟩ := c2'
 subst hFi hxs
 have hl1 : x1.length = k * Rep.size α := by rw [Cells.len c1, List.length_take]; congr 1; omega
 have hlg := Rep.len hg
 have hn' := hn
 rw [List.nodup_cons] at hn
 obtain ⟨hbn, hn⟩ := hn
 rw [List.nodup_append] at hn
 obtain ⟨hn1, hn2, hn3⟩ := hn
 rw [List.nodup_append] at hn2
 obtain ⟨hnG, hnF2, hn4⟩ := hn2
 obtain ⟨r1, r2⟩ := rangeAt_append hra
 obtain ⟨rg, r3⟩ := rangeAt_append r2
 rw [hl1] at rg r3
 have hwb : ∃ c e, w.heap[b]? = some (.cells c e (0, 0)) := hw b (by simp)
 refine ⟨b, o, cap, G, rfl, ⟨cg, hg, rg, hnG, hw.sub (by simp +contextual), fun h => hbn (by simp [h]), hwb⟩, by simp +contextual, fun w' G' y' hch hO hs => ?_⟩
 obtain ⟨cg', hg', rg', hnG', hwG', hbG', hwb'⟩ := hO
 have hlg' := Rep.len hg'
 have keep1 : ∀ c ∈ F1, w'.heap[c]? = w.heap[c]? := fun c hc1 => by
   refine hch.chg.block c (Cells.lt c1 c hc1) fun hm => ?_
   rcases List.mem_cons.1 hm with rfl | hm
   · exact hbn (by simp [hc1])
   · exact hn3 c hc1 c (by simp [hm]) rfl
 have keep2 : ∀ c ∈ F2, w'.heap[c]? = w.heap[c]? := fun c hc1 => by
   refine hch.chg.block c (Cells.lt c2 c hc1) fun hm => ?_
   rcases List.mem_cons.1 hm with rfl | hm
   · exact hbn (by simp [hc1])
   · exact hn4 c hm c hc1 rfl
 refine ⟨b :: (F1 ++ (G' ++ F2)), ⟨⟨_, ⟨some ⟨b, o, none⟩, cap, F1 ++ (G' ++ F2), x1 ++ (cg' ++ x2), by simp, by simpa using h1, h2, ?_, .inr ⟨b, o, rfl, rfl, ?_, ?_⟩⟩, rfl⟩, nodup_mid hn' hnG' hs, ?_⟩, ?_⟩
 · have : l.set k y' = l.take k ++ (y' :: l.drop (k + 1)) := by rw [List.set_eq_take_append_cons_drop]; simp [hk]
   rw [this]
   exact Cells.append (Cells.keep c1 keep1) ⟨G', F2, cg', x2, rfl, rfl, hg', Cells.keep c2 keep2⟩
 · refine rangeAt_join (hch.range hwb r1 (.inl (by omega))) (rangeAt_join (by rw [hl1]; exact rg') ?_)
   have e3 : o + x1.length + cg'.length = o + k * Rep.size α + cg.length := by omega
   rw [e3]
   exact hch.range hwb r3 (.inr (by omega))
 · obtain ⟨c, e, h⟩ := hwb'; exact (Array.getElem?_eq_some_iff.1 h).1
 · intro c hcm
   rcases List.mem_cons.1 hcm with rfl | hcm
   · exact hwb'
   · rcases List.mem_append.1 hcm with hcm | hcm
     · exact (hw.sub (G := F1) (by simp +contextual)).keep keep1 c hcm
     · rcases List.mem_append.1 hcm with hcm | hcm
       · exact hwG' c hcm
       · exact (hw.sub (G := F2) (by simp +contextual)).keep keep2 c hcm
 · intro c hcm
   rcases List.mem_cons.1 hcm with rfl | hcm
   · exact .inl (by simp)
   · rcases List.mem_append.1 hcm with hcm | hcm
     · exact .inl (by simp [hcm])
     · rcases List.mem_append.1 hcm with hcm | hcm
       · exact .inr hcm
       · exact .inl (by simp [hcm])
section pair
variable {γ : Type}
theorem Lens.fst {H : List Nat → World → γ → Prop} {F : List Nat} {b o : Nat} {G : List Nat} {p : α × β} {upd : α × β → γ} (h : Lens H F w b o G p upd) :
   ∃ G1, Lens H F w b o G1 p.1 (fun y => upd (y, p.2)) := by
 obtain ⟨⟨cs, ⟨G1, G2, c1, c2, rfl, rfl, h1, h2⟩, hr, hn, hw, hb, hwb⟩, hsub, hback⟩ := h
 obtain ⟨r1, r2⟩ := rangeAt_append hr
 have hl1 := Rep.len h1
 have hl2 := Rep.len h2
 have hn' := hn
 rw [List.nodup_append] at hn
 obtain ⟨hn1, hn2, hn3⟩ := hn
 simp only [List.mem_append, not_or] at hb
 refine ⟨G1, ⟨c1, h1, r1, hn1, hw.sub (by simp +contextual), hb.1, hwb⟩, fun c hc => hsub c (by rcases List.mem_cons.1 hc with rfl | hc <;> simp_all), fun w' G' y' hch hO hs => ?_⟩
 obtain ⟨c1', h1', r1', hn1', hw1', hb1', hwb'⟩ := hO
 have keep2 : ∀ c ∈ G2, w'.heap[c]? = w.heap[c]? := fun c hc => by
   refine hch.chg.block c (Rep.lt h2 c hc) fun hm => ?_
   rcases List.mem_cons.1 hm with rfl | hm
   · exact hb.2 hc
   · exact hn3 c hm c hc rfl
 have hs' : ∀ c ∈ G' ++ G2, c ∈ G1 ++ G2 ∨ c ∉ F := fun c hc => by
   rcases List.mem_append.1 hc with hc | hc
   · rcases hs c hc with h | h
     · exact .inl (by simp [h])
     · exact .inr h
   · exact .inl (by simp [hc])
 have hnG : (G' ++ G2).Nodup := by
   rw [List.nodup_append]
   refine ⟨hn1', hn2, fun a ha c hc e => ?_⟩
   subst e
   rcases hs a ha with h | h
   · exact hn3 a h a hc rfl
   · exact h (hsub a (by simp [hc]))
 obtain ⟨F', hM, hF'⟩ := hback w' (G' ++ G2) (y', p.2) (hch.mono (Nat.le_refl _) (by simp only [Rep.size]; omega) (by simp +contextual))
   ⟨c1' ++ c2, ⟨G', G2, c1', c2, rfl, rfl, h1', Rep.keep h2 keep2⟩, rangeAt_join r1' (by
     rw [Rep.len h1', ← hl1]; exact hch.range hwb r2 (.inr (by rw [hl1]; exact Nat.le_refl _))), hnG, hw1'.append ((hw.sub (by simp +contextual)).keep keep2), by simp [hb1', hb.2], hwb'⟩ hs'
 refine ⟨F', hM, fun c hc => ?_⟩
 rcases hF' c hc with h | h
 · exact .inl h
 · rcases List.mem_append.1 h with h | h
   · exact .inr h
   · exact .inl (hsub c (by simp [h]))
theorem Lens.snd {H : List Nat → World → γ → Prop} {F : List Nat} {b o : Nat} {G : List Nat} {p : α × β} {upd : α × β → γ} (h : Lens H F w b o G p upd) :
   ∃ G1, Lens H F w b (o + Rep.size α) G1 p.2 (fun y => upd (p.1, y)) := by
 obtain ⟨⟨cs, ⟨G1, G2, c1, c2, rfl, rfl, h1, h2⟩, hr, hn, hw, hb, hwb⟩, hsub, hback⟩ := h
 obtain ⟨r1, r2⟩ := rangeAt_append hr
 have hl1 := Rep.len h1
 have hl2 := Rep.len h2
 have hn' := hn
 rw [List.nodup_append] at hn
 obtain ⟨hn1, hn2, hn3⟩ := hn
 simp only [List.mem_append, not_or] at hb
 rw [hl1] at r2
 refine ⟨G2, ⟨c2, h2, r2, hn2, hw.sub (by simp +contextual), hb.2, hwb⟩, fun c hc => hsub c (by rcases List.mem_cons.1 hc with rfl | hc <;> simp_all), fun w' G' y' hch hO hs => ?_⟩
 obtain ⟨c2', h2', r2', hn2', hw2', hb2', hwb'⟩ := hO
 have keep1 : ∀ c ∈ G1, w'.heap[c]? = w.heap[c]? := fun c hc => by
   refine hch.chg.block c (Rep.lt h1 c hc) fun hm => ?_
   rcases List.mem_cons.1 hm with rfl | hm
   · exact hb.1 hc
   · exact hn3 c hc c hm rfl
 have hs' : ∀ c ∈ G1 ++ G', c ∈ G1 ++ G2 ∨ c ∉ F := fun c hc => by
   rcases List.mem_append.1 hc with hc | hc
   · exact .inl (by simp [hc])
   · rcases hs c hc with h | h
     · exact .inl (by simp [h])
     · exact .inr h
 have hnG : (G1 ++ G').Nodup := by
   rw [List.nodup_append]
   refine ⟨hn1, hn2', fun a ha c hc e => ?_⟩
   subst e
   rcases hs a hc with h | h
   · exact hn3 a ha a h rfl
   · exact h (hsub a (by simp [ha]))
 obtain ⟨F', hM, hF'⟩ := hback w' (G1 ++ G') (p.1, y') (hch.mono (by omega) (by simp only [Rep.size]; omega) (by simp +contextual))
   ⟨c1 ++ c2', ⟨G1, G', c1, c2', rfl, rfl, Rep.keep h1 keep1, h2'⟩, rangeAt_join (hch.range hwb r1 (.inl (by rw [hl1]; exact Nat.le_refl _))) (by rw [hl1]; exact r2'), hnG, ((hw.sub (by simp +contextual)).keep keep1).append hw2', by simp [hb.1, hb2'], hwb'⟩ hs'
 refine ⟨F', hM, fun c hc => ?_⟩
 rcases hF' c hc with h | h
 · exact .inl h
 · rcases List.mem_append.1 h with h | h
   · exact .inl (hsub c (by simp [h]))
   · exact .inr h
theorem Lens.row {H : List Nat → World → γ → Prop} {F : List Nat} {b o : Nat} {G : List Nat} {l : List β} {upd : List β → γ} (h : Lens H F w b o G l upd) :
   ∃ u, Mine G w u l ∧ w.rangeAt b o [u] ∧ (∀ c ∈ G, c ∈ F) ∧
     ∀ w' G' l', Chg G w w' → Mine G' w' u l' → (∀ c ∈ G', c ∈ G ∨ c ∉ F) → ∃ F', H F' w' (upd l') ∧ ∀ c ∈ F', c ∈ F ∨ c ∈ G' := by
 obtain ⟨⟨cs, hrep, hr, hn, hw, hb, hwb⟩, hsub, hback⟩ := h
 have hcs : ∃ u, cs = [u] := by obtain ⟨a, cap, Fi, xs, rfl, _⟩ := hrep; exact ⟨_, rfl⟩
 obtain ⟨u, rfl⟩ := hcs
 refine ⟨u, ⟨⟨_, hrep, rfl⟩, hn, hw⟩, hr, fun c hc => hsub c (by simp [hc]), fun w' G' l' hch hM hs => ?_⟩
 have hbl : b < w.heap.size := by obtain ⟨c, e, h⟩ := hwb; exact (Array.getElem?_eq_some_iff.1 h).1
 have hbk : w'.heap[b]? = w.heap[b]? := hch.block b hbl hb
 obtain ⟨⟨cs', hrep', hv'⟩, hn', hw'⟩ := hM
 have hcs' : cs' = [u] := by
   obtain ⟨a, cap, Fi, xs, rfl, _⟩ := hrep'
   simp only [mkv, Rep.agg, cond_false, List.headD_cons] at hv'
   rw [hv']
 subst hcs'
 have hbG' : b ∉ G' := fun hm => by
   rcases hs b hm with h | h
   · exact hb h
   · exact h (hsub b (by simp))
 exact hback w' G' l' ⟨hch.mono (by simp +contextual), fun c e hc => ⟨c, by rw [hbk]; exact hc, fun _ _ => rfl⟩⟩
   ⟨_, hrep', rangeAt_keep hr hbk, hn', hw', hbG', by obtain ⟨c, e, h⟩ := hwb; exact ⟨c, e, by rw [hbk]; exact h⟩⟩ hs
end pair
theorem opu_at {t by_ b o : Nat} {G : List Nat} {y y' : β} {u : Value} {G' : List Nat} {K : World → Prop} (ht : tyI P t = some (Rep.size β, by_, Rep.agg β)) (h : OAt G w b o y)
   (hu : OwnF G' w u y') (hn : G'.Nodup) (hwr : Wr G' w) (hb : b ∉ G') (k : ∀ w', ChgAt b o (Rep.size β) [] w w' → OAt G' w' b o y' → K w') : OPU P (Instr.storeAt t (.pointer (some ⟨b, o, none⟩)) u) w K := by
 obtain ⟨us, hr, rfl⟩ := hu
 obtain ⟨cs, hr0, ha, hn0, hw0, hb0, c, e, hc⟩ := h
 have hl0 := Rep.len hr0
 have hlu := Rep.len hr
 have hpos := Rep.pos (α := β)
 have hcell : ∀ j, j < cs.length → c[o + j]? = cs[j]? := by
   intro j hj
   have := ha j cs[j] (by simp [hj])
   simpa [World.cell?, hc, hj] using this
 have hfit : o + Rep.size β ≤ c.size := by
   have hj : cs.length - 1 < cs.length := by omega
   have := hcell (cs.length - 1) hj
   rw [List.getElem?_eq_getElem hj] at this
   have := (Array.getElem?_eq_some_iff.1 this).1
   omega
 have hst := run_storeAt' (P := P) (e := e) (cur := c) ht hr hc hfit
 have hset := setRow_heap w b c ((c.toList.take o ++ us ++ c.toList.drop (o + us.length)).toArray) e _ hc
 refine ⟨_, hst, k _ ⟨(setRow_chg w b _).mono (by simp), fun c1 e1 hc1 => ?_⟩ ?_⟩
 · rw [hc] at hc1
   simp only [Option.some.injEq, Obj.cells.injEq, and_true] at hc1
   obtain ⟨rfl, rfl⟩ := hc1
   refine ⟨_, hset, fun j hj => ?_⟩
   simp only [List.getElem?_toArray]
   rcases hj with hj | hj
   · rw [List.append_assoc, List.getElem?_append_left (by simp only [List.length_take, Array.length_toList]; omega), List.getElem?_take, if_pos hj, Array.getElem?_toList]
   · rw [List.getElem?_append_right (by simp only [List.length_append, List.length_take, Array.length_toList]; omega), List.getElem?_drop, Array.getElem?_toList]
     congr 1
     simp only [List.length_append, List.length_take, Array.length_toList]; omega
 · have hkeep : ∀ x ∈ G', (w.setRow b ((c.toList.take o ++ us ++ c.toList.drop (o + us.length)).toArray)).heap[x]? = w.heap[x]? := fun x hx =>
     (setRow_chg w b _).block x (hwr.lt x hx) (by simp; exact fun e => hb (e ▸ hx))
   refine ⟨us, Rep.keep hr hkeep, fun j v hv => ?_, hn, hwr.keep hkeep, hb, _, e, hset⟩
   have hj : j < us.length := (List.getElem?_eq_some_iff.1 hv).1
   simp only [World.cell?, hset]
   simp only [Option.isSome_none, Bool.false_eq_true, if_false, List.getElem?_toArray]
   rw [List.append_assoc, List.getElem?_append_right (by simp only [List.length_take, Array.length_toList]; omega), List.getElem?_append_left (by simp only [List.length_take, Array.length_toList]; omega), ← hv]
   congr 1
   simp only [List.length_take, Array.length_toList]; omega
theorem opu_lens {t by_ b o : Nat} {H : List Nat → World → α → Prop} {F G : List Nat} {y y' : β} {upd : β → α} {u : Value} {G' : List Nat} {K : World → Prop} (ht : tyI P t = some (Rep.size β, by_, Rep.agg β)) (h : Lens H F w b o G y upd)
   (hu : Mine G' w u y') (hs : ∀ c ∈ G', c ∈ G ∨ c ∉ F) (k : ∀ w', Chg F w w' → (∃ F', H F' w' (upd y') ∧ ∀ c ∈ F', c ∈ F ∨ c ∈ G') → K w') : OPU P (Instr.storeAt t (.pointer (some ⟨b, o, none⟩)) u) w K := by
 have hbG' : b ∉ G' := fun hm => by
   rcases hs b hm with h' | h'
   · obtain ⟨cs, _, _, _, _, hb, _⟩ := h.here; exact hb h'
   · exact h' (h.sub b (by simp))
 refine opu_at ht h.here hu.own hu.nodup hu.wr hbG' fun w' hch hO => k w' (hch.chg.mono fun c hc => h.sub c (by simp at hc; simp [hc])) ?_
 obtain ⟨F', h1, h2⟩ := h.back w' G' y' (hch.mono (Nat.le_refl _) (Nat.le_refl _) (by simp)) hO hs
 exact ⟨F', h1, h2⟩
end
class RepZ (α : Type) [Rep α] where
 zv : α
 zc : List Value
 zr : ∀ w, rep [] w zc zv
instance : RepZ Int := ⟨0, [.int .i64 0], fun _ => ⟨rfl, rfl, by unfold I64; omega⟩⟩
instance : RepZ Bool := ⟨false, [.bool false], fun _ => ⟨rfl, rfl⟩⟩
instance : RepZ ByteArray := ⟨ByteArray.empty, [.string ByteArray.empty], fun _ => ⟨rfl, rfl, Nat.zero_le _⟩⟩
instance {α : Type} [Rep α] : RepZ (List α) := ⟨[], [.slice none 0 0], fun _ => ⟨none, 0, [], [], rfl, Nat.le_refl _, Nat.zero_le _, ⟨rfl, rfl⟩, .inl ⟨rfl, rfl⟩⟩⟩
instance {α β : Type} [Rep α] [Rep β] [RepZ α] [RepZ β] : RepZ (α × β) := ⟨((RepZ.zv : α), (RepZ.zv : β)), RepZ.zc α ++ RepZ.zc β, fun w => ⟨[], [], _, _, rfl, rfl, RepZ.zr w, RepZ.zr w⟩⟩
def OwnI {α : Type} [Rep α] (lo hi : Nat) (w : World) (v : Value) (x : α) : Prop := ∃ F, Mine F w v x ∧ ∀ b ∈ F, lo ≤ b ∧ b < hi
structure ChgI (lo hi : Nat) (w w' : World) : Prop where
 os : w'.os = w.os
 tape : w'.tape = w.tape
 output : w'.output = w.output
 size : w.heap.size ≤ w'.heap.size
 block : ∀ b, b < w.heap.size → (b < lo ∨ hi ≤ b) → w'.heap[b]? = w.heap[b]?
section
variable {w w' : World} {α : Type} [Rep α] {lo hi a b : Nat} {v : Value} {x : α}
theorem Chg.toI {F : List Nat} (h : Chg F w w') (hF : ∀ b ∈ F, lo ≤ b ∧ b < hi) : ChgI lo hi w w' :=
 ⟨h.os, h.tape, h.output, h.size, fun i hi' ho => h.block i hi' fun e => by have := hF i e; omega⟩
theorem Ext.toI (h : Ext w w') : ChgI lo hi w w' := ⟨h.os, h.tape, h.output, h.size, fun i hi' _ => h.block i hi'⟩
theorem ChgI.refl (w : World) : ChgI lo hi w w := ⟨rfl, rfl, rfl, Nat.le_refl _, fun _ _ _ => rfl⟩
theorem ChgI.trans {w'' : World} (h : ChgI lo hi w w') (k : ChgI lo hi w' w'') : ChgI lo hi w w'' :=
 ⟨k.os.trans h.os, k.tape.trans h.tape, k.output.trans h.output, Nat.le_trans h.size k.size, fun i hi' ho => (k.block i (Nat.lt_of_lt_of_le hi' h.size) ho).trans (h.block i hi' ho)⟩
theorem ChgI.mono {lo' hi' : Nat} (h : ChgI lo hi w w') (h1 : lo' ≤ lo) (h2 : hi ≤ hi') : ChgI lo' hi' w w' :=
 ⟨h.os, h.tape, h.output, h.size, fun i hi' ho => h.block i hi' (by omega)⟩
theorem Ext.chgI {c : World} (h : Ext w w') (k : ChgI lo hi w' c) (hl : w.heap.size ≤ lo) : Ext w c :=
 ⟨k.os.trans h.os, k.tape.trans h.tape, k.output.trans h.output, Nat.le_trans h.size k.size, fun i hi' => (k.block i (Nat.lt_of_lt_of_le hi' h.size) (by omega)).trans (h.block i hi')⟩
theorem Own.toI (h : Own lo w v x) : OwnI lo w.heap.size w v x := by
 obtain ⟨F, hm, hl⟩ := h; exact ⟨F, hm, fun b hb => ⟨hl b hb, hm.lt b hb⟩⟩
theorem OwnI.own (h : OwnI lo hi w v x) : Own lo w v x := by
 obtain ⟨F, hm, hl⟩ := h; exact ⟨F, hm, fun b hb => (hl b hb).1⟩
theorem OwnI.is (h : OwnI lo hi w v x) : Is w v x := by obtain ⟨F, hm, _⟩ := h; exact hm.is
theorem OwnI.ext (h : OwnI lo hi w v x) (hx : Ext w w') : OwnI lo hi w' v x := by obtain ⟨F, hm, hl⟩ := h; exact ⟨F, hm.ext hx, hl⟩
theorem OwnI.chg (h : OwnI lo hi w v x) (hc : ChgI a b w w') (hd : hi ≤ a ∨ b ≤ lo) : OwnI lo hi w' v x := by
 obtain ⟨F, hm, hl⟩ := h
 exact ⟨F, hm.keep fun c hcm => hc.block c (hm.lt c hcm) (by have := hl c hcm; omega), hl⟩
theorem OwnI.mono {lo' hi' : Nat} (h : OwnI lo hi w v x) (h1 : lo' ≤ lo) (h2 : hi ≤ hi') : OwnI lo' hi' w v x := by
 obtain ⟨F, hm, hl⟩ := h; exact ⟨F, hm, fun b hb => by have := hl b hb; omega⟩
def VarI {α : Type} [Rep α] (lo hi : Nat) (w : World) (g : Nat) (x : α) : Prop := ∃ F, OAt F w g 0 x ∧ ∀ b ∈ F, lo ≤ b ∧ b < hi
theorem OAt.keep {F : List Nat} {g o : Nat} (h : OAt F w g o x) (hk : ∀ c ∈ g :: F, w'.heap[c]? = w.heap[c]?) : OAt F w' g o x := by
 obtain ⟨cs, hr, ha, hn, hw, hb, c, e, hc⟩ := h
 have hg := hk g (by simp)
 exact ⟨cs, Rep.keep hr fun b hb => hk b (by simp [hb]), rangeAt_keep ha hg, hn, hw.keep fun b hb => hk b (by simp [hb]), hb, c, e, by rw [hg]; exact hc⟩
theorem VarI.lt {g : Nat} (h : VarI lo hi w g x) : g < w.heap.size := by obtain ⟨F, h, _⟩ := h; exact h.lt
theorem OAt.lts {F : List Nat} {g o : Nat} (h : OAt F w g o x) : ∀ c ∈ g :: F, c < w.heap.size := by
 intro c hc
 rcases List.mem_cons.1 hc with rfl | hc
 · exact h.lt
 · obtain ⟨cs, hr, _⟩ := h; exact Rep.lt hr c hc
theorem VarI.ext {g : Nat} (h : VarI lo hi w g x) (hx : Ext w w') : VarI lo hi w' g x := by
 obtain ⟨F, h, hl⟩ := h
 exact ⟨F, h.keep fun c hc => hx.heap (h.lts c hc), hl⟩
theorem VarI.chg {g : Nat} (h : VarI lo hi w g x) (hc : ChgI a b w w') (hd : hi ≤ a ∨ b ≤ lo) (hg : g < a ∨ b ≤ g) : VarI lo hi w' g x := by
 obtain ⟨F, h, hl⟩ := h
 refine ⟨F, h.keep fun c hcm => hc.block c (h.lts c hcm) ?_, hl⟩
 rcases List.mem_cons.1 hcm with rfl | hcm
 · omega
 · have := hl c hcm; omega
theorem VarI.at {g : Nat} (h : VarI lo hi w g x) : At w g 0 x := by obtain ⟨F, h, _⟩ := h; exact h.at
theorem VarI.own {g : Nat} (h : VarI lo hi w g x) : ∃ v, OwnI lo hi w v x ∧ ∃ cs F, Rep.rep F w cs x ∧ w.rangeAt g 0 cs ∧ v = mkv α cs := by
 obtain ⟨F, ⟨cs, hr, ha, hn, hw, _⟩, hl⟩ := h
 exact ⟨mkv α cs, ⟨F, ⟨⟨cs, hr, rfl⟩, hn, hw⟩, hl⟩, cs, F, hr, ha, rfl⟩
section
variable {P : Program} {w0 : World}
theorem op_varZ [RepZ α] {e : TypeId} {K : Value → World → Prop} (hz : zeroL P e = some (RepZ.zc α))
   (k : ∀ w', Ext w w' → VarI w'.heap.size w'.heap.size w' w.heap.size ((RepZ.zv : α)) → K (.pointer (some ⟨w.heap.size, 0, none⟩)) w') : OP P (Instr.alloc e true (.tuple #[])) w K :=
 op_alloc hz fun w' hx hB => k w' hx ⟨[], ⟨RepZ.zc α, RepZ.zr w', hB.range, List.nodup_nil, Wr.nil _, by simp, _, _, hB⟩, by simp⟩
theorem rd_varI {t by_ g : Nat} {K : Value → Prop} (ht : tyI P t = some (Rep.size α, by_, Rep.agg α)) (h : VarI lo hi w0 g x) (hx : Ext w0 w) (k : ∀ v, OwnI lo hi w0 v x → K v) :
   RD P (Instr.loadAt t (.pointer (some ⟨g, 0, none⟩))) w K := by
 obtain ⟨v, ho, cs, F, hr, ha, rfl⟩ := h.own
 exact rd_of (fun w' hx' => run_loadAt' ht (rep_ext hr (hx.trans hx')) (rangeAt_ext ha (hx.trans hx'))) (k _ ho)
theorem rd_varRI {t by_ g : Nat} {K : Value → Prop} (ht : tyI P t = some (Rep.size α, by_, Rep.agg α)) (h : VarI lo hi w0 g x) (hx : Ext w0 w) (k : ∀ v, OwnI lo hi w0 v x → K v) :
   RD P (loadRes t (.pointer (some ⟨g, 0, none⟩))) w K := by
 obtain ⟨v, ho, cs, F, hr, ha, rfl⟩ := h.own
 refine rd_of (fun w' hx' => ?_) (k _ ho)
 have := run_loadAt' ht (rep_ext hr (hx.trans hx')) (rangeAt_ext ha (hx.trans hx'))
 simpa [loadRes, asAddr, Instr.loadAt, Instr.sureAddr] using this
theorem opu_varF {β : Type} [Rep β] {t by_ g o : Nat} {F G : List Nat} {y y' : β} {upd : β → α} {u : Value} {lo2 hi2 : Nat} {K : World → Prop} (ht : tyI P t = some (Rep.size β, by_, Rep.agg β)) (hL : Lens (VH g) (g :: F) w g o G y upd) (hF : ∀ b ∈ F, lo ≤ b ∧ b < hi)
   (hu : OwnI lo2 hi2 w u y') (h1 : hi ≤ lo2) (h2 : g < lo2) (k : ∀ w', ChgI g (g + 1) w w' → (∀ lo', lo' ≤ lo → lo' ≤ lo2 → ∀ hi', hi ≤ hi' → hi2 ≤ hi' → VarI lo' hi' w' g (upd y')) → K w') : OPU P (Instr.storeAt t (.pointer (some ⟨g, o, none⟩)) u) w K := by
 obtain ⟨G', hM, hG'⟩ := hu
 have hs : ∀ c ∈ G', c ∈ G ∨ c ∉ g :: F := fun c hc => .inr fun hm => by
   have := hG' c hc
   rcases List.mem_cons.1 hm with rfl | hm
   · omega
   · have := hF c hm; omega
 have hgG' : g ∉ G' := fun h => by have := hG' g h; omega
 refine opu_at ht hL.here hM.own hM.nodup hM.wr hgG' fun w' hch hO => k w' (hch.chg.toI (by simp)) ?_
 obtain ⟨F', h3, h4⟩ := hL.back w' G' y' (hch.mono (Nat.le_refl _) (Nat.le_refl _) (by simp)) hO hs
 intro lo' hl1 hl2 hi' hh1 hh2
 refine ⟨F', h3, fun c hc => ?_⟩
 rcases h4 c hc with h | h
 · rcases List.mem_cons.1 h with rfl | h
   · obtain ⟨_, _, _, _, _, hn, _⟩ := h3; exact absurd hc hn
   · have := hF c h; omega
 · have := hG' c h; omega
theorem opu_varA {t by_ g : Nat} {x0 : α} {lo0 hi0 : Nat} {u : Value} {K : World → Prop} (ht : tyI P t = some (Rep.size α, by_, Rep.agg α)) (hv : VarI lo0 hi0 w g x0) (hu : OwnI lo hi w u x) (hg : g < lo ∨ hi ≤ g)
   (k : ∀ w', ChgI g (g + 1) w w' → VarI lo hi w' g x → K w') : OPU P (Instr.storeAt t (.pointer (some ⟨g, 0, none⟩)) u) w K := by
 obtain ⟨F, hO, _⟩ := hv
 obtain ⟨G', hM, hG'⟩ := hu
 have hgG' : g ∉ G' := fun h => by have := hG' g h; omega
 exact opu_at ht hO hM.own hM.nodup hM.wr hgG' fun w' hch hO' => k w' (hch.chg.toI (by simp)) ⟨G', hO', hG'⟩
end
theorem ownI_int {x : Int} (h : I64 x) : OwnI lo hi w (.int .i64 x) x := ⟨[], ⟨⟨_, ⟨rfl, rfl, h⟩, rfl⟩, List.nodup_nil, Wr.nil w⟩, by simp⟩
theorem ownI_str {x : ByteArray} (h : x.size ≤ maxLen) : OwnI lo hi w (.string x) x := ⟨[], ⟨⟨_, ⟨rfl, rfl, h⟩, rfl⟩, List.nodup_nil, Wr.nil w⟩, by simp⟩
end
end Go.Sh
namespace Go.Sh
set_option linter.unusedVariables false
set_option linter.unusedSimpArgs false
open Rep (rep)
section
variable {w : World} {b o : Nat}
end
structure DRace where
 g : Int
 a : Int
 b : Int
theorem DRace.ext_iff {x y : DRace} : x = y ↔ (x.g = y.g ∧ x.a = y.a ∧ x.b = y.b) := ⟨fun h => by rw [h]; exact ⟨rfl, rfl, rfl⟩, fun h => by obtain ⟨h0, h1, h2⟩ := h; cases x; cases y; simp only at h0 h1 h2; simp only [h0, h1, h2]⟩
instance : DecidableEq DRace := fun x y => decidable_of_iff (x.g = y.g ∧ x.a = y.a ∧ x.b = y.b) DRace.ext_iff.symm
instance : Rep DRace := Rep.via fun x => (x.g, x.a, x.b)
theorem at_DRace_0 {w : World} {b o : Nat} {x : DRace} (h : At w b o x) : At w b (o + 0) x.g := at_fst (α := Int) (β := Int × Int) (p := (x.g, x.a, x.b)) h
theorem at_DRace_1 {w : World} {b o : Nat} {x : DRace} (h : At w b o x) : At w b (o + 1) x.a := at_fst (α := Int) (β := Int) (p := (x.a, x.b)) (at_snd (α := Int) (β := Int × Int) (p := (x.g, x.a, x.b)) h)
theorem at_DRace_2 {w : World} {b o : Nat} {x : DRace} (h : At w b o x) : At w b (o + 2) x.b := at_snd (α := Int) (β := Int) (p := (x.a, x.b)) (at_snd (α := Int) (β := Int × Int) (p := (x.g, x.a, x.b)) h)
instance : RepZ DRace := ⟨⟨(RepZ.zv : Int), (RepZ.zv : Int), (RepZ.zv : Int)⟩, RepZ.zc (Int × Int × Int), fun w => RepZ.zr (α := Int × Int × Int) w⟩
theorem lens_DRace_0 {γ : Type} {H : List Nat → World → γ → Prop} {F : List Nat} {w : World} {b o : Nat} {G : List Nat} {x : DRace} {upd : DRace → γ} (h : Lens H F w b o G x upd) :
   ∃ G1, Lens H F w b (o + 0) G1 x.g (fun y => upd ⟨y, x.a, x.b⟩) := by
 have h' : Lens H F w b o G (x.g, x.a, x.b) (fun p : Int × Int × Int => upd ⟨p.1, p.2.1, p.2.2⟩) := ⟨h.here, h.sub, fun w' G' y' hc hO hs => h.back w' G' _ hc hO hs⟩
 obtain ⟨G0, h'⟩ := h'.fst
 exact ⟨_, h'⟩
theorem lens_DRace_1 {γ : Type} {H : List Nat → World → γ → Prop} {F : List Nat} {w : World} {b o : Nat} {G : List Nat} {x : DRace} {upd : DRace → γ} (h : Lens H F w b o G x upd) :
   ∃ G1, Lens H F w b (o + 1) G1 x.a (fun y => upd ⟨x.g, y, x.b⟩) := by
 have h' : Lens H F w b o G (x.g, x.a, x.b) (fun p : Int × Int × Int => upd ⟨p.1, p.2.1, p.2.2⟩) := ⟨h.here, h.sub, fun w' G' y' hc hO hs => h.back w' G' _ hc hO hs⟩
 obtain ⟨G0, h'⟩ := h'.snd
 obtain ⟨G1, h'⟩ := h'.fst
 exact ⟨_, h'⟩
theorem lens_DRace_2 {γ : Type} {H : List Nat → World → γ → Prop} {F : List Nat} {w : World} {b o : Nat} {G : List Nat} {x : DRace} {upd : DRace → γ} (h : Lens H F w b o G x upd) :
   ∃ G1, Lens H F w b (o + 2) G1 x.b (fun y => upd ⟨x.g, x.a, y⟩) := by
 have h' : Lens H F w b o G (x.g, x.a, x.b) (fun p : Int × Int × Int => upd ⟨p.1, p.2.1, p.2.2⟩) := ⟨h.here, h.sub, fun w' G' y' hc hO hs => h.back w' G' _ hc hO hs⟩
 obtain ⟨G0, h'⟩ := h'.snd
 obtain ⟨G1, h'⟩ := h'.snd
 exact ⟨_, h'⟩
instance : Flat DRace := ⟨fun h => Flat.flat (α := Int × Int × Int) h⟩
structure DState where
 vars : List Int
 owner : List Int
 stacks : List (List Int)
theorem DState.ext_iff {x y : DState} : x = y ↔ (x.vars = y.vars ∧ x.owner = y.owner ∧ x.stacks = y.stacks) := ⟨fun h => by rw [h]; exact ⟨rfl, rfl, rfl⟩, fun h => by obtain ⟨h0, h1, h2⟩ := h; cases x; cases y; simp only at h0 h1 h2; simp only [h0, h1, h2]⟩
instance : DecidableEq DState := fun x y => decidable_of_iff (x.vars = y.vars ∧ x.owner = y.owner ∧ x.stacks = y.stacks) DState.ext_iff.symm
instance : Rep DState := Rep.via fun x => (x.vars, x.owner, x.stacks)
instance : RepZ DState := ⟨⟨(RepZ.zv : List Int), (RepZ.zv : List Int), (RepZ.zv : List (List Int))⟩, RepZ.zc ((List Int) × (List Int) × (List (List Int))), fun w => RepZ.zr (α := (List Int) × (List Int) × (List (List Int))) w⟩
section
variable {w : World} {b o : Nat}
theorem is_race {v : Value} {x : DRace} : Is w v x ↔ v = .agg #[.int .i64 x.g, .int .i64 x.a, .int .i64 x.b] ∧ I64 x.g ∧ I64 x.a ∧ I64 x.b := by
 constructor
 · rintro ⟨F, cs, ⟨F1, F2, c1, c2, rfl, rfl, ⟨rfl, rfl, h1⟩, ⟨F3, F4, c3, c4, rfl, rfl, ⟨rfl, rfl, h2⟩, ⟨rfl, rfl, h3⟩⟩⟩, rfl⟩
   exact ⟨rfl, h1, h2, h3⟩
 · rintro ⟨rfl, h1, h2, h3⟩
   exact ⟨[], [.int .i64 x.g, .int .i64 x.a, .int .i64 x.b], ⟨[], [], [.int .i64 x.g], [.int .i64 x.a, .int .i64 x.b], rfl, rfl, ⟨rfl, rfl, h1⟩, [], [], [.int .i64 x.a], [.int .i64 x.b], rfl, rfl, ⟨rfl, rfl, h2⟩, ⟨rfl, rfl, h3⟩⟩, rfl⟩
theorem mine_race {x : DRace} (h1 : I64 x.g) (h2 : I64 x.a) (h3 : I64 x.b) : Mine [] w (.agg #[.int .i64 x.g, .int .i64 x.a, .int .i64 x.b]) x :=
 ⟨⟨[.int .i64 x.g, .int .i64 x.a, .int .i64 x.b], ⟨[], [], [.int .i64 x.g], [.int .i64 x.a, .int .i64 x.b], rfl, rfl, ⟨rfl, rfl, h1⟩, [], [], [.int .i64 x.a], [.int .i64 x.b], rfl, rfl, ⟨rfl, rfl, h2⟩, ⟨rfl, rfl, h3⟩⟩, rfl⟩, List.nodup_nil, Wr.nil w⟩
end
end Go.Sh
namespace Go.Proofs.YtjgfldfbljmhhaaGreat
open Go Go.Sh Go.Proofs
set_option linter.unusedVariables false
set_option linter.unusedSimpArgs false
open Rep (rep)
theorem rd_neqB {P : Program} {w : World} {K : Value → Prop} {t : TypeId} {x y : Operand} {a b : Bool} (ht : P.underlying t = some .bool) (k : K (.bool (decide (a ≠ b)))) : RD P (bin .neq t x y (.bool a) (.bool b)) w K :=
 rd_of (fun w' _ => by
   have := run_neq_bool (P := P) w' t a b ht
   cases a <;> cases b <;> simp_all [bin, eqGuard]) k
def sm {α : Type} (f : α → Nat) (l : List α) : Nat := (l.map f).sum
theorem sm_take {α : Type} (f : α → Nat) {l : List α} {k : Nat} (h : k < l.length) : sm f (l.take (k + 1)) = sm f (l.take k) + f l[k] := by
 unfold sm
 rw [List.take_succ_eq_append_getElem h, List.map_append, List.sum_append]
 simp
theorem sm_mem {α : Type} (f : α → Nat) {l : List α} {x : α} (h : x ∈ l) : f x ≤ sm f l := by
 unfold sm
 induction l with
 | nil => cases h
 | cons y l ih =>
   rw [List.map_cons, List.sum_cons]
   rcases List.mem_cons.1 h with rfl | h
   · omega
   · have := ih h; omega
theorem eqIntS_ok2 {w w1 w2 : World} {v1 v2 : Value} {l1 l2 : List Int} (h1 : Is w1 v1 l1) (hx1 : Ext w1 w) (h2 : Is w2 v2 l2) (hx2 : Ext w2 w) :
   CALL Tryz.prog 23 [v1, v2] w fun r w' => Ext w w' ∧ r = .bool (decide (l1 = l2)) := eqIntS_ok h1 h2 hx1 hx2
def F52 (a0 a1 : Value) (w : World) (R : VW) : Prop :=
 RD tp (ln 23 3 a0) w fun x7 =>
 RD tp (bin .sub 3 T0 T0 a1 x7) w fun x8 =>
 RD tp (bin .lss 3 T0 U0 x8 (Value.int .i64 0)) w fun x10 =>
 BR x10
 (R (Value.int .i64 (-1)) w)
 (R x8 w)
def cfg52 : Cfg := ⟨extL, [], [], [], [], [], []⟩
theorem F52_eq (a0 a1 : Value) (w : World) (R : VW) : vcF Tryz.prog cfg52 Tryz.f52 [a0, a1] w R = F52 a0 a1 w R := by kernel_rfl
theorem F52_call {a0 a1 : Value} {w : World} {R : VW} (h : F52 a0 a1 w R) : CALL Tryz.prog 52 [a0, a1] w R :=
 call_of (g := cfg52) ent mixed Tryz.func52 (Nat.le_of_ble_eq_true (by kernel_rfl)) (by kernel_rfl) (F52_eq a0 a1 w R ▸ h)
theorem szIntS_ok {w : World} {v0 : Value} {W0 : World} {l : (List Int)} {left : Int}  (h0 : Is W0 v0 l) (e0 : Ext W0 w) (hl0 : -1 ≤ left) (hl1 : left ≤ 1048576) :
   CALL Tryz.prog 52 [v0, .int .i64 left] w fun r w' => Ext w w' ∧ (∃ n : Int, r = .int .i64 n ∧ -1 ≤ n ∧ n ≤ left ∧ (0 ≤ n → n + l.length ≤ left)) := by
 refine F52_call ?_
 unfold F52
 have hl := is_len h0
 have hln7 := is_len h0
 refine rd_len u23 h0 ?_
 refine rd_sub (by unfold I64; omega) ?_
 refine rd_lss ?_
 refine br (fun c1 => ?_) (fun c1 => ?_)
 · refine ⟨Ext.refl w, ?_⟩
   exact ⟨-1, rfl, by omega, by omega, by omega⟩
 · refine ⟨Ext.refl w, ?_⟩
   exact ⟨_, rfl, by omega, by omega, by omega⟩
def F103 (a0 a1 : Value) (w : World) (R : VW) : Prop :=
 OP tp (Instr.box 109 a0) w fun x2 w =>
 OP tp (Instr.box 109 a1) w fun x3 w =>
 RD tp (Instr.fieldAt 109 x2 0) w fun x5 =>
 RD tp (Instr.loadAt 3 x5) w fun x6 =>
 RD tp (Instr.fieldAt 109 x3 0) w fun x7 =>
 RD tp (Instr.loadAt 3 x7) w fun x8 =>
 RD tp (bin .neq 3 T0 T0 x6 x8) w fun x9 =>
 BR x9
 (R (Value.bool false) w)
 (RD tp (Instr.fieldAt 109 x2 1) w fun x10 =>
 RD tp (Instr.loadAt 3 x10) w fun x11 =>
 RD tp (Instr.fieldAt 109 x3 1) w fun x12 =>
 RD tp (Instr.loadAt 3 x12) w fun x13 =>
 RD tp (bin .neq 3 T0 T0 x11 x13) w fun x14 =>
 BR x14
 (R (Value.bool false) w)
 (RD tp (Instr.fieldAt 109 x2 2) w fun x15 =>
 RD tp (Instr.loadAt 3 x15) w fun x16 =>
 RD tp (Instr.fieldAt 109 x3 2) w fun x17 =>
 RD tp (Instr.loadAt 3 x17) w fun x18 =>
 RD tp (bin .neq 3 T0 T0 x16 x18) w fun x19 =>
 BR x19
 (R (Value.bool false) w)
 (R (Value.bool true) w)))
def cfg103 : Cfg := ⟨extL, [], [], [], [], [], []⟩
theorem F103_eq (a0 a1 : Value) (w : World) (R : VW) : vcF Tryz.prog cfg103 Tryz.f103 [a0, a1] w R = F103 a0 a1 w R := by kernel_rfl
theorem F103_call {a0 a1 : Value} {w : World} {R : VW} (h : F103 a0 a1 w R) : CALL Tryz.prog 103 [a0, a1] w R :=
 call_of (g := cfg103) ent mixed Tryz.func103 (Nat.le_of_ble_eq_true (by kernel_rfl)) (by kernel_rfl) (F103_eq a0 a1 w R ▸ h)
theorem eqRace_ok {w : World} {v0 : Value} {W0 : World} {s1 : DRace} {v1 : Value} {W1 : World} {s2 : DRace}  (h0 : Is W0 v0 s1) (e0 : Ext W0 w) (h1 : Is W1 v1 s2) (e1 : Ext W1 w)  :
   CALL Tryz.prog 103 [v0, v1] w fun r w' => Ext w w' ∧ (r = .bool (decide (s1 = s2))) := by
 refine F103_call ?_
 unfold F103
 refine op_boxS ty109 rfl h0 e0 fun w1_ hx1_ hA2 hV2 => ?_
 refine op_boxS ty109 rfl h1 (e1.trans hx1_) fun w2_ hx2_ hA3 hV3 => ?_
 refine rd_fld fd109_0 ?_
 refine rd_loadI ty3 (at_DRace_0 hA2) hx2_ fun hI6 => ?_
 refine rd_fld fd109_0 ?_
 refine rd_loadI ty3 (at_DRace_0 hA3) (Ext.refl w2_) fun hI8 => ?_
 refine rd_neq ?_
 refine br (fun c1 => ?_) (fun c1 => ?_)
 · refine ⟨(hx1_.trans hx2_), ?_⟩
   have : s1 ≠ s2 := fun e => c1 (by rw [e])
   simp [this]
 · refine rd_fld fd109_1 ?_
   refine rd_loadI ty3 (at_DRace_1 hA2) hx2_ fun hI11 => ?_
   refine rd_fld fd109_1 ?_
   refine rd_loadI ty3 (at_DRace_1 hA3) (Ext.refl w2_) fun hI13 => ?_
   refine rd_neq ?_
   refine br (fun c2 => ?_) (fun c2 => ?_)
   · refine ⟨(hx1_.trans hx2_), ?_⟩
     have : s1 ≠ s2 := fun e => c2 (by rw [e])
     simp [this]
   · refine rd_fld fd109_2 ?_
     refine rd_loadI ty3 (at_DRace_2 hA2) hx2_ fun hI16 => ?_
     refine rd_fld fd109_2 ?_
     refine rd_loadI ty3 (at_DRace_2 hA3) (Ext.refl w2_) fun hI18 => ?_
     refine rd_neq ?_
     refine br (fun c3 => ?_) (fun c3 => ?_)
     · refine ⟨(hx1_.trans hx2_), ?_⟩
       have : s1 ≠ s2 := fun e => c3 (by rw [e])
       simp [this]
     · refine ⟨(hx1_.trans hx2_), ?_⟩
       have : s1 = s2 := by
         cases s1; cases s2
         simp only [ne_eq, Decidable.not_not] at c1 c2 c3
         rw [c1, c2, c3]
       simp [this]
def F41 (a0 a1 : Value) (w : World) (R : VW) : Prop :=
 RD tp (ln 58 3 a0) w fun x7 =>
 RD tp (ln 58 3 a1) w fun x9 =>
 RD tp (bin .neq 3 T0 T0 x7 x9) w fun x10 =>
 BR x10
 (R (Value.bool false) w)
 (LOOPI [5] [(Value.int .i64 0)] w fun u4 w next4 =>
 RD tp (ln 58 3 a0) w fun x13 =>
 RD tp (bin .lss 3 T0 T0 (u4 5) x13) w fun x14 =>
 BR x14
 ((fun w => RD tp (Instr.indexAt 58 a0 (u4 5)) w fun x19 =>
 RD tp (Instr.loadAt 109 x19) w fun x20 =>
 RD tp (Instr.indexAt 58 a1 (u4 5)) w fun x23 =>
 RD tp (Instr.loadAt 109 x23) w fun x24 =>
 CALL tp 103 [x20, x24] w fun x25 w =>
 RD tp (Op.unary .not x25) w fun x26 =>
 BR x26
 (R (Value.bool false) w)
 (RD tp (bin .add 3 T0 U0 (u4 5) (Value.int .i64 1)) w fun x16 =>
 next4 [x16] w)) (World.drew1 w))
 (R (Value.bool true) w))
def cfg41 : Cfg := ⟨extL, [], [(4, 134215728, [5])], [(6, [0, 1, 2, 3, 4, 5, 6, 7, 8, 9], 0)], [], [], []⟩
theorem F41_eq (a0 a1 : Value) (w : World) (R : VW) : vcF Tryz.prog cfg41 Tryz.f41 [a0, a1] w R = F41 a0 a1 w R := by kernel_rfl
theorem F41_call {a0 a1 : Value} {w : World} {R : VW} (h : F41 a0 a1 w R) : CALL Tryz.prog 41 [a0, a1] w R :=
 call_of (g := cfg41) ent mixed Tryz.func41 (Nat.le_of_ble_eq_true (by kernel_rfl)) (by kernel_rfl) (F41_eq a0 a1 w R ▸ h)
theorem eqRaceS_ok {w : World} {v0 : Value} {W0 : World} {l1 : (List DRace)} {v1 : Value} {W1 : World} {l2 : (List DRace)}  (h0 : Is W0 v0 l1) (e0 : Ext W0 w) (h1 : Is W1 v1 l2) (e1 : Ext W1 w)  :
   CALL Tryz.prog 41 [v0, v1] w fun r w' => Ext w w' ∧ (r = .bool (decide (l1 = l2))) := by
 refine F41_call ?_
 unfold F41
 have hl1 := is_len h0
 have hln7 := is_len h0
 refine rd_len u58 h0 ?_
 have hln9 := is_len h1
 refine rd_len u58 h1 ?_
 refine rd_neq ?_
 refine br (fun c1 => ?_) (fun c1 => ?_)
 · refine ⟨Ext.refl w, ?_⟩
   have : l1 ≠ l2 := fun e => c1 (by rw [e])
   simp [this]
 · refine loopC (l1.length) (fun k us w' => us = [.int .i64 (k : Int)] ∧ Ext w w' ∧ (l1.take k = l2.take k)) (0) (by omega) ⟨by simp, Ext.refl w, by simp⟩ ?_
   rintro k m4 uu4 w1_ hk4 ⟨hu, hx1_, hinv⟩
   simp only [List.map_cons, List.map_nil, List.cons.injEq, and_true] at hu
   try rw [hu]
   try clear hu
   have hln13 := is_len h0
   refine rd_len u58 h0 ?_
   refine rd_lss ?_
   refine br (fun c2 => ?_) (fun c2 => ?_)
   · have hx2_ := ext_drew w1_
     refine rd_indexN u58 ty109 h0 (by omega) fun b19 o19 h19 => ?_
     refine rd_load ty109 h19 (e0.trans (hx1_.trans hx2_)) fun v20 h20 => ?_
     refine rd_indexN u58 ty109 h1 (by omega) fun b23 o23 h23 => ?_
     refine rd_load ty109 h23 (e1.trans (hx1_.trans hx2_)) fun v24 h24 => ?_
     refine (eqRace_ok h20 (e0.trans (hx1_.trans hx2_)) h24 (e1.trans (hx1_.trans hx2_))).mono ?_
     rintro _ w3_ ⟨hx3_, rfl⟩
     refine rd_nodec ?_
     refine br (fun c3 => ?_) (fun c3 => ?_)
     · refine ⟨(hx1_.trans (hx2_.trans hx3_)), ?_⟩
       have : l1 ≠ l2 := fun e => c3 (by subst e; rfl)
       simp [this]
     · refine rd_inc (by omega) ?_
       refine ⟨m4 - 1, by omega, k + 1, by omega, by simp, (hx1_.trans (hx2_.trans hx3_)), ?_⟩
       rw [List.take_succ_eq_append_getElem (by omega), List.take_succ_eq_append_getElem (by omega), hinv, Decidable.not_not.1 c3]
   · refine ⟨hx1_, ?_⟩
     rw [List.take_of_length_le (by omega), List.take_of_length_le (by omega)] at hinv
     simp [hinv]
def F122 (a0 a1 a2 : Value) (w : World) (R : VW) : Prop :=
 RD tp (bin .geq 3 T0 T0 a0 a1) w fun x9 =>
 BR x9
 (RD tp (bin .leq 3 T0 T0 a0 a2) w fun x13 =>
 R x13 w)
 (R (Value.bool false) w)
def cfg122 : Cfg := ⟨extL, [], [], [], [], [], []⟩
theorem F122_eq (a0 a1 a2 : Value) (w : World) (R : VW) : vcF Tryz.prog cfg122 Tryz.f122 [a0, a1, a2] w R = F122 a0 a1 a2 w R := by kernel_rfl
theorem F122_call {a0 a1 a2 : Value} {w : World} {R : VW} (h : F122 a0 a1 a2 w R) : CALL Tryz.prog 122 [a0, a1, a2] w R :=
 call_of (g := cfg122) ent mixed Tryz.func122 (Nat.le_of_ble_eq_true (by kernel_rfl)) (by kernel_rfl) (F122_eq a0 a1 a2 w R ▸ h)
theorem l01In_ok {w : World} {a : Int} {b : Int} {c : Int}    :
   CALL Tryz.prog 122 [.int .i64 a, .int .i64 b, .int .i64 c] w fun r w' => Ext w w' ∧ (r = .bool (decide (b ≤ a ∧ a ≤ c))) := by
 refine F122_call ?_
 unfold F122
 refine rd_geq ?_
 refine br (fun c1 => ?_) (fun c1 => ?_)
 · refine rd_leq ?_
   refine ⟨Ext.refl w, ?_⟩
   simp [c1]
 · refine ⟨Ext.refl w, ?_⟩
   simp [c1]
def atOf (s : DState) (t : Int) : Int := if h : 0 ≤ t ∧ t.toNat < s.stacks.length then (s.stacks[t.toNat]'h.2).getLastD (-1) else -1
end Go.Proofs.YtjgfldfbljmhhaaGreat
namespace Go.Sh
set_option linter.unusedVariables false
set_option linter.unusedSimpArgs false
open Rep (rep)
def Reads (P : Program) (t : TypeId) (α : Type) [Rep α] (n : Nat) : Prop :=
 ∀ (H : Type) (enc : TypeId × Value → H) (w : World) (spare : Nat → Bool) (held : Bool) (cs : List Value) (y : DataW H × List MemPlace), DataW.trod enc P w 0 spare held n t cs = some y → ∃ F x, rep F w cs (x : α)
section
variable {P : Program} {t : TypeId}
theorem reads_int (ht : P.underlying t = some (.int .i64)) (n : Nat) : Reads P t Int n := by
 intro H enc w spare held cs y h
 obtain ⟨m, rfl, _, hw⟩ := DataW.trod_int ht h
 refine ⟨[], m, rfl, rfl, ?_⟩
 simpa [Lit.wf, IntKind.min, IntKind.max, IntKind.signed, IntKind.bits, I64] using hw
theorem reads_str (ht : P.underlying t = some .string) (n : Nat) : Reads P t ByteArray n := by
 intro H enc w spare held cs y h
 obtain ⟨s, rfl, _, hs⟩ := DataW.trod_string ht h
 exact ⟨[], s, rfl, rfl, hs⟩
theorem mapM_some {α β : Type} {f : α → Option β} : ∀ {l : List α} {r : List β}, l.mapM f = some r → l.length = r.length ∧ ∀ (i : Nat) x, l[i]? = some x → ∃ y, f x = some y ∧ r[i]? = some y
 | [], r, h => by simp at h; subst h; simp
 | a :: l, r, h => by
   simp only [List.mapM_cons, Option.pure_def, Option.bind_eq_bind, Option.bind_eq_some_iff, Option.some.injEq] at h
   obtain ⟨b, hb, bs, hbs, rfl⟩ := h
   obtain ⟨h1, h2⟩ := mapM_some hbs
   refine ⟨by simp [h1], fun i x hx => ?_⟩
   cases i with
   | zero => simp at hx; subst hx; exact ⟨b, hb, by simp⟩
   | succ i => obtain ⟨y, hy, hr⟩ := h2 i x (by simpa using hx); exact ⟨y, hy, by simpa using hr⟩
theorem cells_range {w : World} {a : Addr} {n : Nat} {cs : List Value} (h : w.cells? 0 a n = some cs) : cs.length = n ∧ ∀ j v, cs[j]? = some v → w.cell? (a.add j) = some v := by
 unfold World.cells? at h
 simp only [Nat.zero_le, if_true] at h
 obtain ⟨h1, h2⟩ := mapM_some h
 simp only [List.length_range] at h1
 refine ⟨h1.symm, fun j v hv => ?_⟩
 have hj : j < cs.length := (List.getElem?_eq_some_iff.1 hv).1
 obtain ⟨y, hy, hr⟩ := h2 j j (by rw [List.getElem?_range (by omega)])
 rw [hr] at hv
 cases hv
 exact hy
theorem cell_spot {w : World} {a : Addr} {v : Value} (h : w.cell? a = some v) : a.spot = none := by
 unfold World.cell? at h
 split at h
 · split at h
   · cases h
   · rename_i hs; simpa using hs
 · cases h
theorem cells_all {α : Type} [Rep α] {w : World} {b o : Nat} : ∀ (n : Nat), (∀ i, i < n → ∃ (cs : List Value) (F : List Nat) (x : α), w.rangeAt b (o + i * Rep.size α) cs ∧ rep F w cs x) →
   ∃ (F : List Nat) (xs : List Value) (l : List α), l.length = n ∧ Cells F w xs l ∧ w.rangeAt b o xs
 | 0, _ => ⟨[], [], [], rfl, ⟨rfl, rfl⟩, fun j v hv => by simp at hv⟩
 | n + 1, h => by
   obtain ⟨F, xs, l, hl, hc, hr⟩ := cells_all n fun i hi => h i (by omega)
   obtain ⟨cs, G, x, hra, hx⟩ := h n (by omega)
   refine ⟨F ++ G, xs ++ cs, l ++ [x], by simp [hl], Cells.append hc (Cells.single hx), ?_⟩
   intro j v hv
   have hlen := Cells.len hc
   rw [hl] at hlen
   rcases Nat.lt_or_ge j xs.length with hj | hj
   · rw [List.getElem?_append_left hj] at hv; exact hr j v hv
   · rw [List.getElem?_append_right hj] at hv
     have := hra (j - xs.length) v hv
     rwa [show o + n * Rep.size α + (j - xs.length) = o + j by omega] at this
theorem reads_slice {e : TypeId} {α : Type} [Rep α] {n : Nat} (ht : P.underlying t = some (.slice e)) (hc : P.cellsOf e = Rep.size α) (he : Reads P e α n) : Reads P t (List α) (n + 1) := by
 intro H enc w spare held cs y h
 rcases DataW.trod_slice ht h with ⟨rfl, _⟩ | ⟨a, len, cap, elems, rest, m, hm, rfl, _, _, h1, h2, h3, h4, _⟩
 · exact ⟨[], [], none, 0, [], [], rfl, Nat.le_refl _, Nat.zero_le _, ⟨rfl, rfl⟩, .inl ⟨rfl, rfl⟩⟩
 · obtain rfl : m = n := by omega
   by_cases h0 : len = 0
   · subst h0
     exact ⟨[], [], some a, cap, [], [], rfl, Nat.zero_le _, h2, ⟨rfl, rfl⟩, .inl ⟨rfl, rfl⟩⟩
   · have key : ∀ i, i < len → ∃ (cs : List Value) (F : List Nat) (x : α), cs.length = Rep.size α ∧ (∀ j v, cs[j]? = some v → w.cell? ((a.add (i * P.cellsOf e)).add j) = some v) ∧ rep F w cs x := by
       intro i hi
       have hy := h4 i hi
       rw [List.getElem?_eq_getElem (by omega)] at hy
       obtain ⟨cs, hcs, hy⟩ := Option.bind_eq_some_iff.1 hy
       obtain ⟨F, x, hx⟩ := he H enc w spare held cs _ hy
       obtain ⟨hl, hcell⟩ := cells_range hcs
       exact ⟨cs, F, x, by rw [hl, hc], hcell, hx⟩
     have hsp : a.spot = none := by
       obtain ⟨cs, F, x, hl, hcell, _⟩ := key 0 (by omega)
       have hp := Rep.pos (α := α)
       have := hcell 0 (cs[0]'(by omega)) (by rw [List.getElem?_eq_getElem])
       simpa [Addr.add] using cell_spot this
     obtain ⟨b, o, sp⟩ := a
     simp only at hsp
     subst hsp
     obtain ⟨F, xs, l, hl, hC, hR⟩ := cells_all (α := α) (w := w) (b := b) (o := o) len fun i hi => by
       obtain ⟨cs, F, x, _, hcell, hx⟩ := key i hi
       refine ⟨cs, F, x, fun j v hv => ?_, hx⟩
       have := hcell j v hv
       rw [hc] at this
       rwa [Addr.add_mid, Addr.add_mid] at this
     have hb : b < w.heap.size := rangeAt_lt hR (by rw [Cells.len hC, hl]; exact Nat.mul_pos (by omega) Rep.pos)
     subst hl
     exact ⟨b :: F, l, some ⟨b, o, none⟩, cap, F, xs, rfl, h1, h2, hC, .inr ⟨b, o, rfl, rfl, hR, hb⟩⟩
theorem reads_via {α β : Type} [Rep β] {f : α → β} {g : β → α} (hg : ∀ y, f (g y) = y) {n : Nat} (h : Reads P t β n) : @Reads P t α (Rep.via f) n := by
 intro H enc w spare held cs y hy
 obtain ⟨F, x, hx⟩ := h H enc w spare held cs y hy
 exact ⟨F, g x, show rep F w cs (f (g x)) by rw [hg]; exact hx⟩
theorem drop_take_split {cs : List Value} {o a b : Nat} : (cs.drop o).take (a + b) = (cs.drop o).take a ++ (cs.drop (o + a)).take b := by
 rw [List.take_add, List.drop_drop]
inductive FldR (P : Program) (n : Nat) : Nat → List Field → (α : Type) → Rep α → Prop
 | one {off : Nat} {f : Field} {α : Type} [i : Rep α] (h1 : f.offset = off) (h2 : P.cellsOf f.type = Rep.size α) (h3 : Reads P f.type α n) : FldR P n off [f] α i
 | cons {off : Nat} {f : Field} {fs : List Field} {α β : Type} [i : Rep α] [j : Rep β] (h1 : f.offset = off) (h2 : P.cellsOf f.type = Rep.size α) (h3 : Reads P f.type α n) (h4 : FldR P n (off + Rep.size α) fs β j) : FldR P n off (f :: fs) (α × β) inferInstance
theorem fldR_rep {n : Nat} {H : Type} {enc : TypeId × Value → H} {w : World} {spare : Nat → Bool} {held : Bool} {cs : List Value} {off : Nat} {fs : List Field} {α : Type} {i : Rep α} (h : FldR P n off fs α i) :
   (∀ f ∈ fs, ∃ y, DataW.trod enc P w 0 spare held n f.type ((cs.drop f.offset).take (P.cellsOf f.type)) = some y) → cs.length = off + @Rep.size α i → ∃ F x, @Rep.rep α i F w (cs.drop off) x := by
 induction h with
 | @one off f α i h1 h2 h3 =>
   intro hy hl
   obtain ⟨y, hf⟩ := hy f (by simp)
   subst h1
   rw [h2, List.take_of_length_le (by simp; omega)] at hf
   exact h3 _ _ _ _ _ _ _ hf
 | @cons off f fs α β i j h1 h2 h3 h4 ih =>
   intro hy hl
   obtain ⟨y, hf⟩ := hy f (by simp)
   have hl' : cs.length = off + (Rep.size α + Rep.size β) := hl
   obtain ⟨F2, x2, hx2⟩ := ih (fun g hg => hy g (by simp [hg])) (by omega)
   subst h1
   rw [h2] at hf
   obtain ⟨F1, x1, hx1⟩ := h3 _ _ _ _ _ _ _ hf
   refine ⟨F1 ++ F2, (x1, x2), F1, F2, _, _, rfl, ?_, hx1, hx2⟩
   have := drop_take_split (cs := cs) (o := f.offset) (a := Rep.size α) (b := Rep.size β)
   rw [List.take_of_length_le (by simp; omega), List.take_of_length_le (l := cs.drop (f.offset + Rep.size α)) (by simp; omega)] at this
   exact this
theorem reads_struct {fs : Array Field} {α : Type} [i : Rep α] {n : Nat} (ht : P.underlying t = some (.struct fs)) (hc : P.cellsOf t = Rep.size α) (hf : FldR P n 0 fs.toList α i) : Reads P t α (n + 1) := by
 intro H enc w spare held cs y h
 obtain ⟨xs, m, hm, _, hlen, hxl, hx⟩ := DataW.trod_struct ht h
 obtain rfl : m = n := by omega
 have := fldR_rep (enc := enc) (w := w) (spare := spare) (held := held) (cs := cs) hf (fun f hf => by
   obtain ⟨k, hk, hkf⟩ := List.getElem_of_mem hf
   have h1 : fs[k]? = some f := by rw [← hkf]; simp
   have h2 := hx k f h1
   have hk' : k < xs.length := by rw [hxl]; simpa using hk
   rw [List.getElem?_eq_getElem hk'] at h2
   exact ⟨_, h2⟩) (by rw [hlen, hc]; simp)
 simpa using this
theorem reads_zero {α : Type} [Rep α] : Reads P t α 0 := by intro H enc w spare held cs y h; simp [DataW.trod] at h
theorem reads_all_slice {e : TypeId} {α : Type} [Rep α] (ht : P.underlying t = some (.slice e)) (hc : P.cellsOf e = Rep.size α) (he : ∀ n, Reads P e α n) : ∀ n, Reads P t (List α) n
 | 0 => reads_zero
 | n + 1 => reads_slice ht hc (he n)
theorem reads_all_struct {fs : Array Field} {α : Type} [i : Rep α] (ht : P.underlying t = some (.struct fs)) (hc : P.cellsOf t = Rep.size α) (hf : ∀ n, FldR P n 0 fs.toList α i) : ∀ n, Reads P t α n
 | 0 => reads_zero
 | n + 1 => reads_struct ht hc (hf n)
theorem is_of_struct {fs : Array Field} {α : Type} [Rep α] {H : Type} {enc : TypeId × Value → H} {w W : World} {r : Reach} {b0 : Nat} {spare : Nat → Bool} {held : Bool} {v : Value} {d : DataW H} {p : List MemPlace} (ht : P.underlying t = some (.struct fs)) (ha : Rep.agg α = true) (hr : ∀ n, Reads P t α n) (hv : Value.okWide P W r b0 t v)
   (h : DataW.Trod enc P w 0 spare held t v d p) : ∃ x : α, Is w v x := by
 simp only [Value.okWide, ht] at hv
 obtain ⟨cs, rfl, _⟩ := hv
 obtain ⟨n, hn⟩ := h
 obtain ⟨F, x, hx⟩ := hr n H enc w spare held _ _ hn
 exact ⟨x, F, _, hx, by simp [mkv, ha, Value.cells]⟩
end
end Go.Sh
namespace Go.Sh
set_option linter.unusedVariables false
set_option linter.unusedSimpArgs false
open Rep (rep)
inductive DTerm where
 | mk (kind num : Int) (name : ByteArray) (kids : List DTerm)
namespace DTerm
def kind : DTerm → Int | .mk k _ _ _ => k
def num : DTerm → Int | .mk _ n _ _ => n
def name : DTerm → ByteArray | .mk _ _ s _ => s
def kids : DTerm → List DTerm | .mk _ _ _ l => l
def tup (t : DTerm) : Int × Int × ByteArray × List DTerm := (t.kind, t.num, t.name, t.kids)
end DTerm
theorem DTerm.eta (t : DTerm) : DTerm.mk t.kind t.num t.name t.kids = t := by cases t; rfl
theorem DTerm.ext_iff {x y : DTerm} : x = y ↔ (x.kind = y.kind ∧ x.num = y.num ∧ x.name = y.name ∧ x.kids = y.kids) := by
 constructor
 · intro h; rw [h]; exact ⟨rfl, rfl, rfl, rfl⟩
 · rintro ⟨h1, h2, h3, h4⟩
   rw [← DTerm.eta x, ← DTerm.eta y, h1, h2, h3, h4]
theorem DTerm.kid_lt {t k : DTerm} (h : k ∈ t.kids) : SizeOf.sizeOf k < SizeOf.sizeOf t := by
 cases t with
 | mk a b c l =>
   have : k ∈ l := h
   have := List.sizeOf_lt_of_mem this
   simp only [DTerm.mk.sizeOf_spec]; omega
theorem DTerm.ind {p : DTerm → Prop} (h : ∀ t, (∀ k ∈ t.kids, p k) → p t) (t : DTerm) : p t :=
  h t fun k hk => DTerm.ind h k
termination_by SizeOf.sizeOf t
decreasing_by exact DTerm.kid_lt hk
mutual
def DTerm.beq : DTerm → DTerm → Bool
  | .mk a b c l, .mk a' b' c' l' => decide (a = a') && decide (b = b') && decide (c = c') && DTerm.beqL l l'
def DTerm.beqL : List DTerm → List DTerm → Bool
  | [], [] => true
  | x :: l, y :: m => DTerm.beq x y && DTerm.beqL l m
  | _, _ => false
end
mutual
theorem DTerm.beq_iff : ∀ (x y : DTerm), DTerm.beq x y = true ↔ x = y
  | .mk a b c l, .mk a' b' c' l' => by
    simp only [DTerm.beq, Bool.and_eq_true, decide_eq_true_eq, DTerm.mk.injEq, DTerm.beqL_iff l l', and_assoc]
theorem DTerm.beqL_iff : ∀ (x y : List DTerm), DTerm.beqL x y = true ↔ x = y
  | [], [] => by simp [DTerm.beqL]
  | [], y :: m => by simp [DTerm.beqL]
  | x :: l, [] => by simp [DTerm.beqL]
  | x :: l, y :: m => by simp only [DTerm.beqL, Bool.and_eq_true, DTerm.beq_iff x y, DTerm.beqL_iff l m, List.cons.injEq]
end
instance : DecidableEq DTerm := fun x y => decidable_of_iff _ (DTerm.beq_iff x y)
mutual
def repT : DTerm → List Nat → World → List Value → Prop
  | .mk k n s ks, F, w, cs => ∃ a cap Fi xs, cs = [.int .i64 k, .int .i64 n, .string s, .slice a ks.length cap] ∧ I64 k ∧ I64 n ∧ s.size ≤ maxLen ∧ ks.length ≤ cap ∧ cap ≤ maxLen ∧ cellsT ks Fi w xs ∧
    ((ks = [] ∧ F = []) ∨ ∃ b o, a = some ⟨b, o, none⟩ ∧ F = b :: Fi ∧ w.rangeAt b o xs ∧ b < w.heap.size)
def cellsT : List DTerm → List Nat → World → List Value → Prop
  | [], F, _, xs => F = [] ∧ xs = []
  | y :: ys, F, w, xs => ∃ F1 F2 c1 c2, F = F1 ++ F2 ∧ xs = c1 ++ c2 ∧ repT y F1 w c1 ∧ cellsT ys F2 w c2
end
theorem repT_len {t : DTerm} {F : List Nat} {w : World} {cs : List Value} (h : repT t F w cs) : cs.length = 4 := by
 cases t; rw [repT] at h; obtain ⟨a, cap, Fi, xs, rfl, _⟩ := h; rfl
theorem repT_one {t : DTerm} {F : List Nat} {w : World} {cs : List Value} (h : repT t F w cs) : ∀ v ∈ cs, v.oneCell' = true := by
 cases t; rw [repT] at h; obtain ⟨a, cap, Fi, xs, rfl, _⟩ := h
 intro v hv
 simp only [List.mem_cons, List.not_mem_nil, or_false] at hv
 rcases hv with rfl | rfl | rfl | rfl <;> rfl
mutual
theorem repT_keep : ∀ (t : DTerm) {F : List Nat} {w w' : World} {cs : List Value}, repT t F w cs → (∀ b ∈ F, w'.heap[b]? = w.heap[b]?) → repT t F w' cs
  | .mk k n s ks, F, w, w', cs, h, hk => by
    rw [repT] at h ⊢
    obtain ⟨a, cap, Fi, xs, hcs, i1, i2, i3, h1, h2, hc, h4⟩ := h
    rcases h4 with ⟨rfl, rfl⟩ | ⟨b, o, ha, hF, hr, hb⟩
    · exact ⟨a, cap, Fi, xs, hcs, i1, i2, i3, h1, h2, by rw [cellsT] at hc ⊢; exact hc, .inl ⟨rfl, rfl⟩⟩
    · subst hF
      have hbb := hk b (by simp)
      refine ⟨a, cap, Fi, xs, hcs, i1, i2, i3, h1, h2, cellsT_keep ks hc fun c hc => hk c (by simp [hc]), .inr ⟨b, o, ha, rfl, rangeAt_keep hr hbb, ?_⟩⟩
      rcases Nat.lt_or_ge b (Array.size (World.heap w')) with h' | h'
      · exact h'
      · rw [Array.getElem?_eq_none h'] at hbb
        simp [Array.getElem?_eq_getElem hb] at hbb
theorem cellsT_keep : ∀ (l : List DTerm) {F : List Nat} {w w' : World} {cs : List Value}, cellsT l F w cs → (∀ b ∈ F, w'.heap[b]? = w.heap[b]?) → cellsT l F w' cs
  | [], F, w, w', cs, h, _ => by rw [cellsT] at h ⊢; exact h
  | y :: ys, F, w, w', cs, h, hk => by
    rw [cellsT] at h ⊢
    obtain ⟨F1, F2, c1, c2, rfl, rfl, h1, h2⟩ := h
    exact ⟨F1, F2, c1, c2, rfl, rfl, repT_keep y h1 fun b hb => hk b (by simp [hb]), cellsT_keep ys h2 fun b hb => hk b (by simp [hb])⟩
end
mutual
theorem repT_lt : ∀ (t : DTerm) {F : List Nat} {w : World} {cs : List Value}, repT t F w cs → ∀ b ∈ F, b < w.heap.size
  | .mk k n s ks, F, w, cs, h, c, hm => by
    rw [repT] at h
    obtain ⟨a, cap, Fi, xs, hcs, i1, i2, i3, h1, h2, hc, h4⟩ := h
    rcases h4 with ⟨rfl, rfl⟩ | ⟨b, o, ha, hF, hr, hb⟩
    · cases hm
    · subst hF
      rcases List.mem_cons.1 hm with rfl | hm
      · exact hb
      · exact cellsT_lt ks hc c hm
theorem cellsT_lt : ∀ (l : List DTerm) {F : List Nat} {w : World} {cs : List Value}, cellsT l F w cs → ∀ b ∈ F, b < w.heap.size
  | [], F, w, cs, h, c, hm => by rw [cellsT] at h; rw [h.1] at hm; cases hm
  | y :: ys, F, w, cs, h, c, hm => by
    rw [cellsT] at h
    obtain ⟨F1, F2, c1, c2, rfl, rfl, h1, h2⟩ := h
    rcases List.mem_append.1 hm with hm | hm
    · exact repT_lt y h1 c hm
    · exact cellsT_lt ys h2 c hm
end
instance : Rep DTerm where
 size := 4
 agg := true
 rep F w cs x := repT x F w cs
 pos := by decide
 sz h := by cases h
 len h := repT_len h
 one h := repT_one h
 keep h hk := repT_keep _ h hk
 lt h := repT_lt _ h
theorem cellsT_eq {w : World} : ∀ {l : List DTerm} {F : List Nat} {xs : List Value}, cellsT l F w xs ↔ Cells F w xs l
 | [], F, xs => by rw [cellsT]; exact Iff.rfl
 | y :: ys, F, xs => by
   rw [cellsT]
   constructor
   · rintro ⟨F1, F2, c1, c2, h1, h2, h3, h4⟩; exact ⟨F1, F2, c1, c2, h1, h2, h3, cellsT_eq.1 h4⟩
   · rintro ⟨F1, F2, c1, c2, h1, h2, h3, h4⟩; exact ⟨F1, F2, c1, c2, h1, h2, h3, cellsT_eq.2 h4⟩
theorem rep_tup {w : World} {F : List Nat} {cs : List Value} {t : DTerm} : rep F w cs t ↔ rep F w cs t.tup := by
 obtain ⟨k, n, s, ks⟩ := t
 show repT _ F w cs ↔ _
 rw [repT]
 constructor
 · rintro ⟨a, cap, Fi, xs, rfl, i1, i2, i3, h1, h2, hc, h4⟩
   refine ⟨[], F, [.int .i64 k], _, rfl, rfl, ⟨rfl, rfl, i1⟩, [], F, [.int .i64 n], _, rfl, rfl, ⟨rfl, rfl, i2⟩, [], F, [.string s], _, rfl, rfl, ⟨rfl, rfl, i3⟩, a, cap, Fi, xs, rfl, h1, h2, cellsT_eq.1 hc, h4⟩
 · rintro ⟨_, _, _, _, rfl, rfl, ⟨rfl, rfl, i1⟩, _, _, _, _, rfl, rfl, ⟨rfl, rfl, i2⟩, _, _, _, _, rfl, rfl, ⟨rfl, rfl, i3⟩, a, cap, Fi, xs, rfl, h1, h2, hc, h4⟩
   exact ⟨a, cap, Fi, xs, rfl, i1, i2, i3, h1, h2, cellsT_eq.2 hc, h4⟩
theorem at_tup {w : World} {b o : Nat} {t : DTerm} : At w b o t ↔ At w b o t.tup :=
 ⟨fun ⟨F, cs, h, k⟩ => ⟨F, cs, rep_tup.1 h, k⟩, fun ⟨F, cs, h, k⟩ => ⟨F, cs, rep_tup.2 h, k⟩⟩
theorem oat_tup {w : World} {G : List Nat} {b o : Nat} {t : DTerm} : OAt G w b o t ↔ OAt G w b o t.tup :=
 ⟨fun ⟨cs, h, k⟩ => ⟨cs, rep_tup.1 h, k⟩, fun ⟨cs, h, k⟩ => ⟨cs, rep_tup.2 h, k⟩⟩
section
variable {w : World} {b o : Nat}
theorem at_DTerm_0 {x : DTerm} (h : At w b o x) : At w b (o + 0) x.kind := at_fst (α := Int) (β := Int × ByteArray × List DTerm) (p := x.tup) (at_tup.1 h)
theorem at_DTerm_1 {x : DTerm} (h : At w b o x) : At w b (o + 1) x.num := at_fst (α := Int) (β := ByteArray × List DTerm) (p := (x.num, x.name, x.kids)) (at_snd (α := Int) (β := Int × ByteArray × List DTerm) (p := x.tup) (at_tup.1 h))
theorem at_DTerm_2 {x : DTerm} (h : At w b o x) : At w b (o + 2) x.name := at_fst (α := ByteArray) (β := List DTerm) (p := (x.name, x.kids)) (at_snd (α := Int) (β := ByteArray × List DTerm) (p := (x.num, x.name, x.kids)) (at_snd (α := Int) (β := Int × ByteArray × List DTerm) (p := x.tup) (at_tup.1 h)))
theorem at_DTerm_3 {x : DTerm} (h : At w b o x) : At w b (o + 3) x.kids := at_snd (α := ByteArray) (β := List DTerm) (p := (x.name, x.kids)) (at_snd (α := Int) (β := ByteArray × List DTerm) (p := (x.num, x.name, x.kids)) (at_snd (α := Int) (β := Int × ByteArray × List DTerm) (p := x.tup) (at_tup.1 h)))
end
theorem Lens.term {w : World} {γ : Type} {H : List Nat → World → γ → Prop} {F : List Nat} {b o : Nat} {G : List Nat} {t : DTerm} {upd : DTerm → γ} (h : Lens H F w b o G t upd) :
   Lens H F w b o G t.tup (fun p => upd (.mk p.1 p.2.1 p.2.2.1 p.2.2.2)) :=
 ⟨oat_tup.1 h.here, h.sub, fun w' G' y' hc hO hs => h.back w' G' _ hc (oat_tup.2 hO) hs⟩
instance : RepZ DTerm := ⟨.mk 0 0 ByteArray.empty [], RepZ.zc (Int × Int × ByteArray × List DTerm), fun w => rep_tup.2 (RepZ.zr (α := Int × Int × ByteArray × List DTerm) w)⟩
section
variable {γ : Type} {H : List Nat → World → γ → Prop} {F : List Nat} {w : World} {b o : Nat} {G : List Nat} {x : DTerm} {upd : DTerm → γ}
theorem lens_DTerm_0 (h : Lens H F w b o G x upd) : ∃ G1, Lens H F w b (o + 0) G1 x.kind (fun y => upd (.mk y x.num x.name x.kids)) := by
 obtain ⟨G1, h1⟩ := h.term.fst; exact ⟨G1, h1⟩
theorem lens_DTerm_1 (h : Lens H F w b o G x upd) : ∃ G1, Lens H F w b (o + 1) G1 x.num (fun y => upd (.mk x.kind y x.name x.kids)) := by
 obtain ⟨G1, h1⟩ := h.term.snd; obtain ⟨G2, h2⟩ := h1.fst; exact ⟨G2, h2⟩
theorem lens_DTerm_2 (h : Lens H F w b o G x upd) : ∃ G1, Lens H F w b (o + 2) G1 x.name (fun y => upd (.mk x.kind x.num y x.kids)) := by
 obtain ⟨G1, h1⟩ := h.term.snd; obtain ⟨G2, h2⟩ := h1.snd; obtain ⟨G3, h3⟩ := h2.fst; exact ⟨G3, h3⟩
theorem lens_DTerm_3 (h : Lens H F w b o G x upd) : ∃ G1, Lens H F w b (o + 3) G1 x.kids (fun y => upd (.mk x.kind x.num x.name y)) := by
 obtain ⟨G1, h1⟩ := h.term.snd; obtain ⟨G2, h2⟩ := h1.snd; obtain ⟨G3, h3⟩ := h2.snd; exact ⟨G3, h3⟩
end
theorem reads_tup {P : Program} {t : TypeId} {n : Nat} (h : Reads P t (Int × Int × ByteArray × List DTerm) n) : Reads P t DTerm n := by
 intro H enc w spare held cs y hh
 obtain ⟨F, x, hx⟩ := h H enc w spare held cs y hh
 exact ⟨F, .mk x.1 x.2.1 x.2.2.1 x.2.2.2, rep_tup.2 hx⟩
structure DIns where
 op : Int
 arg : Int
 term : DTerm
 to : Int
theorem DIns.ext_iff {x y : DIns} : x = y ↔ (x.op = y.op ∧ x.arg = y.arg ∧ x.term = y.term ∧ x.to = y.to) := ⟨fun h => by rw [h]; exact ⟨rfl, rfl, rfl, rfl⟩, fun h => by obtain ⟨h0, h1, h2, h3⟩ := h; cases x; cases y; simp only at h0 h1 h2 h3; simp only [h0, h1, h2, h3]⟩
instance : DecidableEq DIns := fun x y => decidable_of_iff (x.op = y.op ∧ x.arg = y.arg ∧ x.term = y.term ∧ x.to = y.to) DIns.ext_iff.symm
instance : Rep DIns := Rep.via fun x => (x.op, x.arg, x.term, x.to)
theorem at_DIns_0 {w : World} {b o : Nat} {x : DIns} (h : At w b o x) : At w b (o + 0) x.op := at_fst (α := Int) (β := Int × DTerm × Int) (p := (x.op, x.arg, x.term, x.to)) h
theorem at_DIns_1 {w : World} {b o : Nat} {x : DIns} (h : At w b o x) : At w b (o + 1) x.arg := at_fst (α := Int) (β := DTerm × Int) (p := (x.arg, x.term, x.to)) (at_snd (α := Int) (β := Int × DTerm × Int) (p := (x.op, x.arg, x.term, x.to)) h)
theorem at_DIns_2 {w : World} {b o : Nat} {x : DIns} (h : At w b o x) : At w b (o + 2) x.term := at_fst (α := DTerm) (β := Int) (p := (x.term, x.to)) (at_snd (α := Int) (β := DTerm × Int) (p := (x.arg, x.term, x.to)) (at_snd (α := Int) (β := Int × DTerm × Int) (p := (x.op, x.arg, x.term, x.to)) h))
theorem at_DIns_3 {w : World} {b o : Nat} {x : DIns} (h : At w b o x) : At w b (o + 6) x.to := at_snd (α := DTerm) (β := Int) (p := (x.term, x.to)) (at_snd (α := Int) (β := DTerm × Int) (p := (x.arg, x.term, x.to)) (at_snd (α := Int) (β := Int × DTerm × Int) (p := (x.op, x.arg, x.term, x.to)) h))
instance : RepZ DIns := ⟨⟨(RepZ.zv : Int), (RepZ.zv : Int), (RepZ.zv : DTerm), (RepZ.zv : Int)⟩, RepZ.zc (Int × Int × DTerm × Int), fun w => RepZ.zr (α := Int × Int × DTerm × Int) w⟩
theorem lens_DIns_0 {γ : Type} {H : List Nat → World → γ → Prop} {F : List Nat} {w : World} {b o : Nat} {G : List Nat} {x : DIns} {upd : DIns → γ} (h : Lens H F w b o G x upd) :
   ∃ G1, Lens H F w b (o + 0) G1 x.op (fun y => upd ⟨y, x.arg, x.term, x.to⟩) := by
 have h' : Lens H F w b o G (x.op, x.arg, x.term, x.to) (fun p : Int × Int × DTerm × Int => upd ⟨p.1, p.2.1, p.2.2.1, p.2.2.2⟩) := ⟨h.here, h.sub, fun w' G' y' hc hO hs => h.back w' G' _ hc hO hs⟩
 obtain ⟨G0, h'⟩ := h'.fst
 exact ⟨_, h'⟩
theorem lens_DIns_1 {γ : Type} {H : List Nat → World → γ → Prop} {F : List Nat} {w : World} {b o : Nat} {G : List Nat} {x : DIns} {upd : DIns → γ} (h : Lens H F w b o G x upd) :
   ∃ G1, Lens H F w b (o + 1) G1 x.arg (fun y => upd ⟨x.op, y, x.term, x.to⟩) := by
 have h' : Lens H F w b o G (x.op, x.arg, x.term, x.to) (fun p : Int × Int × DTerm × Int => upd ⟨p.1, p.2.1, p.2.2.1, p.2.2.2⟩) := ⟨h.here, h.sub, fun w' G' y' hc hO hs => h.back w' G' _ hc hO hs⟩
 obtain ⟨G0, h'⟩ := h'.snd
 obtain ⟨G1, h'⟩ := h'.fst
 exact ⟨_, h'⟩
theorem lens_DIns_2 {γ : Type} {H : List Nat → World → γ → Prop} {F : List Nat} {w : World} {b o : Nat} {G : List Nat} {x : DIns} {upd : DIns → γ} (h : Lens H F w b o G x upd) :
   ∃ G1, Lens H F w b (o + 2) G1 x.term (fun y => upd ⟨x.op, x.arg, y, x.to⟩) := by
 have h' : Lens H F w b o G (x.op, x.arg, x.term, x.to) (fun p : Int × Int × DTerm × Int => upd ⟨p.1, p.2.1, p.2.2.1, p.2.2.2⟩) := ⟨h.here, h.sub, fun w' G' y' hc hO hs => h.back w' G' _ hc hO hs⟩
 obtain ⟨G0, h'⟩ := h'.snd
 obtain ⟨G1, h'⟩ := h'.snd
 obtain ⟨G2, h'⟩ := h'.fst
 exact ⟨_, h'⟩
theorem lens_DIns_3 {γ : Type} {H : List Nat → World → γ → Prop} {F : List Nat} {w : World} {b o : Nat} {G : List Nat} {x : DIns} {upd : DIns → γ} (h : Lens H F w b o G x upd) :
   ∃ G1, Lens H F w b (o + 6) G1 x.to (fun y => upd ⟨x.op, x.arg, x.term, y⟩) := by
 have h' : Lens H F w b o G (x.op, x.arg, x.term, x.to) (fun p : Int × Int × DTerm × Int => upd ⟨p.1, p.2.1, p.2.2.1, p.2.2.2⟩) := ⟨h.here, h.sub, fun w' G' y' hc hO hs => h.back w' G' _ hc hO hs⟩
 obtain ⟨G0, h'⟩ := h'.snd
 obtain ⟨G1, h'⟩ := h'.snd
 obtain ⟨G2, h'⟩ := h'.snd
 exact ⟨_, h'⟩
structure DCode where
 globals : List ByteArray
 locks : List ByteArray
 procs : List ByteArray
 entry : List Int
 ins : List DIns
theorem DCode.ext_iff {x y : DCode} : x = y ↔ (x.globals = y.globals ∧ x.locks = y.locks ∧ x.procs = y.procs ∧ x.entry = y.entry ∧ x.ins = y.ins) := ⟨fun h => by rw [h]; exact ⟨rfl, rfl, rfl, rfl, rfl⟩, fun h => by obtain ⟨h0, h1, h2, h3, h4⟩ := h; cases x; cases y; simp only at h0 h1 h2 h3 h4; simp only [h0, h1, h2, h3, h4]⟩
instance : DecidableEq DCode := fun x y => decidable_of_iff (x.globals = y.globals ∧ x.locks = y.locks ∧ x.procs = y.procs ∧ x.entry = y.entry ∧ x.ins = y.ins) DCode.ext_iff.symm
instance : Rep DCode := Rep.via fun x => (x.globals, x.locks, x.procs, x.entry, x.ins)
theorem at_DCode_0 {w : World} {b o : Nat} {x : DCode} (h : At w b o x) : At w b (o + 0) x.globals := at_fst (α := List ByteArray) (β := (List ByteArray) × (List ByteArray) × (List Int) × (List DIns)) (p := (x.globals, x.locks, x.procs, x.entry, x.ins)) h
theorem at_DCode_1 {w : World} {b o : Nat} {x : DCode} (h : At w b o x) : At w b (o + 1) x.locks := at_fst (α := List ByteArray) (β := (List ByteArray) × (List Int) × (List DIns)) (p := (x.locks, x.procs, x.entry, x.ins)) (at_snd (α := List ByteArray) (β := (List ByteArray) × (List ByteArray) × (List Int) × (List DIns)) (p := (x.globals, x.locks, x.procs, x.entry, x.ins)) h)
theorem at_DCode_2 {w : World} {b o : Nat} {x : DCode} (h : At w b o x) : At w b (o + 2) x.procs := at_fst (α := List ByteArray) (β := (List Int) × (List DIns)) (p := (x.procs, x.entry, x.ins)) (at_snd (α := List ByteArray) (β := (List ByteArray) × (List Int) × (List DIns)) (p := (x.locks, x.procs, x.entry, x.ins)) (at_snd (α := List ByteArray) (β := (List ByteArray) × (List ByteArray) × (List Int) × (List DIns)) (p := (x.globals, x.locks, x.procs, x.entry, x.ins)) h))
theorem at_DCode_3 {w : World} {b o : Nat} {x : DCode} (h : At w b o x) : At w b (o + 3) x.entry := at_fst (α := List Int) (β := (List DIns)) (p := (x.entry, x.ins)) (at_snd (α := List ByteArray) (β := (List Int) × (List DIns)) (p := (x.procs, x.entry, x.ins)) (at_snd (α := List ByteArray) (β := (List ByteArray) × (List Int) × (List DIns)) (p := (x.locks, x.procs, x.entry, x.ins)) (at_snd (α := List ByteArray) (β := (List ByteArray) × (List ByteArray) × (List Int) × (List DIns)) (p := (x.globals, x.locks, x.procs, x.entry, x.ins)) h)))
theorem at_DCode_4 {w : World} {b o : Nat} {x : DCode} (h : At w b o x) : At w b (o + 4) x.ins := at_snd (α := List Int) (β := (List DIns)) (p := (x.entry, x.ins)) (at_snd (α := List ByteArray) (β := (List Int) × (List DIns)) (p := (x.procs, x.entry, x.ins)) (at_snd (α := List ByteArray) (β := (List ByteArray) × (List Int) × (List DIns)) (p := (x.locks, x.procs, x.entry, x.ins)) (at_snd (α := List ByteArray) (β := (List ByteArray) × (List ByteArray) × (List Int) × (List DIns)) (p := (x.globals, x.locks, x.procs, x.entry, x.ins)) h)))
instance : RepZ DCode := ⟨⟨(RepZ.zv : List ByteArray), (RepZ.zv : List ByteArray), (RepZ.zv : List ByteArray), (RepZ.zv : List Int), (RepZ.zv : List DIns)⟩, RepZ.zc ((List ByteArray) × (List ByteArray) × (List ByteArray) × (List Int) × (List DIns)), fun w => RepZ.zr (α := (List ByteArray) × (List ByteArray) × (List ByteArray) × (List Int) × (List DIns)) w⟩
theorem lens_DCode_0 {γ : Type} {H : List Nat → World → γ → Prop} {F : List Nat} {w : World} {b o : Nat} {G : List Nat} {x : DCode} {upd : DCode → γ} (h : Lens H F w b o G x upd) :
   ∃ G1, Lens H F w b (o + 0) G1 x.globals (fun y => upd ⟨y, x.locks, x.procs, x.entry, x.ins⟩) := by
 have h' : Lens H F w b o G (x.globals, x.locks, x.procs, x.entry, x.ins) (fun p : (List ByteArray) × (List ByteArray) × (List ByteArray) × (List Int) × (List DIns) => upd ⟨p.1, p.2.1, p.2.2.1, p.2.2.2.1, p.2.2.2.2⟩) := ⟨h.here, h.sub, fun w' G' y' hc hO hs => h.back w' G' _ hc hO hs⟩
 obtain ⟨G0, h'⟩ := h'.fst
 exact ⟨_, h'⟩
theorem lens_DCode_1 {γ : Type} {H : List Nat → World → γ → Prop} {F : List Nat} {w : World} {b o : Nat} {G : List Nat} {x : DCode} {upd : DCode → γ} (h : Lens H F w b o G x upd) :
   ∃ G1, Lens H F w b (o + 1) G1 x.locks (fun y => upd ⟨x.globals, y, x.procs, x.entry, x.ins⟩) := by
 have h' : Lens H F w b o G (x.globals, x.locks, x.procs, x.entry, x.ins) (fun p : (List ByteArray) × (List ByteArray) × (List ByteArray) × (List Int) × (List DIns) => upd ⟨p.1, p.2.1, p.2.2.1, p.2.2.2.1, p.2.2.2.2⟩) := ⟨h.here, h.sub, fun w' G' y' hc hO hs => h.back w' G' _ hc hO hs⟩
 obtain ⟨G0, h'⟩ := h'.snd
 obtain ⟨G1, h'⟩ := h'.fst
 exact ⟨_, h'⟩
theorem lens_DCode_2 {γ : Type} {H : List Nat → World → γ → Prop} {F : List Nat} {w : World} {b o : Nat} {G : List Nat} {x : DCode} {upd : DCode → γ} (h : Lens H F w b o G x upd) :
   ∃ G1, Lens H F w b (o + 2) G1 x.procs (fun y => upd ⟨x.globals, x.locks, y, x.entry, x.ins⟩) := by
 have h' : Lens H F w b o G (x.globals, x.locks, x.procs, x.entry, x.ins) (fun p : (List ByteArray) × (List ByteArray) × (List ByteArray) × (List Int) × (List DIns) => upd ⟨p.1, p.2.1, p.2.2.1, p.2.2.2.1, p.2.2.2.2⟩) := ⟨h.here, h.sub, fun w' G' y' hc hO hs => h.back w' G' _ hc hO hs⟩
 obtain ⟨G0, h'⟩ := h'.snd
 obtain ⟨G1, h'⟩ := h'.snd
 obtain ⟨G2, h'⟩ := h'.fst
 exact ⟨_, h'⟩
theorem lens_DCode_3 {γ : Type} {H : List Nat → World → γ → Prop} {F : List Nat} {w : World} {b o : Nat} {G : List Nat} {x : DCode} {upd : DCode → γ} (h : Lens H F w b o G x upd) :
   ∃ G1, Lens H F w b (o + 3) G1 x.entry (fun y => upd ⟨x.globals, x.locks, x.procs, y, x.ins⟩) := by
 have h' : Lens H F w b o G (x.globals, x.locks, x.procs, x.entry, x.ins) (fun p : (List ByteArray) × (List ByteArray) × (List ByteArray) × (List Int) × (List DIns) => upd ⟨p.1, p.2.1, p.2.2.1, p.2.2.2.1, p.2.2.2.2⟩) := ⟨h.here, h.sub, fun w' G' y' hc hO hs => h.back w' G' _ hc hO hs⟩
 obtain ⟨G0, h'⟩ := h'.snd
 obtain ⟨G1, h'⟩ := h'.snd
 obtain ⟨G2, h'⟩ := h'.snd
 obtain ⟨G3, h'⟩ := h'.fst
 exact ⟨_, h'⟩
theorem lens_DCode_4 {γ : Type} {H : List Nat → World → γ → Prop} {F : List Nat} {w : World} {b o : Nat} {G : List Nat} {x : DCode} {upd : DCode → γ} (h : Lens H F w b o G x upd) :
   ∃ G1, Lens H F w b (o + 4) G1 x.ins (fun y => upd ⟨x.globals, x.locks, x.procs, x.entry, y⟩) := by
 have h' : Lens H F w b o G (x.globals, x.locks, x.procs, x.entry, x.ins) (fun p : (List ByteArray) × (List ByteArray) × (List ByteArray) × (List Int) × (List DIns) => upd ⟨p.1, p.2.1, p.2.2.1, p.2.2.2.1, p.2.2.2.2⟩) := ⟨h.here, h.sub, fun w' G' y' hc hO hs => h.back w' G' _ hc hO hs⟩
 obtain ⟨G0, h'⟩ := h'.snd
 obtain ⟨G1, h'⟩ := h'.snd
 obtain ⟨G2, h'⟩ := h'.snd
 obtain ⟨G3, h'⟩ := h'.snd
 exact ⟨_, h'⟩
theorem inv_DCode {w : World} {F : List Nat} {cs : List Value} {x : DCode} (h : rep F w cs x) : ∃ F0 c0 F1 c1 F2 c2 F3 c3 F4 c4, F = (F0 ++ (F1 ++ (F2 ++ (F3 ++ F4)))) ∧ cs = (c0 ++ (c1 ++ (c2 ++ (c3 ++ c4)))) ∧ rep F0 w c0 x.globals ∧ rep F1 w c1 x.locks ∧ rep F2 w c2 x.procs ∧ rep F3 w c3 x.entry ∧ rep F4 w c4 x.ins := by
 obtain ⟨F0, G0, c0, d0, rfl, rfl, h0, h⟩ := h
 obtain ⟨F1, G1, c1, d1, rfl, rfl, h1, h⟩ := h
 obtain ⟨F2, G2, c2, d2, rfl, rfl, h2, h⟩ := h
 obtain ⟨F3, G3, c3, d3, rfl, rfl, h3, h⟩ := h
 exact ⟨_, _, _, _, _, _, _, _, _, _, rfl, rfl, h0, h1, h2, h3, h⟩
structure DTouch where
 at_ : Int
 global : Int
 write : Bool
 held : Int
theorem DTouch.ext_iff {x y : DTouch} : x = y ↔ (x.at_ = y.at_ ∧ x.global = y.global ∧ x.write = y.write ∧ x.held = y.held) := ⟨fun h => by rw [h]; exact ⟨rfl, rfl, rfl, rfl⟩, fun h => by obtain ⟨h0, h1, h2, h3⟩ := h; cases x; cases y; simp only at h0 h1 h2 h3; simp only [h0, h1, h2, h3]⟩
instance : DecidableEq DTouch := fun x y => decidable_of_iff (x.at_ = y.at_ ∧ x.global = y.global ∧ x.write = y.write ∧ x.held = y.held) DTouch.ext_iff.symm
instance : Rep DTouch := Rep.via fun x => (x.at_, x.global, x.write, x.held)
theorem at_DTouch_0 {w : World} {b o : Nat} {x : DTouch} (h : At w b o x) : At w b (o + 0) x.at_ := at_fst (α := Int) (β := Int × Bool × Int) (p := (x.at_, x.global, x.write, x.held)) h
theorem at_DTouch_1 {w : World} {b o : Nat} {x : DTouch} (h : At w b o x) : At w b (o + 1) x.global := at_fst (α := Int) (β := Bool × Int) (p := (x.global, x.write, x.held)) (at_snd (α := Int) (β := Int × Bool × Int) (p := (x.at_, x.global, x.write, x.held)) h)
theorem at_DTouch_2 {w : World} {b o : Nat} {x : DTouch} (h : At w b o x) : At w b (o + 2) x.write := at_fst (α := Bool) (β := Int) (p := (x.write, x.held)) (at_snd (α := Int) (β := Bool × Int) (p := (x.global, x.write, x.held)) (at_snd (α := Int) (β := Int × Bool × Int) (p := (x.at_, x.global, x.write, x.held)) h))
theorem at_DTouch_3 {w : World} {b o : Nat} {x : DTouch} (h : At w b o x) : At w b (o + 3) x.held := at_snd (α := Bool) (β := Int) (p := (x.write, x.held)) (at_snd (α := Int) (β := Bool × Int) (p := (x.global, x.write, x.held)) (at_snd (α := Int) (β := Int × Bool × Int) (p := (x.at_, x.global, x.write, x.held)) h))
instance : RepZ DTouch := ⟨⟨(RepZ.zv : Int), (RepZ.zv : Int), (RepZ.zv : Bool), (RepZ.zv : Int)⟩, RepZ.zc (Int × Int × Bool × Int), fun w => RepZ.zr (α := Int × Int × Bool × Int) w⟩
theorem mk_DTouch {w : World} {x : DTouch} (h_at_ : I64 x.at_) (h_global : I64 x.global)  (h_held : I64 x.held) : Mine [] w (.agg #[.int .i64 x.at_, .int .i64 x.global, .bool x.write, .int .i64 x.held]) x := ⟨⟨[.int .i64 x.at_, .int .i64 x.global, .bool x.write, .int .i64 x.held], ⟨[], [], [.int .i64 x.at_], [.int .i64 x.global, .bool x.write, .int .i64 x.held], rfl, rfl, ⟨rfl, rfl, h_at_⟩, ⟨[], [], [.int .i64 x.global], [.bool x.write, .int .i64 x.held], rfl, rfl, ⟨rfl, rfl, h_global⟩, ⟨[], [], [.bool x.write], [.int .i64 x.held], rfl, rfl, ⟨rfl, rfl⟩, ⟨rfl, rfl, h_held⟩⟩⟩⟩, rfl⟩, List.nodup_nil, Wr.nil w⟩
instance : Flat DTouch := ⟨fun h => Flat.flat (α := Int × Int × Bool × Int) h⟩
end Go.Sh
namespace Go.Proofs.YtjgfldfbljmhhaaGreat
open Go Go.Sh Go.Proofs
set_option linter.unusedVariables false
set_option linter.unusedSimpArgs false
open Rep (rep)
def letB (b : UInt8) : Bool := decide ((97 : Int) ≤ (b.toNat : Int) ∧ (b.toNat : Int) ≤ 122)
def figB (b : UInt8) : Bool := decide ((48 : Int) ≤ (b.toNat : Int) ∧ (b.toNat : Int) ≤ 57)
def wordB (s : ByteArray) : Bool := decide (s.size ≤ 12) && (bts s).head?.any letB && (bts s).all (fun b => letB b || figB b)
def kw : List ByteArray := [.mk #[97, 110, 100], .mk #[99, 97, 108, 108], .mk #[101, 108, 115, 101], .mk #[103, 108, 111, 98, 97, 108, 115], .mk #[105, 102], .mk #[108, 111, 99, 107], .mk #[108, 111, 99, 107, 115],
 .mk #[110, 111, 116], .mk #[112, 114, 111, 99], .mk #[115, 107, 105, 112], .mk #[115, 112, 97, 119, 110], .mk #[117, 110, 108, 111, 99, 107], .mk #[119, 104, 105, 108, 101]]
def nameB (s : ByteArray) : Bool := wordB s && !decide (s ∈ kw)
def F310 (a0 : Value) (w : World) (R : VW) : Prop :=
 RD tp (bin .geq 5 T0 U0 a0 (Value.int .u8 97)) w fun x4 =>
 BR x4
 (RD tp (bin .leq 5 T0 U0 a0 (Value.int .u8 122)) w fun x7 =>
 R x7 w)
 (R (Value.bool false) w)
def cfg310 : Cfg := ⟨extL, [], [], [], [], [], []⟩
theorem F310_eq (a0 : Value) (w : World) (R : VW) : vcF Tryz.prog cfg310 Tryz.f310 [a0] w R = F310 a0 w R := by kernel_rfl
theorem F310_call {a0 : Value} {w : World} {R : VW} (h : F310 a0 w R) : CALL Tryz.prog 310 [a0] w R :=
 call_of (g := cfg310) ent mixed Tryz.func310 (Nat.le_of_ble_eq_true (by kernel_rfl)) (by kernel_rfl) (F310_eq a0 w R ▸ h)
theorem isSmall_ok {w : World} {n : Nat}    :
   CALL Tryz.prog 310 [.int .u8 (n : Int)] w fun r w' => Ext w w' ∧ (r = .bool (decide ((97 : Int) ≤ (n : Int) ∧ (n : Int) ≤ 122))) := by
 refine F310_call ?_
 unfold F310
 refine rd_geq ?_
 refine br (fun c1 => ?_) (fun c1 => ?_)
 · refine rd_leq ?_
   refine ⟨Ext.refl w, ?_⟩
   simp [c1]
 · refine ⟨Ext.refl w, ?_⟩
   simp [c1]
def F311 (a0 : Value) (w : World) (R : VW) : Prop :=
 RD tp (bin .geq 5 T0 U0 a0 (Value.int .u8 48)) w fun x4 =>
 BR x4
 (RD tp (bin .leq 5 T0 U0 a0 (Value.int .u8 57)) w fun x7 =>
 R x7 w)
 (R (Value.bool false) w)
def cfg311 : Cfg := ⟨extL, [], [], [], [], [], []⟩
theorem F311_eq (a0 : Value) (w : World) (R : VW) : vcF Tryz.prog cfg311 Tryz.f311 [a0] w R = F311 a0 w R := by kernel_rfl
theorem F311_call {a0 : Value} {w : World} {R : VW} (h : F311 a0 w R) : CALL Tryz.prog 311 [a0] w R :=
 call_of (g := cfg311) ent mixed Tryz.func311 (Nat.le_of_ble_eq_true (by kernel_rfl)) (by kernel_rfl) (F311_eq a0 w R ▸ h)
theorem isFigure_ok {w : World} {n : Nat}    :
   CALL Tryz.prog 311 [.int .u8 (n : Int)] w fun r w' => Ext w w' ∧ (r = .bool (decide ((48 : Int) ≤ (n : Int) ∧ (n : Int) ≤ 57))) := by
 refine F311_call ?_
 unfold F311
 refine rd_geq ?_
 refine br (fun c1 => ?_) (fun c1 => ?_)
 · refine rd_leq ?_
   refine ⟨Ext.refl w, ?_⟩
   simp [c1]
 · refine ⟨Ext.refl w, ?_⟩
   simp [c1]
def F312 (a0 : Value) (w : World) (R : VW) : Prop :=
 RD tp (bin .geq 5 T0 U0 a0 (Value.int .u8 97)) w fun x4 =>
 BR x4
 (RD tp (bin .leq 5 T0 U0 a0 (Value.int .u8 122)) w fun x7 =>
 R x7 w)
 (R (Value.bool false) w)
def cfg312 : Cfg := ⟨extL, [], [], [], [], [], []⟩
theorem F312_eq (a0 : Value) (w : World) (R : VW) : vcF Tryz.prog cfg312 Tryz.f312 [a0] w R = F312 a0 w R := by kernel_rfl
theorem F312_call {a0 : Value} {w : World} {R : VW} (h : F312 a0 w R) : CALL Tryz.prog 312 [a0] w R :=
 call_of (g := cfg312) ent mixed Tryz.func312 (Nat.le_of_ble_eq_true (by kernel_rfl)) (by kernel_rfl) (F312_eq a0 w R ▸ h)
theorem l02Letter_ok {w : World} {n : Nat}    :
   CALL Tryz.prog 312 [.int .u8 (n : Int)] w fun r w' => Ext w w' ∧ (r = .bool (decide ((97 : Int) ≤ (n : Int) ∧ (n : Int) ≤ 122))) := by
 refine F312_call ?_
 unfold F312
 refine rd_geq ?_
 refine br (fun c1 => ?_) (fun c1 => ?_)
 · refine rd_leq ?_
   refine ⟨Ext.refl w, ?_⟩
   simp [c1]
 · refine ⟨Ext.refl w, ?_⟩
   simp [c1]
def F313 (a0 : Value) (w : World) (R : VW) : Prop :=
 RD tp (bin .geq 5 T0 U0 a0 (Value.int .u8 48)) w fun x4 =>
 BR x4
 (RD tp (bin .leq 5 T0 U0 a0 (Value.int .u8 57)) w fun x7 =>
 R x7 w)
 (R (Value.bool false) w)
def cfg313 : Cfg := ⟨extL, [], [], [], [], [], []⟩
theorem F313_eq (a0 : Value) (w : World) (R : VW) : vcF Tryz.prog cfg313 Tryz.f313 [a0] w R = F313 a0 w R := by kernel_rfl
theorem F313_call {a0 : Value} {w : World} {R : VW} (h : F313 a0 w R) : CALL Tryz.prog 313 [a0] w R :=
 call_of (g := cfg313) ent mixed Tryz.func313 (Nat.le_of_ble_eq_true (by kernel_rfl)) (by kernel_rfl) (F313_eq a0 w R ▸ h)
theorem l02Figure_ok {w : World} {n : Nat}    :
   CALL Tryz.prog 313 [.int .u8 (n : Int)] w fun r w' => Ext w w' ∧ (r = .bool (decide ((48 : Int) ≤ (n : Int) ∧ (n : Int) ≤ 57))) := by
 refine F313_call ?_
 unfold F313
 refine rd_geq ?_
 refine br (fun c1 => ?_) (fun c1 => ?_)
 · refine rd_leq ?_
   refine ⟨Ext.refl w, ?_⟩
   simp [c1]
 · refine ⟨Ext.refl w, ?_⟩
   simp [c1]
theorem head_bts {s : ByteArray} (h : 0 < s.size) : (bts s).head? = some ((bts s)[0]'(by rw [bts_len]; exact h)) := by
 rw [List.head?_eq_getElem?, List.getElem?_eq_getElem (by rw [bts_len]; exact h)]
theorem word_empty {s : ByteArray} (h : s.size = 0) : wordB s = false := by
 have : bts s = [] := List.eq_nil_of_length_eq_zero (by rw [bts_len]; exact h)
 simp [wordB, this]
theorem word_long {s : ByteArray} (h : 12 < s.size) : wordB s = false := by
 simp [wordB, Nat.not_le.2 h]
theorem word_head {s : ByteArray} (h : 0 < s.size) (c : ¬ ((97 : Int) ≤ (((bts s)[0]'(by rw [bts_len]; exact h)).toNat : Int) ∧ (((bts s)[0]'(by rw [bts_len]; exact h)).toNat : Int) ≤ 122)) : wordB s = false := by
 have : letB ((bts s)[0]'(by rw [bts_len]; exact h)) = false := by simp only [letB, c, decide_false]
 simp [wordB, head_bts h, this]
theorem word_at {s : ByteArray} {k : Nat} (h : k < s.size) (c1 : ¬ ((97 : Int) ≤ (((bts s)[k]'(by rw [bts_len]; exact h)).toNat : Int) ∧ (((bts s)[k]'(by rw [bts_len]; exact h)).toNat : Int) ≤ 122))
   (c2 : ¬ ((48 : Int) ≤ (((bts s)[k]'(by rw [bts_len]; exact h)).toNat : Int) ∧ (((bts s)[k]'(by rw [bts_len]; exact h)).toNat : Int) ≤ 57)) : wordB s = false := by
 have h1 : letB ((bts s)[k]'(by rw [bts_len]; exact h)) = false := by simp only [letB, c1, decide_false]
 have h2 : figB ((bts s)[k]'(by rw [bts_len]; exact h)) = false := by simp only [figB, c2, decide_false]
 have : (bts s).all (fun b => letB b || figB b) = false := by
   rw [List.all_eq_false]
   exact ⟨_, List.getElem_mem (by rw [bts_len]; exact h), by simp [h1, h2]⟩
 simp [wordB, this]
theorem word_step {s : ByteArray} {k : Nat} (h : k < s.size) (hi : ∀ b ∈ (bts s).take k, (letB b || figB b) = true) (c : letB ((bts s)[k]'(by rw [bts_len]; exact h)) = true ∨ figB ((bts s)[k]'(by rw [bts_len]; exact h)) = true) :
   ∀ b ∈ (bts s).take (k + 1), (letB b || figB b) = true := by
 rw [List.take_succ_eq_append_getElem (by rw [bts_len]; exact h)]
 intro b hb
 rcases List.mem_append.1 hb with hb | hb
 · exact hi b hb
 · simp only [List.mem_cons, List.not_mem_nil, or_false] at hb
   subst hb
   simpa using c
theorem word_all {s : ByteArray} {k : Nat} (h0 : 0 < s.size) (h1 : s.size ≤ 12) (c : (97 : Int) ≤ (((bts s)[0]'(by rw [bts_len]; exact h0)).toNat : Int) ∧ (((bts s)[0]'(by rw [bts_len]; exact h0)).toNat : Int) ≤ 122) (hk : s.size ≤ k)
   (hi : ∀ b ∈ (bts s).take k, (letB b || figB b) = true) : wordB s = true := by
 rw [List.take_of_length_le (by rw [bts_len]; exact hk)] at hi
 have e1 : letB ((bts s)[0]'(by rw [bts_len]; exact h0)) = true := by simp only [letB, c, and_self, decide_true]
 have e2 : (bts s).all (fun b => letB b || figB b) = true := List.all_eq_true.2 hi
 simp [wordB, head_bts h0, e1, e2, h1]
def F288 (a0 : Value) (w : World) (R : VW) : Prop :=
 RD tp (ln 9 3 a0) w fun x5 =>
 RD tp (bin .eql 3 T0 U0 x5 (Value.int .i64 0)) w fun x6 =>
 BR x6
 (R (Value.bool false) w)
 (RD tp (ln 9 3 a0) w fun x9 =>
 RD tp (bin .gtr 3 T0 U0 x9 (Value.int .i64 12)) w fun x10 =>
 BR x10
 (R (Value.bool false) w)
 (RD tp (Instr.index 9 a0 (Value.int .i64 0)) w fun x14 =>
 CALL tp 312 [x14] w fun x15 w =>
 RD tp (Op.unary .not x15) w fun x16 =>
 BR x16
 (R (Value.bool false) w)
 (LOOPI [3] [(Value.int .i64 0)] w fun u4 w next4 =>
 RD tp (ln 9 3 a0) w fun x20 =>
 RD tp (bin .lss 3 T0 T0 (u4 3) x20) w fun x21 =>
 BR x21
 (RD tp (Instr.index 9 a0 (u4 3)) w fun x26 =>
 CALL tp 312 [x26] w fun x27 w =>
 RD tp (Op.unary .not x27) w fun x28 =>
 BR x28
 (RD tp (Instr.index 9 a0 (u4 3)) w fun x32 =>
 CALL tp 313 [x32] w fun x33 w =>
 RD tp (Op.unary .not x33) w fun x34 =>
 BR x34
 (R (Value.bool false) w)
 (RD tp (bin .add 3 T0 U0 (u4 3) (Value.int .i64 1)) w fun x23 =>
 next4 [x23] w))
 (RD tp (bin .add 3 T0 U0 (u4 3) (Value.int .i64 1)) w fun x23 =>
 next4 [x23] w))
 (R (Value.bool true) w))))
def cfg288 : Cfg := ⟨extL, [], [(4, 68719214604, [3])], [], [], [], []⟩
theorem F288_eq (a0 : Value) (w : World) (R : VW) : vcF Tryz.prog cfg288 Tryz.f288 [a0] w R = F288 a0 w R := by kernel_rfl
theorem F288_call {a0 : Value} {w : World} {R : VW} (h : F288 a0 w R) : CALL Tryz.prog 288 [a0] w R :=
 call_of (g := cfg288) ent mixed Tryz.func288 (Nat.le_of_ble_eq_true (by kernel_rfl)) (by kernel_rfl) (F288_eq a0 w R ▸ h)
theorem l02Word_ok {w : World} {s : ByteArray}    :
   CALL Tryz.prog 288 [.string s] w fun r w' => Ext w w' ∧ (r = .bool (wordB s)) := by
 refine F288_call ?_
 unfold F288
 refine rd_lenS u9 ?_
 refine rd_eql ?_
 refine br (fun c1 => ?_) (fun c1 => ?_)
 · refine ⟨Ext.refl w, ?_⟩
   rw [word_empty (by omega)]
 · refine rd_lenS u9 ?_
   refine rd_gtr ?_
   refine br (fun c2 => ?_) (fun c2 => ?_)
   · refine ⟨Ext.refl w, ?_⟩
     rw [word_long (by omega)]
   · refine rd_indexS (i := 0) u9 (by omega) ?_
     refine (l02Letter_ok ).mono ?_
     rintro _ w1_ ⟨hx1_, rfl⟩
     refine rd_nodec ?_
     refine br (fun c3 => ?_) (fun c3 => ?_)
     · refine ⟨hx1_, ?_⟩
       rw [word_head (by omega) c3]
     · refine loopC (s.size) (fun k us w' => us = [.int .i64 (k : Int)] ∧ Ext w1_ w' ∧ (∀ b ∈ (bts s).take k, (letB b || figB b) = true)) (0) (by omega) ⟨by simp, Ext.refl w1_, by simp⟩ ?_
       rintro k m4 uu4 w2_ hk4 ⟨hu, hx2_, hinv⟩
       simp only [List.map_cons, List.map_nil, List.cons.injEq, and_true] at hu
       try rw [hu]
       try clear hu
       refine rd_lenS u9 ?_
       refine rd_lss ?_
       refine br (fun c4 => ?_) (fun c4 => ?_)
       · refine rd_indexS u9 (by omega) ?_
         refine (l02Letter_ok ).mono ?_
         rintro _ w3_ ⟨hx3_, rfl⟩
         refine rd_nodec ?_
         refine br (fun c5 => ?_) (fun c5 => ?_)
         · refine rd_indexS u9 (by omega) ?_
           refine (l02Figure_ok ).mono ?_
           rintro _ w4_ ⟨hx4_, rfl⟩
           refine rd_nodec ?_
           refine br (fun c6 => ?_) (fun c6 => ?_)
           · refine ⟨(hx1_.trans (hx2_.trans (hx3_.trans hx4_))), ?_⟩
             rw [word_at (by omega) c5 c6]
           · refine rd_inc (by omega) ?_
             refine ⟨m4 - 1, by omega, k + 1, by omega, by simp, (hx2_.trans (hx3_.trans hx4_)), ?_⟩
             exact word_step (by omega) hinv (.inr (by simp only [figB, Decidable.not_not.1 c6, and_self, decide_true]))
         · refine rd_inc (by omega) ?_
           refine ⟨m4 - 1, by omega, k + 1, by omega, by simp, (hx2_.trans hx3_), ?_⟩
           exact word_step (by omega) hinv (.inl (by simp only [letB, Decidable.not_not.1 c5, and_self, decide_true]))
       · refine ⟨(hx1_.trans hx2_), ?_⟩
         rw [word_all (by omega) (by omega) (Decidable.not_not.1 c3) (by omega) hinv]
def F245 (a0 : Value) (w : World) (R : VW) : Prop :=
 RD tp (bin .eql 9 T0 U0 a0 (Value.string (ByteArray.mk #[97, 110, 100]))) w fun x5 =>
 BR x5
 (R (Value.bool false) w)
 (RD tp (bin .eql 9 T0 U0 a0 (Value.string (ByteArray.mk #[99, 97, 108, 108]))) w fun x6 =>
 BR x6
 (R (Value.bool false) w)
 (RD tp (bin .eql 9 T0 U0 a0 (Value.string (ByteArray.mk #[101, 108, 115, 101]))) w fun x7 =>
 BR x7
 (R (Value.bool false) w)
 (RD tp (bin .eql 9 T0 U0 a0 (Value.string (ByteArray.mk #[103, 108, 111, 98, 97, 108, 115]))) w fun x8 =>
 BR x8
 (R (Value.bool false) w)
 (RD tp (bin .eql 9 T0 U0 a0 (Value.string (ByteArray.mk #[105, 102]))) w fun x9 =>
 BR x9
 (R (Value.bool false) w)
 (RD tp (bin .eql 9 T0 U0 a0 (Value.string (ByteArray.mk #[108, 111, 99, 107]))) w fun x10 =>
 BR x10
 (R (Value.bool false) w)
 (RD tp (bin .eql 9 T0 U0 a0 (Value.string (ByteArray.mk #[108, 111, 99, 107, 115]))) w fun x11 =>
 BR x11
 (R (Value.bool false) w)
 (RD tp (bin .eql 9 T0 U0 a0 (Value.string (ByteArray.mk #[110, 111, 116]))) w fun x12 =>
 BR x12
 (R (Value.bool false) w)
 (RD tp (bin .eql 9 T0 U0 a0 (Value.string (ByteArray.mk #[112, 114, 111, 99]))) w fun x13 =>
 BR x13
 (R (Value.bool false) w)
 (RD tp (bin .eql 9 T0 U0 a0 (Value.string (ByteArray.mk #[115, 107, 105, 112]))) w fun x14 =>
 BR x14
 (R (Value.bool false) w)
 (RD tp (bin .eql 9 T0 U0 a0 (Value.string (ByteArray.mk #[115, 112, 97, 119, 110]))) w fun x15 =>
 BR x15
 (R (Value.bool false) w)
 (RD tp (bin .eql 9 T0 U0 a0 (Value.string (ByteArray.mk #[117, 110, 108, 111, 99, 107]))) w fun x16 =>
 BR x16
 (R (Value.bool false) w)
 (RD tp (bin .eql 9 T0 U0 a0 (Value.string (ByteArray.mk #[119, 104, 105, 108, 101]))) w fun x17 =>
 BR x17
 (R (Value.bool false) w)
 (CALL tp 288 [a0] w fun x19 w =>
 R x19 w)))))))))))))
def cfg245 : Cfg := ⟨extL, [], [], [], [], [], []⟩
theorem F245_eq (a0 : Value) (w : World) (R : VW) : vcF Tryz.prog cfg245 Tryz.f245 [a0] w R = F245 a0 w R := by kernel_rfl
theorem F245_call {a0 : Value} {w : World} {R : VW} (h : F245 a0 w R) : CALL Tryz.prog 245 [a0] w R :=
 call_of (g := cfg245) ent mixed Tryz.func245 (Nat.le_of_ble_eq_true (by kernel_rfl)) (by kernel_rfl) (F245_eq a0 w R ▸ h)
theorem specIsName_ok {w : World} {s : ByteArray}    :
   CALL Tryz.prog 245 [.string s] w fun r w' => Ext w w' ∧ (r = .bool (nameB s)) := by
 refine F245_call ?_
 unfold F245
 refine rd_eqlS ?_
 refine br (fun c1 => ?_) (fun c1 => ?_)
 · refine ⟨Ext.refl w, ?_⟩
   have hm : s ∈ kw := by simp [kw, *]
   simp [nameB, hm]
 · refine rd_eqlS ?_
   refine br (fun c2 => ?_) (fun c2 => ?_)
   · refine ⟨Ext.refl w, ?_⟩
     have hm : s ∈ kw := by simp [kw, *]
     simp [nameB, hm]
   · refine rd_eqlS ?_
     refine br (fun c3 => ?_) (fun c3 => ?_)
     · refine ⟨Ext.refl w, ?_⟩
       have hm : s ∈ kw := by simp [kw, *]
       simp [nameB, hm]
     · refine rd_eqlS ?_
       refine br (fun c4 => ?_) (fun c4 => ?_)
       · refine ⟨Ext.refl w, ?_⟩
         have hm : s ∈ kw := by simp [kw, *]
         simp [nameB, hm]
       · refine rd_eqlS ?_
         refine br (fun c5 => ?_) (fun c5 => ?_)
         · refine ⟨Ext.refl w, ?_⟩
           have hm : s ∈ kw := by simp [kw, *]
           simp [nameB, hm]
         · refine rd_eqlS ?_
           refine br (fun c6 => ?_) (fun c6 => ?_)
           · refine ⟨Ext.refl w, ?_⟩
             have hm : s ∈ kw := by simp [kw, *]
             simp [nameB, hm]
           · refine rd_eqlS ?_
             refine br (fun c7 => ?_) (fun c7 => ?_)
             · refine ⟨Ext.refl w, ?_⟩
               have hm : s ∈ kw := by simp [kw, *]
               simp [nameB, hm]
             · refine rd_eqlS ?_
               refine br (fun c8 => ?_) (fun c8 => ?_)
               · refine ⟨Ext.refl w, ?_⟩
                 have hm : s ∈ kw := by simp [kw, *]
                 simp [nameB, hm]
               · refine rd_eqlS ?_
                 refine br (fun c9 => ?_) (fun c9 => ?_)
                 · refine ⟨Ext.refl w, ?_⟩
                   have hm : s ∈ kw := by simp [kw, *]
                   simp [nameB, hm]
                 · refine rd_eqlS ?_
                   refine br (fun c10 => ?_) (fun c10 => ?_)
                   · refine ⟨Ext.refl w, ?_⟩
                     have hm : s ∈ kw := by simp [kw, *]
                     simp [nameB, hm]
                   · refine rd_eqlS ?_
                     refine br (fun c11 => ?_) (fun c11 => ?_)
                     · refine ⟨Ext.refl w, ?_⟩
                       have hm : s ∈ kw := by simp [kw, *]
                       simp [nameB, hm]
                     · refine rd_eqlS ?_
                       refine br (fun c12 => ?_) (fun c12 => ?_)
                       · refine ⟨Ext.refl w, ?_⟩
                         have hm : s ∈ kw := by simp [kw, *]
                         simp [nameB, hm]
                       · refine rd_eqlS ?_
                         refine br (fun c13 => ?_) (fun c13 => ?_)
                         · refine ⟨Ext.refl w, ?_⟩
                           have hm : s ∈ kw := by simp [kw, *]
                           simp [nameB, hm]
                         · refine (l02Word_ok ).mono ?_
                           rintro _ w1_ ⟨hx1_, rfl⟩
                           refine ⟨hx1_, ?_⟩
                           have hm : s ∉ kw := by simp [kw, *]
                           simp [nameB, hm]
def F286 (a0 : Value) (w : World) (R : VW) : Prop :=
 RD tp (ln 9 3 a0) w fun x5 =>
 RD tp (bin .lss 3 T0 U0 x5 (Value.int .i64 1)) w fun x6 =>
 BR x6
 (R (Value.bool false) w)
 (RD tp (ln 9 3 a0) w fun x9 =>
 RD tp (bin .gtr 3 T0 U0 x9 (Value.int .i64 12)) w fun x10 =>
 BR x10
 (R (Value.bool false) w)
 (RD tp (Instr.index 9 a0 (Value.int .i64 0)) w fun x14 =>
 CALL tp 310 [x14] w fun x15 w =>
 RD tp (Op.unary .not x15) w fun x16 =>
 BR x16
 (R (Value.bool false) w)
 (LOOPI [3] [(Value.int .i64 0)] w fun u4 w next4 =>
 RD tp (ln 9 3 a0) w fun x20 =>
 RD tp (bin .lss 3 T0 T0 (u4 3) x20) w fun x21 =>
 BR x21
 (RD tp (Instr.index 9 a0 (u4 3)) w fun x26 =>
 CALL tp 310 [x26] w fun x27 w =>
 RD tp (Op.unary .not x27) w fun x28 =>
 BR x28
 (RD tp (Instr.index 9 a0 (u4 3)) w fun x32 =>
 CALL tp 311 [x32] w fun x33 w =>
 RD tp (Op.unary .not x33) w fun x34 =>
 BR x34
 (R (Value.bool false) w)
 (RD tp (bin .add 3 T0 U0 (u4 3) (Value.int .i64 1)) w fun x23 =>
 next4 [x23] w))
 (RD tp (bin .add 3 T0 U0 (u4 3) (Value.int .i64 1)) w fun x23 =>
 next4 [x23] w))
 (RD tp (bin .eql 9 T0 U0 a0 (Value.string (ByteArray.mk #[97, 110, 100]))) w fun x38 =>
 BR x38
 (R (Value.bool false) w)
 (RD tp (bin .eql 9 T0 U0 a0 (Value.string (ByteArray.mk #[99, 97, 108, 108]))) w fun x39 =>
 BR x39
 (R (Value.bool false) w)
 (RD tp (bin .eql 9 T0 U0 a0 (Value.string (ByteArray.mk #[101, 108, 115, 101]))) w fun x40 =>
 BR x40
 (R (Value.bool false) w)
 (RD tp (bin .eql 9 T0 U0 a0 (Value.string (ByteArray.mk #[103, 108, 111, 98, 97, 108, 115]))) w fun x41 =>
 BR x41
 (R (Value.bool false) w)
 (RD tp (bin .eql 9 T0 U0 a0 (Value.string (ByteArray.mk #[105, 102]))) w fun x42 =>
 BR x42
 (R (Value.bool false) w)
 (RD tp (bin .eql 9 T0 U0 a0 (Value.string (ByteArray.mk #[108, 111, 99, 107]))) w fun x43 =>
 BR x43
 (R (Value.bool false) w)
 (RD tp (bin .eql 9 T0 U0 a0 (Value.string (ByteArray.mk #[108, 111, 99, 107, 115]))) w fun x44 =>
 BR x44
 (R (Value.bool false) w)
 (RD tp (bin .eql 9 T0 U0 a0 (Value.string (ByteArray.mk #[110, 111, 116]))) w fun x45 =>
 BR x45
 (R (Value.bool false) w)
 (RD tp (bin .eql 9 T0 U0 a0 (Value.string (ByteArray.mk #[112, 114, 111, 99]))) w fun x46 =>
 BR x46
 (R (Value.bool false) w)
 (RD tp (bin .eql 9 T0 U0 a0 (Value.string (ByteArray.mk #[115, 107, 105, 112]))) w fun x47 =>
 BR x47
 (R (Value.bool false) w)
 (RD tp (bin .eql 9 T0 U0 a0 (Value.string (ByteArray.mk #[115, 112, 97, 119, 110]))) w fun x48 =>
 BR x48
 (R (Value.bool false) w)
 (RD tp (bin .eql 9 T0 U0 a0 (Value.string (ByteArray.mk #[117, 110, 108, 111, 99, 107]))) w fun x49 =>
 BR x49
 (R (Value.bool false) w)
 (RD tp (bin .eql 9 T0 U0 a0 (Value.string (ByteArray.mk #[119, 104, 105, 108, 101]))) w fun x50 =>
 BR x50
 (R (Value.bool false) w)
 (R (Value.bool true) w)))))))))))))))))
def cfg286 : Cfg := ⟨extL, [], [(4, 68719214604, [3])], [], [], [], []⟩
theorem F286_eq (a0 : Value) (w : World) (R : VW) : vcF Tryz.prog cfg286 Tryz.f286 [a0] w R = F286 a0 w R := by kernel_rfl
theorem F286_call {a0 : Value} {w : World} {R : VW} (h : F286 a0 w R) : CALL Tryz.prog 286 [a0] w R :=
 call_of (g := cfg286) ent mixed Tryz.func286 (Nat.le_of_ble_eq_true (by kernel_rfl)) (by kernel_rfl) (F286_eq a0 w R ▸ h)
theorem implIsName_ok {w : World} {s : ByteArray}    :
   CALL Tryz.prog 286 [.string s] w fun r w' => Ext w w' ∧ (r = .bool (nameB s)) := by
 refine F286_call ?_
 unfold F286
 refine rd_lenS u9 ?_
 refine rd_lss ?_
 refine br (fun c1 => ?_) (fun c1 => ?_)
 · refine ⟨Ext.refl w, ?_⟩
   simp [nameB, word_empty (s := s) (by omega)]
 · refine rd_lenS u9 ?_
   refine rd_gtr ?_
   refine br (fun c2 => ?_) (fun c2 => ?_)
   · refine ⟨Ext.refl w, ?_⟩
     simp [nameB, word_long (s := s) (by omega)]
   · refine rd_indexS (i := 0) u9 (by omega) ?_
     refine (isSmall_ok ).mono ?_
     rintro _ w1_ ⟨hx1_, rfl⟩
     refine rd_nodec ?_
     refine br (fun c3 => ?_) (fun c3 => ?_)
     · refine ⟨hx1_, ?_⟩
       simp [nameB, word_head (s := s) (by omega) c3]
     · refine loopC (s.size) (fun k us w' => us = [.int .i64 (k : Int)] ∧ Ext w1_ w' ∧ (∀ b ∈ (bts s).take k, (letB b || figB b) = true)) (0) (by omega) ⟨by simp, Ext.refl w1_, by simp⟩ ?_
       rintro k m4 uu4 w2_ hk4 ⟨hu, hx2_, hinv⟩
       simp only [List.map_cons, List.map_nil, List.cons.injEq, and_true] at hu
       try rw [hu]
       try clear hu
       refine rd_lenS u9 ?_
       refine rd_lss ?_
       refine br (fun c4 => ?_) (fun c4 => ?_)
       · refine rd_indexS u9 (by omega) ?_
         refine (isSmall_ok ).mono ?_
         rintro _ w3_ ⟨hx3_, rfl⟩
         refine rd_nodec ?_
         refine br (fun c5 => ?_) (fun c5 => ?_)
         · refine rd_indexS u9 (by omega) ?_
           refine (isFigure_ok ).mono ?_
           rintro _ w4_ ⟨hx4_, rfl⟩
           refine rd_nodec ?_
           refine br (fun c6 => ?_) (fun c6 => ?_)
           · refine ⟨(hx1_.trans (hx2_.trans (hx3_.trans hx4_))), ?_⟩
             simp [nameB, word_at (s := s) (by omega) c5 c6]
           · refine rd_inc (by omega) ?_
             refine ⟨m4 - 1, by omega, k + 1, by omega, by simp, (hx2_.trans (hx3_.trans hx4_)), ?_⟩
             exact word_step (by omega) hinv (.inr (by simp only [figB, Decidable.not_not.1 c6, and_self, decide_true]))
         · refine rd_inc (by omega) ?_
           refine ⟨m4 - 1, by omega, k + 1, by omega, by simp, (hx2_.trans hx3_), ?_⟩
           exact word_step (by omega) hinv (.inl (by simp only [letB, Decidable.not_not.1 c5, and_self, decide_true]))
       · refine rd_eqlS ?_
         refine br (fun c7 => ?_) (fun c7 => ?_)
         · refine ⟨(hx1_.trans hx2_), ?_⟩
           have hm : s ∈ kw := by simp only [kw, List.mem_cons, *, true_or, or_true]
           simp [nameB, hm]
         · refine rd_eqlS ?_
           refine br (fun c8 => ?_) (fun c8 => ?_)
           · refine ⟨(hx1_.trans hx2_), ?_⟩
             have hm : s ∈ kw := by simp only [kw, List.mem_cons, *, true_or, or_true]
             simp [nameB, hm]
           · refine rd_eqlS ?_
             refine br (fun c9 => ?_) (fun c9 => ?_)
             · refine ⟨(hx1_.trans hx2_), ?_⟩
               have hm : s ∈ kw := by simp only [kw, List.mem_cons, *, true_or, or_true]
               simp [nameB, hm]
             · refine rd_eqlS ?_
               refine br (fun c10 => ?_) (fun c10 => ?_)
               · refine ⟨(hx1_.trans hx2_), ?_⟩
                 have hm : s ∈ kw := by simp only [kw, List.mem_cons, *, true_or, or_true]
                 simp [nameB, hm]
               · refine rd_eqlS ?_
                 refine br (fun c11 => ?_) (fun c11 => ?_)
                 · refine ⟨(hx1_.trans hx2_), ?_⟩
                   have hm : s ∈ kw := by simp only [kw, List.mem_cons, *, true_or, or_true]
                   simp [nameB, hm]
                 · refine rd_eqlS ?_
                   refine br (fun c12 => ?_) (fun c12 => ?_)
                   · refine ⟨(hx1_.trans hx2_), ?_⟩
                     have hm : s ∈ kw := by simp only [kw, List.mem_cons, *, true_or, or_true]
                     simp [nameB, hm]
                   · refine rd_eqlS ?_
                     refine br (fun c13 => ?_) (fun c13 => ?_)
                     · refine ⟨(hx1_.trans hx2_), ?_⟩
                       have hm : s ∈ kw := by simp only [kw, List.mem_cons, *, true_or, or_true]
                       simp [nameB, hm]
                     · refine rd_eqlS ?_
                       refine br (fun c14 => ?_) (fun c14 => ?_)
                       · refine ⟨(hx1_.trans hx2_), ?_⟩
                         have hm : s ∈ kw := by simp only [kw, List.mem_cons, *, true_or, or_true]
                         simp [nameB, hm]
                       · refine rd_eqlS ?_
                         refine br (fun c15 => ?_) (fun c15 => ?_)
                         · refine ⟨(hx1_.trans hx2_), ?_⟩
                           have hm : s ∈ kw := by simp only [kw, List.mem_cons, *, true_or, or_true]
                           simp [nameB, hm]
                         · refine rd_eqlS ?_
                           refine br (fun c16 => ?_) (fun c16 => ?_)
                           · refine ⟨(hx1_.trans hx2_), ?_⟩
                             have hm : s ∈ kw := by simp only [kw, List.mem_cons, *, true_or, or_true]
                             simp [nameB, hm]
                           · refine rd_eqlS ?_
                             refine br (fun c17 => ?_) (fun c17 => ?_)
                             · refine ⟨(hx1_.trans hx2_), ?_⟩
                               have hm : s ∈ kw := by simp only [kw, List.mem_cons, *, true_or, or_true]
                               simp [nameB, hm]
                             · refine rd_eqlS ?_
                               refine br (fun c18 => ?_) (fun c18 => ?_)
                               · refine ⟨(hx1_.trans hx2_), ?_⟩
                                 have hm : s ∈ kw := by simp only [kw, List.mem_cons, *, true_or, or_true]
                                 simp [nameB, hm]
                               · refine rd_eqlS ?_
                                 refine br (fun c19 => ?_) (fun c19 => ?_)
                                 · refine ⟨(hx1_.trans hx2_), ?_⟩
                                   have hm : s ∈ kw := by simp only [kw, List.mem_cons, *, true_or, or_true]
                                   simp [nameB, hm]
                                 · refine ⟨(hx1_.trans hx2_), ?_⟩
                                   have hm : s ∉ kw := by simp only [kw, List.mem_cons, List.not_mem_nil, or_false, *, not_false_eq_true]
                                   simp [nameB, hm, word_all (by omega) (by omega) (Decidable.not_not.1 c3) (by omega) hinv]
end Go.Proofs.YtjgfldfbljmhhaaGreat
namespace Go.Sh
set_option linter.unusedVariables false
set_option linter.unusedSimpArgs false
set_option linter.unusedSectionVars false
open Go.RowKit (Below)
open Rep (rep)
theorem fold_set (off : Nat) : ∀ (l : List Value) (k : Nat) (cs : Array Value),
   ((l.zipIdx k).foldl (fun (cs : Array Value) (p : Value × Nat) => cs.setIfInBounds (off + p.2) p.1) cs).size = cs.size ∧
   ∀ i, ((l.zipIdx k).foldl (fun (cs : Array Value) (p : Value × Nat) => cs.setIfInBounds (off + p.2) p.1) cs)[i]? = if off + k ≤ i ∧ i < off + k + l.length ∧ i < cs.size then l[i - (off + k)]? else cs[i]?
 | [], k, cs => by
   refine ⟨rfl, fun i => ?_⟩
   rw [if_neg (by simp; omega)]
   rfl
 | v :: l, k, cs => by
   obtain ⟨h1, h2⟩ := fold_set off l (k + 1) (cs.setIfInBounds (off + k) v)
   simp only [List.zipIdx_cons, List.foldl_cons]
   refine ⟨by rw [h1]; simp, fun i => ?_⟩
   rw [h2]
   simp only [Array.size_setIfInBounds, List.length_cons]
   by_cases hi : i = off + k
   · subst hi
     rw [if_neg (by omega)]
     by_cases hs : off + k < cs.size
     · rw [if_pos (by omega)]; simp [hs]
     · rw [if_neg (by omega), Array.getElem?_eq_none (by rw [Array.size_setIfInBounds]; omega), Array.getElem?_eq_none (by omega)]
   · by_cases hr : off + (k + 1) ≤ i ∧ i < off + (k + 1) + l.length ∧ i < cs.size
     · rw [if_pos hr, if_pos (by omega)]
       have : i - (off + k) = (i - (off + (k + 1))) + 1 := by omega
       rw [this, List.getElem?_cons_succ]
     · rw [if_neg hr, if_neg (by omega), Array.getElem?_setIfInBounds_ne (by omega)]
theorem fill_one (v : Value) (cells : Array Value) (s : Nat) (hv : v.cells.size = s) (hc : cells.size = s) : Instr.fill (fun i => some (i * s, s)) cells [(0, v)] = some v.cells := by
 unfold Instr.fill
 simp only [Nat.zero_mul]
 rw [if_neg (by simp; omega)]
 unfold Instr.fill
 congr 1
 obtain ⟨h1, h2⟩ := fold_set 0 v.cells.toList 0 cells
 have e : v.cells.zipIdx.foldl (fun (cs : Array Value) (x : Value × Nat) => match x with | (c, j) => cs.setIfInBounds (0 + j) c) cells
     = (v.cells.toList.zipIdx 0).foldl (fun (cs : Array Value) (p : Value × Nat) => cs.setIfInBounds (0 + p.2) p.1) cells := by
   rw [← Array.foldl_toList, Array.toList_zipIdx]
 rw [e]
 apply Array.ext_getElem?
 intro i
 rw [h2]
 by_cases hi : i < s
 · rw [if_pos (by simp; omega)]; simp
 · rw [if_neg (by simp; omega), Array.getElem?_eq_none (by omega), Array.getElem?_eq_none (by omega)]
section
variable {w w' w'' : World} {lo hi a b : Nat}
end
def RowI {α : Type} [Rep α] (lo hi : Nat) (e : TypeId) (w : World) (v : Value) (l : List α) : Prop := (∃ a, v = .slice a 0 0 ∧ l = []) ∨ ∃ F, RowF F e w v l ∧ F.Nodup ∧ ∀ b ∈ F, lo ≤ b ∧ b < hi
section
variable {P : Program} {w w0 w' : World} {α : Type} [Rep α] {lo hi a b e : Nat} {v : Value} {l : List α}
theorem ownI_zcap (a : Option Addr) : OwnI (α := List α) lo hi w (.slice a 0 0) [] :=
 ⟨[], ⟨⟨_, ⟨a, 0, [], [], rfl, Nat.le_refl _, Nat.zero_le _, ⟨rfl, rfl⟩, .inl ⟨rfl, rfl⟩⟩, rfl⟩, List.nodup_nil, Wr.nil w⟩, by simp⟩
theorem RowI.ext (h : RowI lo hi e w v l) (hx : Ext w w') : RowI lo hi e w' v l := by
 rcases h with h | ⟨F, h1, h2, h3⟩
 · exact .inl h
 · exact .inr ⟨F, h1.ext hx, h2, h3⟩
theorem RowI.chg (h : RowI lo hi e w v l) (hc : ChgI a b w w') (hd : hi ≤ a ∨ b ≤ lo) : RowI lo hi e w' v l := by
 rcases h with h | ⟨F, h1, h2, h3⟩
 · exact .inl h
 · exact .inr ⟨F, h1.keep fun c hcm => hc.block c (h1.lt c hcm) (by have := h3 c hcm; omega), h2, h3⟩
theorem RowI.own (h : RowI lo hi e w v l) : OwnI lo hi w v l := by
 rcases h with ⟨a, rfl, rfl⟩ | ⟨F, h1, h2, h3⟩
 · exact ownI_zcap a
 · exact ⟨F, ⟨h1.own, h2, h1.wr⟩, h3⟩
theorem RowI.is (h : RowI lo hi e w v l) : Is w v l := h.own.is
theorem RowI.mono {lo' hi' : Nat} (h : RowI lo hi e w v l) (h1 : lo' ≤ lo) (h2 : hi ≤ hi') : RowI lo' hi' e w v l := by
 rcases h with h | ⟨F, h1, h2, h3⟩
 · exact .inl h
 · exact .inr ⟨F, h1, h2, fun b hb => by have := h3 b hb; omega⟩
theorem rowI_zcap (lo hi e : Nat) (w : World) (a : Option Addr) : RowI (α := α) lo hi e w (.slice a 0 0) [] := .inl ⟨a, rfl, rfl⟩
theorem rowI_nil (lo hi e : Nat) (w : World) : RowI (α := α) lo hi e w (.slice none 0 0) [] := .inl ⟨none, rfl, rfl⟩
theorem rowF_none (e : Nat) (w : World) : RowF (α := α) [] e w (.slice none 0 0) [] := ⟨[], [], ⟨by simp, .inl ⟨rfl, rfl⟩⟩, ⟨rfl, rfl⟩, rfl, Wr.nil _⟩
theorem op_of_eq {m1 m2 : Sem Value} {K : Value → World → Prop} (h : m1.run P w = m2.run P w) (k : OP P m2 w K) : OP P m1 w K := by
 obtain ⟨v, w', hr, hk⟩ := k; exact ⟨v, w', h.trans hr, hk⟩
theorem append_zcap {t ty : TypeId} {by_ n c : Nat} {x : Addr} {b o : Nat} {xs : List Value} (ht : P.underlying t = some (.slice e)) (he : tyI P e = some (Rep.size α, by_, Rep.agg α)) (hzc : (P.info? e).map (fun i => (i.zero.map (·.cells.size))) = some (some (Rep.size α)))
   (hl : xs.length = n * Rep.size α) (hr : w.rangeAt b o xs) (h0 : 0 < n) (hm : n ≤ maxLen) (hb : n * by_ ≤ 140737488355328) :
   (Builtin.append_ #[t, t] ty #[.slice (some x) 0 0, .slice (some ⟨b, o, none⟩) n c]).run P w = (Builtin.append_ #[t, t] ty #[.slice none 0 0, .slice (some ⟨b, o, none⟩) n c]).run P w := by
 obtain ⟨i, d, hi, hd, hs, hby, hg⟩ := tyI_info he
 simp only [hi, Option.map_some, Option.some.injEq] at hzc
 obtain ⟨z, hz, hzs⟩ := Option.map_eq_some_iff.1 hzc
 rw [maxLen_eq] at hm
 have h1 := run_append_nil (P := P) w t ty e i z ht hi hz ⟨b, o, none⟩ n c xs (by rw [hs]; exact hl) (fun j u hu => by rw [Addr.add_mid]; exact hr j u hu) h0 (by omega) (by rw [hby]; omega)
 have h2 := run_append_grow (P := P) w t ty e i z ht hi hz x 0 0 [] (by simp) (by simp) ⟨b, o, none⟩ n c xs (by rw [hs]; exact hl) (fun j u hu => by rw [Addr.add_mid]; exact hr j u hu) (by omega) (by omega) (growslice_fits (by omega) (by rw [hby]; simpa using hb))
 rw [h1, h2]
 simp
theorem op_build1 {t : TypeId} {by_ : Nat} {u : Value} {x : α} {K : Value → World → Prop} (ht : P.underlying t = some (.slice e)) (he : tyI P e = some (Rep.size α, by_, Rep.agg α)) (hz : zeroOf P e = true) (hsz : Rep.size α ≤ 1000)
   {F : List Nat} (hx : Mine F w u x)
   (k : ∀ w', Ext w w' → Mine (w.heap.size :: F) w' (.slice (some ⟨w.heap.size, 0, none⟩) 1 1) [x] → K (.slice (some ⟨w.heap.size, 0, none⟩) 1 1) w') : OP P (Instr.buildSlice t 1 #[(0, u)]) w K := by
 obtain ⟨⟨cs, hr, rfl⟩, hn, hw⟩ := hx
 have hcl := mkv_cells hr
 have hlen := Rep.len hr
 have hvs : (mkv α cs).cells.size = Rep.size α := by rw [← Array.length_toList, hcl, hlen]
 obtain ⟨i, d, hi, hd, hs, hby, hg⟩ := tyI_info he
 unfold zeroOf at hz
 rw [hi] at hz
 obtain ⟨z, hz⟩ := Option.isSome_iff_exists.1 hz
 have hpos := Rep.pos (α := α)
 refine ⟨_, w.alloc (.cells (mkv α cs).cells e), ?_, k _ (ext_alloc w _) ?_⟩
 · have hne : ¬ Rep.size α = 0 := by omega
   have h24 : ¬ 2 ^ 24 < Rep.size α := by omega
   simp only [Instr.buildSlice, Sem.run_bind, run_underlying ht, Result.andThen_ok, run_sizeOf' he, Nat.one_mul]
   simp [h24, hne, zeroValue, typeInfo, hi, hz, fill_one _ _ _ hvs, newRow]
 · have hx := ext_alloc w (.cells (mkv α cs).cells e)
   have hB : (w.alloc (.cells (mkv α cs).cells e)).heap[w.heap.size]? = some (.cells (mkv α cs).cells e (0, 0)) := heap_alloc_new w _
   have hFlt := Rep.lt hr
   refine ⟨⟨_, ⟨_, 1, F, cs, rfl, Nat.le_refl _, by rw [maxLen_eq]; omega, Cells.single (rep_ext hr hx), .inr ⟨w.heap.size, 0, rfl, rfl, ?_, ?_⟩⟩, rfl⟩, ?_, ?_⟩
   · intro j y hy
     simp only [World.cell?, hB]
     rw [← hcl] at hy
     simpa using hy
   · exact (Array.getElem?_eq_some_iff.1 hB).1
   · exact List.nodup_cons.2 ⟨fun h => by have := hFlt _ h; omega, hn⟩
   · intro c hc
     rcases List.mem_cons.1 hc with rfl | hc
     · exact ⟨_, _, hB⟩
     · exact hw.ext hx c hc
theorem op_build1I {t : TypeId} {by_ : Nat} {u : Value} {x : α} {K : Value → World → Prop} (ht : P.underlying t = some (.slice e)) (he : tyI P e = some (Rep.size α, by_, Rep.agg α)) (hz : zeroOf P e = true) (hsz : Rep.size α ≤ 1000)
   (hx : OwnI lo hi w u x) (hlo : lo ≤ w.heap.size)
   (k : ∀ v w', Ext w w' → OwnI lo w'.heap.size w' v [x] → K v w') : OP P (Instr.buildSlice t 1 #[(0, u)]) w K := by
 obtain ⟨F, hm, hF⟩ := hx
 refine op_build1 ht he hz hsz hm fun w' hxx hm' => k _ w' hxx ⟨_, hm', fun b hb => ⟨?_, hm'.lt b hb⟩⟩
 rcases List.mem_cons.1 hb with rfl | hb
 · exact hlo
 · exact (hF b hb).1
theorem op_build0I {t : TypeId} {by_ : Nat} {K : Value → World → Prop} (ht : P.underlying t = some (.slice e)) (he : tyI P e = some (Rep.size α, by_, Rep.agg α))
   (k : ∀ a w', Ext w w' → RowI (α := α) w'.heap.size w'.heap.size e w' (.slice (some a) 0 0) [] → K (.slice (some a) 0 0) w') : OP P (Instr.buildSlice t 0 #[]) w K :=
 op_build0 (α := α) ht he fun a w' hx hr => k _ w' hx (rowI_zcap _ _ _ _ _)
theorem op_pushG {t ty : TypeId} {by_ : Nat} {u : Value} {x : α} {lo2 hi2 : Nat} {K C : Value → World → Prop} (ht : P.underlying t = some (.slice e)) (he : tyI P e = some (Rep.size α, by_, Rep.agg α)) (hz : zeroOf P e = true)
   (hzc : (P.info? e).map (fun i => (i.zero.map (·.cells.size))) = some (some (Rep.size α))) (hsz : Rep.size α ≤ 1000) (hv : RowI lo hi e w v l) (hlo : lo ≤ w.heap.size) (hx : OwnI lo2 hi2 w u x) (hl : hi ≤ lo2) (hl2 : lo ≤ lo2) (hm : l.length + 1 ≤ maxLen) (hb : (l.length + 1) * by_ ≤ 140737488355328)
   (k : ∀ v' w', ChgI lo hi w w' → RowI lo w'.heap.size e w' v' (l ++ [x]) → K v' w')
   (hC : ∀ s w1, Ext w w1 → OP P (Builtin.append_ #[t, t] ty [v, s].toArray) w1 K → C s w1) : OP P (Instr.buildSlice t 1 #[(0, u)]) w C := by
 obtain ⟨G, hmx, hG⟩ := hx
 refine op_build1 ht he hz hsz hmx fun w1 hx1 hm1 => ?_
 obtain ⟨⟨cs, ⟨a, cap, Fi, xs, rfl, h1, h2, hc, h4⟩, hveq⟩, hn1, hw1⟩ := hm1
 simp only [mkv, Rep.agg, cond_false, List.headD_cons, Value.slice.injEq, List.length_cons, List.length_nil] at hveq
 obtain ⟨rfl, _, rfl⟩ := hveq
 rcases h4 with ⟨h4, _⟩ | ⟨b, o, hab, hFe, hra, hbl⟩
 · simp at h4
 simp only [List.cons.injEq] at hFe
 obtain ⟨_, rfl⟩ := hFe
 have key : ∀ (v : Value) (F : List Nat), RowF F e w v l → F.Nodup → (∀ b ∈ F, lo ≤ b ∧ b < hi) → OP P (Builtin.append_ #[t, t] ty [v, .slice (some ⟨w.heap.size, 0, none⟩) 1 1].toArray) w1 K := by
   intro v F hF hFn hFl
   have hF1 := hF.ext hx1
   have hd : (G ++ F).Nodup := by
     rw [List.nodup_append]
     refine ⟨hmx.nodup, hFn, fun p hp q hq e => ?_⟩
     subst e
     have := hG p hp
     have := hFl p hq
     omega
   refine op_append (m := [x]) ht he hzc hF1 hFn rfl hc (.inr ⟨b, o, hab, hra⟩) (hw1.sub (by simp +contextual)) hd (by simpa using hm) (by simpa using hb) fun v' w' F' hch hfull hr' hn' hs' => ?_
   have hown : ∀ c ∈ v.ownBlock.toList, lo ≤ c ∧ c < hi := fun c hc => by
     obtain ⟨xs, Fi, _, _, rfl, _⟩ := hF
     exact hFl c (by simp only [List.mem_append]; exact .inl hc)
   refine k v' w' ((Ext.toI hx1).trans (hch.toI hown)) (.inr ⟨F', hr', hn', fun c hc => ⟨?_, hr'.lt c hc⟩⟩)
   rcases hs' c hc with h | h | h
   · exact (hFl c h).1
   · have := hG c h; omega
   · have := hx1.size; omega
 refine hC _ w1 hx1 ?_
 rcases hv with ⟨a0, rfl, rfl⟩ | ⟨F, hF, hFn, hFl⟩
 · have kn := key (.slice none 0 0) [] (rowF_none e w) List.nodup_nil (by simp)
   cases a0 with
   | none => exact kn
   | some x0 =>
     simp only [Option.some.injEq, Addr.mk.injEq] at hab
     obtain ⟨rfl, rfl, _⟩ := hab
     exact op_of_eq (append_zcap (α := α) (n := 1) ht he hzc (by simpa using Cells.len hc) hra (by omega) (by rw [maxLen_eq]; omega) (by simpa using hb)) kn
 · exact key v F hF hFn hFl
theorem op_push {t ty : TypeId} {by_ : Nat} {u : Value} {x : α} {lo2 hi2 : Nat} {K : Value → World → Prop} (ht : P.underlying t = some (.slice e)) (he : tyI P e = some (Rep.size α, by_, Rep.agg α)) (hz : zeroOf P e = true)
   (hzc : (P.info? e).map (fun i => (i.zero.map (·.cells.size))) = some (some (Rep.size α))) (hsz : Rep.size α ≤ 1000) (hv : RowI lo hi e w v l) (hlo : lo ≤ w.heap.size) (hx : OwnI lo2 hi2 w u x) (hl : hi ≤ lo2) (hl2 : lo ≤ lo2) (hm : l.length + 1 ≤ maxLen) (hb : (l.length + 1) * by_ ≤ 140737488355328)
   (k : ∀ v' w', ChgI lo hi w w' → RowI lo w'.heap.size e w' v' (l ++ [x]) → K v' w') : OP P (Instr.buildSlice t 1 #[(0, u)]) w fun s w1 => OP P (Builtin.append_ #[t, t] ty [v, s].toArray) w1 K :=
 op_pushG ht he hz hzc hsz hv hlo hx hl hl2 hm hb k fun _ _ _ h => h
theorem op_appendI [Flat α] {t ty : TypeId} {by_ : Nat} {src : Value} {m : List α} {K : Value → World → Prop} (ht : P.underlying t = some (.slice e)) (he : tyI P e = some (Rep.size α, by_, Rep.agg α))
   (hzc : (P.info? e).map (fun i => (i.zero.map (·.cells.size))) = some (some (Rep.size α))) (hv : RowI lo hi e w v l) (hlo : lo ≤ w.heap.size) (hs : Is w0 src m) (hx : Ext w0 w) (hm : l.length + m.length ≤ maxLen) (hb : (l.length + m.length) * by_ ≤ 140737488355328)
   (k : ∀ v' w', ChgI lo hi w w' → RowI lo w'.heap.size e w' v' (l ++ m) → K v' w') : OP P (Builtin.append_ #[t, t] ty [v, src].toArray) w K := by
 obtain ⟨a, cap, Fi, xs, rfl, h1, h2, hc, h4⟩ := is_list (hs.ext hx)
 have hFi := Cells.flat (xs := xs) hc
 subst hFi
 have key : ∀ (v : Value) (F : List Nat), RowF F e w v l → F.Nodup → (∀ b ∈ F, lo ≤ b ∧ b < hi) → OP P (Builtin.append_ #[t, t] ty [v, .slice a m.length cap].toArray) w K := by
   intro v F hF hFn hFl
   refine op_append (m := m) ht he hzc hF hFn rfl hc (by rcases h4 with h | ⟨b, o, ha, hr, _⟩; exact .inl h; exact .inr ⟨b, o, ha, hr⟩) (Wr.nil _) (by simpa using hFn) hm hb fun v' w' F' hch hfull hr' hn' hs' => ?_
   have hown : ∀ c ∈ v.ownBlock.toList, lo ≤ c ∧ c < hi := fun c hc => by
     obtain ⟨xs, Fi, _, _, rfl, _⟩ := hF
     exact hFl c (by simp only [List.mem_append]; exact .inl hc)
   refine k v' w' (hch.toI hown) (.inr ⟨F', hr', hn', fun c hc => ⟨?_, hr'.lt c hc⟩⟩)
   rcases hs' c hc with h | h | h
   · exact (hFl c h).1
   · simp at h
   · omega
 rcases hv with ⟨a0, rfl, rfl⟩ | ⟨F, hF, hFn, hFl⟩
 · have kn := key (.slice none 0 0) [] (rowF_none e w) List.nodup_nil (by simp)
   cases a0 with
   | none => exact kn
   | some x0 =>
     by_cases hm0 : m = []
     · subst hm0
       refine ⟨.slice (some x0) 0 0, w, ?_, k _ w (ChgI.refl w) (rowI_zcap _ _ _ _ _)⟩
       have hf : (Builtin.firstCells (Rep.size α) 0 (.slice a 0 cap)).run P w = .ok #[] w := by
         cases a with
         | none => rfl
         | some a => simp [Builtin.firstCells, loadCells, loadCellsFrom]
       simp [Builtin.append_, run_underlying ht, run_sizeOf' he, Builtin.lenOf, hf, storeCells]
     · rcases h4 with h | ⟨b, o, rfl, hr, _⟩
       · exact absurd h hm0
       · exact op_of_eq (append_zcap (α := α) ht he hzc (Cells.len hc) hr (List.length_pos_iff.2 hm0) (by simpa using hm) (by simpa using hb)) kn
 · exact key v F hF hFn hFl
theorem is_take {a : Option Addr} {cap : Nat} {l : List α} (h : Is w (.slice a l.length cap) l) (k : Nat) (hk : k ≤ l.length) : Is w (.slice a k cap) (l.take k) := by
 obtain ⟨F, cs, ⟨a', cap', Fi, xs, rfl, h1, h2, hc, h4⟩, hv⟩ := h
 simp only [mkv, Rep.agg, cond_false, List.headD_cons, Value.slice.injEq] at hv
 obtain ⟨rfl, _, rfl⟩ := hv
 have e : l = l.take k ++ l.drop k := by simp
 have hlen : (l.take k).length = k := by simp; omega
 rw [e] at hc
 obtain ⟨F1, F2, x1, x2, rfl, rfl, c1, c2⟩ := Cells.split hc
 by_cases hd : l.take k = []
 · refine ⟨[], _, ⟨a, cap, F1, x1, rfl, by rw [hlen]; omega, h2, c1, .inl ⟨hd, rfl⟩⟩, ?_⟩
   rw [hlen]; rfl
 · rcases h4 with ⟨rfl, _⟩ | ⟨b, o, rfl, rfl, hr, hb⟩
   · simp at hd
   · refine ⟨_, _, ⟨some ⟨b, o, none⟩, cap, F1, x1, rfl, by rw [hlen]; omega, h2, c1, .inr ⟨b, o, rfl, rfl, (rangeAt_append hr).1, hb⟩⟩, ?_⟩
     rw [hlen]; rfl
theorem rd_slice_to {t : TypeId} {by_ : Nat} {v : Value} {l : List α} {i : Int} {K : Value → Prop} (ht : P.underlying t = some (.slice e)) (he : tyI P e = some (Rep.size α, by_, Rep.agg α)) (h : Is w0 v l) (h0 : 0 ≤ i) (h1 : i.toNat ≤ l.length)
   (k : ∀ v', Is w0 v' (l.take i.toNat) → K v') : RD P (Instr.sliceAt t v none (some (.int .i64 i)) none) w K := by
 obtain ⟨a, cap, Fi, xs, rfl, hc1, hcm, _, h4⟩ := is_list h
 have hb : ∀ w', (Instr.sliceBounds true l.length cap none (some (.int .i64 i)) none).run P w' = .ok (0, i.toNat, cap) w' := fun w' => by
   have : i ≤ (cap : Int) := by omega
   simp [Instr.sliceBounds, Instr.sliceBound, asIntOf, h0, this]
 refine rd_of (v := .slice a i.toNat cap) (fun w' _ => ?_) (k _ (is_take h i.toNat h1))
 have hz : (if cap = 0 then a else a.map (fun x => x.add (0 * Rep.size α))) = a := by
   split
   · rfl
   · cases a <;> simp [Addr.add_mid, Addr.add]
 simp only [Instr.sliceAt, Instr.slice, Sem.run_bind, run_underlying ht, Result.andThen_ok, hb, run_sizeOf' he]
 simp
 exact fun _ => by cases a <;> simp [Addr.add_mid, Addr.add]
theorem rd_slice_both {t : TypeId} {by_ : Nat} {v : Value} {l : List α} {i j : Int} {K : Value → Prop} (ht : P.underlying t = some (.slice e)) (he : tyI P e = some (Rep.size α, by_, Rep.agg α)) (h : Is w0 v l) (h0 : 0 ≤ i) (h1 : i ≤ j) (h2 : j.toNat ≤ l.length)
   (k : ∀ v', Is w0 v' ((l.take j.toNat).drop i.toNat) → K v') : RD P (Instr.sliceAt t v (some (.int .i64 i)) (some (.int .i64 j)) none) w K := by
 obtain ⟨a, cap, Fi, xs, rfl, hc1, hcm, _, h4⟩ := is_list h
 have hb : ∀ w', (Instr.sliceBounds true l.length cap (some (.int .i64 i)) (some (.int .i64 j)) none).run P w' = .ok (i.toNat, j.toNat, cap) w' := fun w' => by
   have h3 : j ≤ (cap : Int) := by omega
   have h5 : 0 ≤ j := by omega
   simp [Instr.sliceBounds, Instr.sliceBound, asIntOf, h0, h1, h3, h5]
   intro h6
   omega
 have hl : (l.take j.toNat).length = j.toNat := by rw [List.length_take]; omega
 have ht1 : Is w0 (.slice a (l.take j.toNat).length cap) (l.take j.toNat) := by rw [hl]; exact is_take h j.toNat h2
 have hd := is_drop ht1 i.toNat (by omega) (Rep.size α) rfl
 rw [hl] at hd
 refine rd_of (fun w' _ => ?_) (k _ hd)
 simp only [Instr.sliceAt, Instr.slice, Sem.run_bind, run_underlying ht, Result.andThen_ok, hb, run_sizeOf' he]
 simp
def AtB {α : Type} [Rep α] (W w : World) (b o : Nat) (x : α) : Prop := ∃ F cs, rep F W cs x ∧ w.rangeAt b o cs
theorem AtB.keep {W w' : World} {b o : Nat} {x : α} (h : AtB W w b o x) (hb : w'.heap[b]? = w.heap[b]?) : AtB W w' b o x := by
 obtain ⟨F, cs, hr, ha⟩ := h; exact ⟨F, cs, hr, rangeAt_keep ha hb⟩
theorem AtB.ext {W : World} {b o : Nat} {x : α} (h : AtB W w b o x) (hx : Ext w w') : AtB W w' b o x := by
 obtain ⟨F, cs, hr, ha⟩ := h; exact ⟨F, cs, hr, rangeAt_ext ha hx⟩
theorem AtB.at {W : World} {b o : Nat} {x : α} (h : AtB W w b o x) (hx : Ext W w) : At w b o x := by
 obtain ⟨F, cs, hr, ha⟩ := h; exact ⟨F, cs, rep_ext hr hx, ha⟩
theorem AtB.snd {β : Type} [Rep β] {W : World} {b o : Nat} {p : α × β} (h : AtB W w b o p) : AtB W w b (o + Rep.size α) p.2 := by
 obtain ⟨F, cs, ⟨F1, F2, c1, c2, rfl, rfl, h1, h2⟩, hr⟩ := h
 have := (rangeAt_append hr).2
 rw [Rep.len h1] at this
 exact ⟨F2, c2, h2, this⟩
theorem rd_loadAB {W : World} {t by_ b o : Nat} {x : α} {K : Value → Prop} (ht : tyI P t = some (Rep.size α, by_, Rep.agg α)) (h : AtB W w0 b o x) (hW : Ext W w0) (hx : Ext w0 w) (k : ∀ v, Is W v x → K v) :
   RD P (Instr.loadAt t (.pointer (some ⟨b, o, none⟩))) w K := by
 obtain ⟨F, cs, hr, hc⟩ := h
 exact rd_of (fun w' hx' => run_loadAt' ht (rep_ext hr (hW.trans (hx.trans hx'))) (rangeAt_ext hc (hx.trans hx'))) (k _ ⟨F, cs, hr, rfl⟩)
theorem atB_box {W w1 : World} {g : Nat} {x : α} {t : TypeId} (h : Is W v x) (hV : Var P t w1 g v) (ha : Rep.agg α = true) : AtB W w1 g 0 x := by
 obtain ⟨F, cs, hr, rfl⟩ := h
 obtain ⟨e, cs', _, hB, hv, _⟩ := hV
 have : cs' = cs := by
   simp only [mkv, ha, cond_true, Value.agg.injEq] at hv
   have := congrArg Array.toList hv
   simpa using this.symm
 subst this
 exact ⟨F, _, hr, hB.range⟩
theorem rd_buildZ [RepZ α] {t : TypeId} {fs : Array Field} {K : Value → Prop} (hu : P.underlying t = some (.struct fs)) (hz : zeroL P t = some (RepZ.zc α)) (hf : (fs.toList.all fun f => (P.info? f.type).isSome) = true) (ha : Rep.agg α = true)
   (k : ∀ v, Is w v (RepZ.zv : α) → K v) : RD P (Instr.build t #[]) w K := by
 unfold zeroL at hz
 cases hi : P.info? t with
 | none => simp [hi] at hz
 | some i =>
   simp only [hi] at hz
   obtain ⟨z, hz', hzc⟩ := Option.map_eq_some_iff.1 hz
   have hm : ∀ w', ∃ ps, (fs.mapM fun f => do pure (f.offset, ← sizeOf f.type) : Sem (Array (Nat × Nat))).run P w' = .ok ps w' := by
     intro w'
     have : ∀ l : List Field, (l.all fun f => (P.info? f.type).isSome) = true → ∃ ps, (l.mapM fun f => do pure (f.offset, ← sizeOf f.type) : Sem (List (Nat × Nat))).run P w' = .ok ps w' := by
       intro l
       induction l with
       | nil => intro _; exact ⟨[], by simp⟩
       | cons f l ih =>
         intro h
         simp only [List.all_cons, Bool.and_eq_true] at h
         obtain ⟨j, hj⟩ := Option.isSome_iff_exists.1 h.1
         obtain ⟨ps, hps⟩ := ih h.2
         have hsz : (sizeOf f.type).run P w' = .ok j.size w' := by simp [sizeOf, typeInfo, hj]
         exact ⟨(f.offset, j.size) :: ps, by simp only [List.mapM_cons, Sem.run_bind, hsz, Result.andThen_ok, Sem.run_pure, hps]⟩
     obtain ⟨ps, hps⟩ := this fs.toList hf
     exact ⟨ps.toArray, by rw [Array.mapM_eq_mapM_toList]; simp only [map_eq_pure_bind, Sem.run_bind, hps, Result.andThen_ok, Sem.run_pure]⟩
   refine rd_of (v := mkv α (RepZ.zc α)) (fun w' _ => ?_) (k _ ⟨[], _, RepZ.zr w, rfl⟩)
   obtain ⟨ps, hps⟩ := hm w'
   have e : z.cells = (RepZ.zc α).toArray := by rw [← hzc]
   have hzv : (zeroValue t).run P w' = .ok z w' := by simp [zeroValue, typeInfo, hi, hz']
   simp only [Instr.build, Sem.run_bind, hzv, Result.andThen_ok, run_underlying hu, hps]
   simp [Instr.fill, mkv, ha, e]
end
end Go.Sh
namespace Go.Proofs.YtjgfldfbljmhhaaGreat
open Go Go.Sh Go.Proofs
set_option linter.unusedVariables false
set_option linter.unusedSimpArgs false
open Rep (rep)
def termOk : Nat → DTerm → Bool
 | n, .mk k num s ks =>
   if k = 1 then decide (0 ≤ num ∧ num ≤ 1000000000) && decide (s = ByteArray.mk #[]) && decide ((ks.length : Int) = 0)
   else if k = 2 then decide (num = 0) && nameB s && decide ((ks.length : Int) = 0)
   else decide (3 ≤ k ∧ k ≤ 9) && decide (num = 0) && decide (s = ByteArray.mk #[]) && decide ((ks.length : Int) = if k = 8 then 1 else 2) &&
     (match n with | 0 => false | m + 1 => ks.all (termOk m))
theorem termOk_1 {n : Nat} {t : DTerm} (h : t.kind = 1) : termOk n t = (decide (0 ≤ t.num ∧ t.num ≤ 1000000000) && decide (t.name = ByteArray.mk #[]) && decide ((t.kids.length : Int) = 0)) := by
 obtain ⟨k, num, s, ks⟩ := t
 have : k = 1 := h
 unfold termOk; rw [if_pos this]; rfl
theorem termOk_2 {n : Nat} {t : DTerm} (h : t.kind = 2) : termOk n t = (decide (t.num = 0) && nameB t.name && decide ((t.kids.length : Int) = 0)) := by
 obtain ⟨k, num, s, ks⟩ := t
 have : k = 2 := h
 unfold termOk; rw [if_neg (by omega), if_pos this]; rfl
theorem termOk_3 {n : Nat} {t : DTerm} (h1 : ¬ t.kind = 1) (h2 : ¬ t.kind = 2) : termOk n t =
   (decide (3 ≤ t.kind ∧ t.kind ≤ 9) && decide (t.num = 0) && decide (t.name = ByteArray.mk #[]) && decide ((t.kids.length : Int) = if t.kind = 8 then 1 else 2) && (match n with | 0 => false | m + 1 => t.kids.all (termOk m))) := by
 obtain ⟨k, num, s, ks⟩ := t
 have h1 : ¬ k = 1 := h1
 have h2 : ¬ k = 2 := h2
 unfold termOk; rw [if_neg h1, if_neg h2]; rfl
theorem all_take {α : Type} {p : α → Bool} {l : List α} {k : Nat} (hk : k < l.length) (h : (l.take k).all p = true) (hp : p l[k] = true) : (l.take (k + 1)).all p = true := by
 rw [List.take_succ_eq_append_getElem hk, List.all_append, h]; simp [hp]
theorem all_false {α : Type} {p : α → Bool} {l : List α} {k : Nat} (hk : k < l.length) (hp : p l[k] = false) : l.all p = false := by
 rw [List.all_eq_false]; exact ⟨_, List.getElem_mem hk, by simp [hp]⟩
theorem all_done {α : Type} {p : α → Bool} {l : List α} {k : Nat} (hk : l.length ≤ k) (h : (l.take k).all p = true) : l.all p = true := by
 rwa [List.take_of_length_le hk] at h
def Fits (f : Nat) (n : Nat) : Prop := ∀ {w W : World} {v : Value} {t : DTerm} {d : Int}, Is W v t → Ext W w → d = (n : Int) →
 CALL Tryz.prog f [v, .int .i64 d] w fun r w' => Ext w w' ∧ r = .bool (termOk n t)
def F287 (a0 a1 : Value) (w : World) (R : VW) : Prop :=
 OP tp (Instr.box 134 a0) w fun x2 w =>
 JOIN [] (fun J18 =>
 RD tp (Instr.fieldAt 134 x2 0) w fun x7 =>
 RD tp (Instr.loadAt 3 x7) w fun x8 =>
 RD tp (bin .eql 3 T0 U0 x8 (Value.int .i64 1)) w fun x10 =>
 BR x10
 (RD tp (Instr.fieldAt 134 x2 1) w fun x11 =>
 RD tp (Instr.loadAt 3 x11) w fun x12 =>
 RD tp (bin .geq 3 T0 U0 x12 (Value.int .i64 0)) w fun x13 =>
 BR x13
 (RD tp (Instr.fieldAt 134 x2 1) w fun x15 =>
 RD tp (Instr.loadAt 3 x15) w fun x16 =>
 RD tp (bin .leq 3 T0 U0 x16 (Value.int .i64 1000000000)) w fun x17 =>
 BR x17
 (RD tp (Instr.fieldAt 134 x2 2) w fun x20 =>
 RD tp (Instr.loadAt 9 x20) w fun x21 =>
 RD tp (bin .eql 9 T0 U0 x21 (Value.string (ByteArray.mk #[]))) w fun x22 =>
 BR x22
 (RD tp (Instr.fieldAt 134 x2 3) w fun x25 =>
 RD tp (Instr.loadAt 132 x25) w fun x26 =>
 RD tp (ln 132 3 x26) w fun x27 =>
 RD tp (bin .eql 3 T0 U0 x27 (Value.int .i64 0)) w fun x28 =>
 R x28 w)
 (R (Value.bool false) w))
 (R (Value.bool false) w))
 (R (Value.bool false) w))
 (RD tp (bin .eql 3 T0 U0 x8 (Value.int .i64 2)) w fun x31 =>
 BR x31
 (RD tp (Instr.fieldAt 134 x2 1) w fun x32 =>
 RD tp (Instr.loadAt 3 x32) w fun x33 =>
 RD tp (bin .eql 3 T0 U0 x33 (Value.int .i64 0)) w fun x34 =>
 BR x34
 (RD tp (Instr.fieldAt 134 x2 2) w fun x36 =>
 RD tp (Instr.loadAt 9 x36) w fun x37 =>
 CALL tp 286 [x37] w fun x38 w =>
 BR x38
 (RD tp (Instr.fieldAt 134 x2 3) w fun x41 =>
 RD tp (Instr.loadAt 132 x41) w fun x42 =>
 RD tp (ln 132 3 x42) w fun x43 =>
 RD tp (bin .eql 3 T0 U0 x43 (Value.int .i64 0)) w fun x44 =>
 R x44 w)
 (R (Value.bool false) w))
 (R (Value.bool false) w))
 (RD tp (bin .eql 3 T0 U0 x8 (Value.int .i64 3)) w fun x47 =>
 BR x47
 (RD tp (Instr.fieldAt 134 x2 3) w fun x53 =>
 RD tp (Instr.loadAt 132 x53) w fun x54 =>
 RD tp (ln 132 3 x54) w fun x55 =>
 RD tp (bin .neq 3 T0 U0 x55 (Value.int .i64 2)) w fun x56 =>
 BR x56
 (R (Value.bool false) w)
 (J18 [] w))
 (RD tp (bin .eql 3 T0 U0 x8 (Value.int .i64 4)) w fun x48 =>
 BR x48
 (RD tp (Instr.fieldAt 134 x2 3) w fun x53 =>
 RD tp (Instr.loadAt 132 x53) w fun x54 =>
 RD tp (ln 132 3 x54) w fun x55 =>
 RD tp (bin .neq 3 T0 U0 x55 (Value.int .i64 2)) w fun x56 =>
 BR x56
 (R (Value.bool false) w)
 (J18 [] w))
 (RD tp (bin .eql 3 T0 U0 x8 (Value.int .i64 5)) w fun x49 =>
 BR x49
 (RD tp (Instr.fieldAt 134 x2 3) w fun x53 =>
 RD tp (Instr.loadAt 132 x53) w fun x54 =>
 RD tp (ln 132 3 x54) w fun x55 =>
 RD tp (bin .neq 3 T0 U0 x55 (Value.int .i64 2)) w fun x56 =>
 BR x56
 (R (Value.bool false) w)
 (J18 [] w))
 (RD tp (bin .eql 3 T0 U0 x8 (Value.int .i64 6)) w fun x50 =>
 BR x50
 (RD tp (Instr.fieldAt 134 x2 3) w fun x53 =>
 RD tp (Instr.loadAt 132 x53) w fun x54 =>
 RD tp (ln 132 3 x54) w fun x55 =>
 RD tp (bin .neq 3 T0 U0 x55 (Value.int .i64 2)) w fun x56 =>
 BR x56
 (R (Value.bool false) w)
 (J18 [] w))
 (RD tp (bin .eql 3 T0 U0 x8 (Value.int .i64 7)) w fun x51 =>
 BR x51
 (RD tp (Instr.fieldAt 134 x2 3) w fun x53 =>
 RD tp (Instr.loadAt 132 x53) w fun x54 =>
 RD tp (ln 132 3 x54) w fun x55 =>
 RD tp (bin .neq 3 T0 U0 x55 (Value.int .i64 2)) w fun x56 =>
 BR x56
 (R (Value.bool false) w)
 (J18 [] w))
 (RD tp (bin .eql 3 T0 U0 x8 (Value.int .i64 9)) w fun x52 =>
 BR x52
 (RD tp (Instr.fieldAt 134 x2 3) w fun x53 =>
 RD tp (Instr.loadAt 132 x53) w fun x54 =>
 RD tp (ln 132 3 x54) w fun x55 =>
 RD tp (bin .neq 3 T0 U0 x55 (Value.int .i64 2)) w fun x56 =>
 BR x56
 (R (Value.bool false) w)
 (J18 [] w))
 (RD tp (bin .eql 3 T0 U0 x8 (Value.int .i64 8)) w fun x58 =>
 BR x58
 (RD tp (Instr.fieldAt 134 x2 3) w fun x59 =>
 RD tp (Instr.loadAt 132 x59) w fun x60 =>
 RD tp (ln 132 3 x60) w fun x61 =>
 RD tp (bin .neq 3 T0 U0 x61 (Value.int .i64 1)) w fun x62 =>
 BR x62
 (R (Value.bool false) w)
 (J18 [] w))
 (R (Value.bool false) w)))))))))) (fun u18 w =>
 RD tp (Instr.fieldAt 134 x2 1) w fun x63 =>
 RD tp (Instr.loadAt 3 x63) w fun x64 =>
 RD tp (bin .neq 3 T0 U0 x64 (Value.int .i64 0)) w fun x65 =>
 BR x65
 (R (Value.bool false) w)
 (RD tp (Instr.fieldAt 134 x2 2) w fun x67 =>
 RD tp (Instr.loadAt 9 x67) w fun x68 =>
 RD tp (bin .neq 9 T0 U0 x68 (Value.string (ByteArray.mk #[]))) w fun x69 =>
 BR x69
 (R (Value.bool false) w)
 (RD tp (bin .eql 3 T0 U0 a1 (Value.int .i64 0)) w fun x73 =>
 BR x73
 (R (Value.bool false) w)
 (RD tp (Instr.fieldAt 134 x2 3) w fun x75 =>
 RD tp (Instr.loadAt 132 x75) w fun x76 =>
 RD tp (ln 132 3 x76) w fun x77 =>
 LOOPI [78] [(Value.int .i64 0)] w fun u21 w next21 =>
 RD tp (bin .lss 3 T0 T0 (u21 78) x77) w fun x79 =>
 BR x79
 (RD tp (Instr.indexAt 132 x76 (u21 78)) w fun x80 =>
 RD tp (Instr.loadAt 134 x80) w fun x81 =>
 OP tp (Instr.alloc 134 true (.tuple #[])) w fun x6 w =>
 OPU tp (Instr.storeAt 134 x6 x81) w fun w =>
 RD tp (Instr.loadAt 134 x6) w fun x82 =>
 RD tp (bin .sub 3 T0 U0 a1 (Value.int .i64 1)) w fun x84 =>
 CALL tp 287 [x82, x84] w fun x85 w =>
 RD tp (Op.unary .not x85) w fun x86 =>
 BR x86
 (R (Value.bool false) w)
 (RD tp (bin .add 3 T0 U0 (u21 78) (Value.int .i64 1)) w fun x87 =>
 next21 [x87] w))
 (R (Value.bool true) w)))))
def cfg287 : Cfg := ⟨extL, [(18, 9223372036854775696, [])], [(21, 309182778366441411431104592, [78])], [], [], [], []⟩
theorem F287_eq (a0 a1 : Value) (w : World) (R : VW) : vcF Tryz.prog cfg287 Tryz.f287 [a0, a1] w R = F287 a0 a1 w R := by kernel_rfl
theorem F287_call {a0 a1 : Value} {w : World} {R : VW} (h : F287 a0 a1 w R) : CALL Tryz.prog 287 [a0, a1] w R :=
 call_of (g := cfg287) ent mixed Tryz.func287 (Nat.le_of_ble_eq_true (by kernel_rfl)) (by kernel_rfl) (F287_eq a0 a1 w R ▸ h)
theorem termFits_step {w : World} {v0 : Value} {W0 : World} {t : DTerm} {d : Int} {n : Nat} (h0 : Is W0 v0 t) (e0 : Ext W0 w) (hd : d = (n : Int)) (ih : ∀ m, m + 1 = n → Fits 287 m) (hn : n ≤ 6) :
   CALL Tryz.prog 287 [v0, .int .i64 d] w fun r w' => Ext w w' ∧ (r = .bool (termOk n t)) := by
 refine F287_call ?_
 unfold F287
 refine op_boxS ty134 rfl h0 e0 fun w1_ hx1_ hA2 hV2 => ?_
 refine JOIN.mk (fun us w' => us = [] ∧ Ext w1_ w' ∧ (3 ≤ t.kind ∧ t.kind ≤ 9 ∧ (t.kids.length : Int) = (if t.kind = 8 then 1 else 2))) ?_ ?_
 · refine rd_fld fd134_0 ?_
   refine rd_loadI ty3 (at_DTerm_0 hA2) (Ext.refl w1_) fun hI8 => ?_
   refine rd_eql ?_
   refine br (fun c1 => ?_) (fun c1 => ?_)
   · refine rd_fld fd134_1 ?_
     refine rd_loadI ty3 (at_DTerm_1 hA2) (Ext.refl w1_) fun hI12 => ?_
     refine rd_geq ?_
     refine br (fun c2 => ?_) (fun c2 => ?_)
     · refine rd_fld fd134_1 ?_
       refine rd_loadI ty3 (at_DTerm_1 hA2) (Ext.refl w1_) fun hI16 => ?_
       refine rd_leq ?_
       refine br (fun c3 => ?_) (fun c3 => ?_)
       · refine rd_fld fd134_2 ?_
         refine rd_loadS ty9 (at_DTerm_2 hA2) (Ext.refl w1_) fun hS21 => ?_
         refine rd_eqlS ?_
         refine br (fun c4 => ?_) (fun c4 => ?_)
         · refine rd_fld fd134_3 ?_
           refine rd_load ty132 (at_DTerm_3 hA2) (Ext.refl w1_) fun v26 h26 => ?_
           have hln27 := is_len h26
           refine rd_len u132 h26 ?_
           refine rd_eql ?_
           refine ⟨hx1_, ?_⟩
           rw [termOk_1 c1]; simp only [c2, c3, c4, and_self, decide_true, Bool.true_and]
         · refine ⟨hx1_, ?_⟩
           rw [termOk_1 c1]; simp only [c4, decide_false, Bool.and_false, Bool.false_and]
       · refine ⟨hx1_, ?_⟩
         rw [termOk_1 c1]; simp only [c3, and_false, decide_false, Bool.false_and]
     · refine ⟨hx1_, ?_⟩
       rw [termOk_1 c1]; simp only [c2, false_and, decide_false, Bool.false_and]
   · refine rd_eql ?_
     refine br (fun c5 => ?_) (fun c5 => ?_)
     · refine rd_fld fd134_1 ?_
       refine rd_loadI ty3 (at_DTerm_1 hA2) (Ext.refl w1_) fun hI33 => ?_
       refine rd_eql ?_
       refine br (fun c6 => ?_) (fun c6 => ?_)
       · refine rd_fld fd134_2 ?_
         refine rd_loadS ty9 (at_DTerm_2 hA2) (Ext.refl w1_) fun hS37 => ?_
         refine (implIsName_ok ).mono ?_
         rintro _ w3_ ⟨hx3_, rfl⟩
         refine br_b (fun c7 => ?_) (fun c7 => ?_)
         · refine rd_fld fd134_3 ?_
           refine rd_load ty132 (at_DTerm_3 hA2) hx3_ fun v42 h42 => ?_
           have hln43 := is_len h42
           refine rd_len u132 h42 ?_
           refine rd_eql ?_
           refine ⟨(hx1_.trans hx3_), ?_⟩
           rw [termOk_2 c5]; simp only [c6, c7, decide_true, Bool.true_and]
         · refine ⟨(hx1_.trans hx3_), ?_⟩
           rw [termOk_2 c5]; simp only [c6, c7, decide_true, Bool.true_and, Bool.false_and]
       · refine ⟨hx1_, ?_⟩
         rw [termOk_2 c5]; simp only [c6, decide_false, Bool.false_and]
     · refine rd_eql ?_
       refine br (fun c8 => ?_) (fun c8 => ?_)
       · refine rd_fld fd134_3 ?_
         refine rd_load ty132 (at_DTerm_3 hA2) (Ext.refl w1_) fun v54 h54 => ?_
         have hln55 := is_len h54
         refine rd_len u132 h54 ?_
         refine rd_neq ?_
         refine br (fun c9 => ?_) (fun c9 => ?_)
         · refine ⟨hx1_, ?_⟩
           rw [termOk_3 c1 c5]; simp [show ¬ t.kind = 8 by omega, show ¬ (t.kids.length : Int) = 2 from c9]
         · refine ⟨by simp, Ext.refl w1_, ?_⟩
           split <;> omega
       · refine rd_eql ?_
         refine br (fun c10 => ?_) (fun c10 => ?_)
         · refine rd_fld fd134_3 ?_
           refine rd_load ty132 (at_DTerm_3 hA2) (Ext.refl w1_) fun v54 h54 => ?_
           have hln55 := is_len h54
           refine rd_len u132 h54 ?_
           refine rd_neq ?_
           refine br (fun c11 => ?_) (fun c11 => ?_)
           · refine ⟨hx1_, ?_⟩
             rw [termOk_3 c1 c5]; simp [show ¬ t.kind = 8 by omega, show ¬ (t.kids.length : Int) = 2 from c11]
           · refine ⟨by simp, Ext.refl w1_, ?_⟩
             split <;> omega
         · refine rd_eql ?_
           refine br (fun c12 => ?_) (fun c12 => ?_)
           · refine rd_fld fd134_3 ?_
             refine rd_load ty132 (at_DTerm_3 hA2) (Ext.refl w1_) fun v54 h54 => ?_
             have hln55 := is_len h54
             refine rd_len u132 h54 ?_
             refine rd_neq ?_
             refine br (fun c13 => ?_) (fun c13 => ?_)
             · refine ⟨hx1_, ?_⟩
               rw [termOk_3 c1 c5]; simp [show ¬ t.kind = 8 by omega, show ¬ (t.kids.length : Int) = 2 from c13]
             · refine ⟨by simp, Ext.refl w1_, ?_⟩
               split <;> omega
           · refine rd_eql ?_
             refine br (fun c14 => ?_) (fun c14 => ?_)
             · refine rd_fld fd134_3 ?_
               refine rd_load ty132 (at_DTerm_3 hA2) (Ext.refl w1_) fun v54 h54 => ?_
               have hln55 := is_len h54
               refine rd_len u132 h54 ?_
               refine rd_neq ?_
               refine br (fun c15 => ?_) (fun c15 => ?_)
               · refine ⟨hx1_, ?_⟩
                 rw [termOk_3 c1 c5]; simp [show ¬ t.kind = 8 by omega, show ¬ (t.kids.length : Int) = 2 from c15]
               · refine ⟨by simp, Ext.refl w1_, ?_⟩
                 split <;> omega
             · refine rd_eql ?_
               refine br (fun c16 => ?_) (fun c16 => ?_)
               · refine rd_fld fd134_3 ?_
                 refine rd_load ty132 (at_DTerm_3 hA2) (Ext.refl w1_) fun v54 h54 => ?_
                 have hln55 := is_len h54
                 refine rd_len u132 h54 ?_
                 refine rd_neq ?_
                 refine br (fun c17 => ?_) (fun c17 => ?_)
                 · refine ⟨hx1_, ?_⟩
                   rw [termOk_3 c1 c5]; simp [show ¬ t.kind = 8 by omega, show ¬ (t.kids.length : Int) = 2 from c17]
                 · refine ⟨by simp, Ext.refl w1_, ?_⟩
                   split <;> omega
               · refine rd_eql ?_
                 refine br (fun c18 => ?_) (fun c18 => ?_)
                 · refine rd_fld fd134_3 ?_
                   refine rd_load ty132 (at_DTerm_3 hA2) (Ext.refl w1_) fun v54 h54 => ?_
                   have hln55 := is_len h54
                   refine rd_len u132 h54 ?_
                   refine rd_neq ?_
                   refine br (fun c19 => ?_) (fun c19 => ?_)
                   · refine ⟨hx1_, ?_⟩
                     rw [termOk_3 c1 c5]; simp [show ¬ t.kind = 8 by omega, show ¬ (t.kids.length : Int) = 2 from c19]
                   · refine ⟨by simp, Ext.refl w1_, ?_⟩
                     split <;> omega
                 · refine rd_eql ?_
                   refine br (fun c20 => ?_) (fun c20 => ?_)
                   · refine rd_fld fd134_3 ?_
                     refine rd_load ty132 (at_DTerm_3 hA2) (Ext.refl w1_) fun v60 h60 => ?_
                     have hln61 := is_len h60
                     refine rd_len u132 h60 ?_
                     refine rd_neq ?_
                     refine br (fun c21 => ?_) (fun c21 => ?_)
                     · refine ⟨hx1_, ?_⟩
                       rw [termOk_3 c1 c5]; simp [c20, show ¬ (t.kids.length : Int) = 1 from c21]
                     · refine ⟨by simp, Ext.refl w1_, ?_⟩
                       split <;> omega
                   · refine ⟨hx1_, ?_⟩
                     rw [termOk_3 c1 c5]; simp [show ¬ (3 ≤ t.kind ∧ t.kind ≤ 9) by omega]
 · rintro uj18 w2_ ⟨hu, hx3_, hk1, hk2, hk3⟩
   simp only [List.map_cons, List.map_nil, List.cons.injEq, and_true] at hu
   clear hu
   refine rd_fld fd134_1 ?_
   refine rd_loadI ty3 (at_DTerm_1 hA2) hx3_ fun hI64 => ?_
   refine rd_neq ?_
   refine br (fun c22 => ?_) (fun c22 => ?_)
   · refine ⟨(hx1_.trans hx3_), ?_⟩
     rw [termOk_3 (by omega) (by omega)]; simp [c22]
   · refine rd_fld fd134_2 ?_
     refine rd_loadS ty9 (at_DTerm_2 hA2) hx3_ fun hS68 => ?_
     refine rd_neqS ?_
     refine br (fun c23 => ?_) (fun c23 => ?_)
     · refine ⟨(hx1_.trans hx3_), ?_⟩
       rw [termOk_3 (by omega) (by omega)]; simp [c23]
     · refine rd_eql ?_
       refine br (fun c24 => ?_) (fun c24 => ?_)
       · refine ⟨(hx1_.trans hx3_), ?_⟩
         rw [termOk_3 (by omega) (by omega)]; simp [show n = 0 by omega]
       · refine rd_fld fd134_3 ?_
         refine rd_load ty132 (at_DTerm_3 hA2) hx3_ fun v76 h76 => ?_
         have hln77 := is_len h76
         refine rd_len u132 h76 ?_
         refine loopC (t.kids.length) (fun k us w' => us = [.int .i64 (k : Int)] ∧ Ext w2_ w' ∧ ((t.kids.take k).all (termOk (n - 1)) = true)) (0) (by omega) ⟨by simp, Ext.refl w2_, by simp⟩ ?_
         rintro k m21 uu21 w4_ hk21 ⟨hu, hx4_, hinv⟩
         simp only [List.map_cons, List.map_nil, List.cons.injEq, and_true] at hu
         try rw [hu]
         try clear hu
         refine rd_lss ?_
         refine br (fun c25 => ?_) (fun c25 => ?_)
         · refine rd_indexN u132 ty134 h76 (by omega) fun b80 o80 h80 => ?_
           refine rd_load ty134 h80 (hx3_.trans hx4_) fun v81 h81 => ?_
           refine op_var zl134 rfl ty134 rfl h81 (hx3_.trans hx4_) fun w5_ hx5_ hA6 hV6 => ?_
           refine rd_var hV6 (Ext.refl w5_) ?_
           refine rd_sub (by unfold I64; omega) ?_
           refine (ih (n - 1) (by omega) h81 (hx3_.trans (hx4_.trans hx5_)) (by omega)).mono ?_
           rintro _ w6_ ⟨hx6_, rfl⟩
           refine rd_not ?_
           refine br_b (fun c26 => ?_) (fun c26 => ?_)
           · refine ⟨(hx1_.trans (hx3_.trans (hx4_.trans (hx5_.trans hx6_)))), ?_⟩
             rw [termOk_3 (by omega) (by omega)]
             obtain ⟨m, rfl⟩ : ∃ m, n = m + 1 := ⟨n - 1, by omega⟩
             rw [Bool.not_eq_true', Nat.add_sub_cancel] at c26
             simp only [all_false (by omega) c26, Bool.and_false]
           · have hln := is_len h76
             refine rd_inc (by omega) ?_
             refine ⟨m21 - 1, by omega, k + 1, by omega, by simp, (hx4_.trans (hx5_.trans hx6_)), ?_⟩
             exact all_take (by omega) hinv (by simpa using c26)
         · refine ⟨(hx1_.trans (hx3_.trans hx4_)), ?_⟩
           rw [termOk_3 (by omega) (by omega)]
           obtain ⟨m, rfl⟩ : ∃ m, n = m + 1 := ⟨n - 1, by omega⟩
           rw [Nat.add_sub_cancel] at hinv
           simp only [show 3 ≤ t.kind ∧ t.kind ≤ 9 from ⟨hk1, hk2⟩, Decidable.not_not.1 c22, Decidable.not_not.1 c23, hk3, all_done (by omega) hinv, and_self, decide_true, Bool.and_self]
theorem termFits_ok : ∀ (n : Nat), n ≤ 6 → Fits 287 n
 | n, hn => by intro h e hd; exact termFits_step h e hd (fun m hm => termFits_ok m (by omega)) hn
def F240 (a0 : Value) (w : World) (R : VW) : Prop :=
 OP tp (Instr.box 134 a0) w fun x1 w =>
 RD tp (Instr.loadAt 134 x1) w fun x3 =>
 CALL tp 287 [x3, (Value.int .i64 6)] w fun x4 w =>
 R x4 w
def cfg240 : Cfg := ⟨extL, [], [], [], [], [], []⟩
theorem F240_eq (a0 : Value) (w : World) (R : VW) : vcF Tryz.prog cfg240 Tryz.f240 [a0] w R = F240 a0 w R := by kernel_rfl
theorem F240_call {a0 : Value} {w : World} {R : VW} (h : F240 a0 w R) : CALL Tryz.prog 240 [a0] w R :=
 call_of (g := cfg240) ent mixed Tryz.func240 (Nat.le_of_ble_eq_true (by kernel_rfl)) (by kernel_rfl) (F240_eq a0 w R ▸ h)
theorem implTermOk_ok {w : World} {v0 : Value} {W0 : World} {t : DTerm}  (h0 : Is W0 v0 t) (e0 : Ext W0 w)  :
   CALL Tryz.prog 240 [v0] w fun r w' => Ext w w' ∧ (r = .bool (termOk 6 t)) := by
 refine F240_call ?_
 unfold F240
 refine op_boxS ty134 rfl h0 e0 fun w1_ hx1_ hA1 hV1 => ?_
 refine rd_var hV1 (Ext.refl w1_) ?_
 refine ((termFits_ok 6 (by omega)) h0 (e0.trans hx1_) rfl).mono ?_
 rintro _ w2_ ⟨hx2_, rfl⟩
 refine ⟨(hx1_.trans hx2_), ?_⟩
 rfl
def F246 (a0 a1 : Value) (w : World) (R : VW) : Prop :=
 OP tp (Instr.box 134 a0) w fun x2 w =>
 RD tp (Instr.fieldAt 134 x2 0) w fun x7 =>
 RD tp (Instr.loadAt 3 x7) w fun x8 =>
 RD tp (bin .eql 3 T0 U0 x8 (Value.int .i64 1)) w fun x10 =>
 BR x10
 (RD tp (Instr.fieldAt 134 x2 1) w fun x11 =>
 RD tp (Instr.loadAt 3 x11) w fun x12 =>
 CALL tp 122 [x12, (Value.int .i64 0), (Value.int .i64 1000000000)] w fun x13 w =>
 BR x13
 (RD tp (Instr.fieldAt 134 x2 2) w fun x15 =>
 RD tp (Instr.loadAt 9 x15) w fun x16 =>
 RD tp (bin .eql 9 T0 U0 x16 (Value.string (ByteArray.mk #[]))) w fun x17 =>
 BR x17
 (RD tp (Instr.fieldAt 134 x2 3) w fun x20 =>
 RD tp (Instr.loadAt 132 x20) w fun x21 =>
 RD tp (ln 132 3 x21) w fun x22 =>
 RD tp (bin .eql 3 T0 U0 x22 (Value.int .i64 0)) w fun x23 =>
 R x23 w)
 (R (Value.bool false) w))
 (R (Value.bool false) w))
 (RD tp (bin .eql 3 T0 U0 x8 (Value.int .i64 2)) w fun x26 =>
 BR x26
 (RD tp (Instr.fieldAt 134 x2 1) w fun x27 =>
 RD tp (Instr.loadAt 3 x27) w fun x28 =>
 RD tp (bin .eql 3 T0 U0 x28 (Value.int .i64 0)) w fun x29 =>
 BR x29
 (RD tp (Instr.fieldAt 134 x2 2) w fun x31 =>
 RD tp (Instr.loadAt 9 x31) w fun x32 =>
 CALL tp 245 [x32] w fun x33 w =>
 BR x33
 (RD tp (Instr.fieldAt 134 x2 3) w fun x36 =>
 RD tp (Instr.loadAt 132 x36) w fun x37 =>
 RD tp (ln 132 3 x37) w fun x38 =>
 RD tp (bin .eql 3 T0 U0 x38 (Value.int .i64 0)) w fun x39 =>
 R x39 w)
 (R (Value.bool false) w))
 (R (Value.bool false) w))
 (JOIN [5] (fun J9 =>
 RD tp (Instr.fieldAt 134 x2 0) w fun x41 =>
 RD tp (Instr.loadAt 3 x41) w fun x42 =>
 RD tp (bin .eql 3 T0 U0 x42 (Value.int .i64 8)) w fun x43 =>
 BR x43
 (J9 [(Value.int .i64 1)] w)
 (J9 [(Value.int .i64 2)] w)) (fun u9 w =>
 RD tp (Instr.fieldAt 134 x2 0) w fun x44 =>
 RD tp (Instr.loadAt 3 x44) w fun x45 =>
 CALL tp 122 [x45, (Value.int .i64 3), (Value.int .i64 9)] w fun x46 w =>
 RD tp (Op.unary .not x46) w fun x47 =>
 BR x47
 (R (Value.bool false) w)
 (RD tp (Instr.fieldAt 134 x2 1) w fun x49 =>
 RD tp (Instr.loadAt 3 x49) w fun x50 =>
 RD tp (bin .neq 3 T0 U0 x50 (Value.int .i64 0)) w fun x51 =>
 BR x51
 (R (Value.bool false) w)
 (RD tp (Instr.fieldAt 134 x2 2) w fun x54 =>
 RD tp (Instr.loadAt 9 x54) w fun x55 =>
 RD tp (bin .neq 9 T0 U0 x55 (Value.string (ByteArray.mk #[]))) w fun x56 =>
 BR x56
 (R (Value.bool false) w)
 (RD tp (Instr.fieldAt 134 x2 3) w fun x59 =>
 RD tp (Instr.loadAt 132 x59) w fun x60 =>
 RD tp (ln 132 3 x60) w fun x61 =>
 RD tp (bin .neq 3 T0 T0 x61 (u9 5)) w fun x63 =>
 BR x63
 (R (Value.bool false) w)
 (RD tp (bin .eql 3 T0 U0 a1 (Value.int .i64 0)) w fun x67 =>
 BR x67
 (R (Value.bool false) w)
 (LOOPI [6] [(Value.int .i64 0)] w fun u12 w next12 =>
 RD tp (Instr.fieldAt 134 x2 3) w fun x70 =>
 RD tp (Instr.loadAt 132 x70) w fun x71 =>
 RD tp (ln 132 3 x71) w fun x72 =>
 RD tp (bin .lss 3 T0 T0 (u12 6) x72) w fun x73 =>
 BR x73
 (RD tp (Instr.fieldAt 134 x2 3) w fun x76 =>
 RD tp (Instr.loadAt 132 x76) w fun x77 =>
 RD tp (Instr.indexAt 132 x77 (u12 6)) w fun x79 =>
 RD tp (Instr.loadAt 134 x79) w fun x80 =>
 RD tp (bin .sub 3 T0 U0 a1 (Value.int .i64 1)) w fun x82 =>
 CALL tp 246 [x80, x82] w fun x83 w =>
 RD tp (Op.unary .not x83) w fun x84 =>
 BR x84
 (R (Value.bool false) w)
 (RD tp (bin .add 3 T0 U0 (u12 6) (Value.int .i64 1)) w fun x75 =>
 next12 [x75] w))
 (R (Value.bool true) w)))))))))
def cfg246 : Cfg := ⟨extL, [(9, 15393162788896, [5])], [(12, 38685035931857774884946000, [6])], [], [], [], []⟩
theorem F246_eq (a0 a1 : Value) (w : World) (R : VW) : vcF Tryz.prog cfg246 Tryz.f246 [a0, a1] w R = F246 a0 a1 w R := by kernel_rfl
theorem F246_call {a0 a1 : Value} {w : World} {R : VW} (h : F246 a0 a1 w R) : CALL Tryz.prog 246 [a0, a1] w R :=
 call_of (g := cfg246) ent mixed Tryz.func246 (Nat.le_of_ble_eq_true (by kernel_rfl)) (by kernel_rfl) (F246_eq a0 a1 w R ▸ h)
theorem l03Right_step {w : World} {v0 : Value} {W0 : World} {t : DTerm} {d : Int} {n : Nat} (h0 : Is W0 v0 t) (e0 : Ext W0 w) (hd : d = (n : Int)) (ih : ∀ m, m + 1 = n → Fits 246 m) (hn : n ≤ 6) :
   CALL Tryz.prog 246 [v0, .int .i64 d] w fun r w' => Ext w w' ∧ (r = .bool (termOk n t)) := by
 refine F246_call ?_
 unfold F246
 refine op_boxS ty134 rfl h0 e0 fun w1_ hx1_ hA2 hV2 => ?_
 refine rd_fld fd134_0 ?_
 refine rd_loadI ty3 (at_DTerm_0 hA2) (Ext.refl w1_) fun hI8 => ?_
 refine rd_eql ?_
 refine br (fun c1 => ?_) (fun c1 => ?_)
 · refine rd_fld fd134_1 ?_
   refine rd_loadI ty3 (at_DTerm_1 hA2) (Ext.refl w1_) fun hI12 => ?_
   refine (l01In_ok ).mono ?_
   rintro _ w2_ ⟨hx2_, rfl⟩
   refine br (fun c2 => ?_) (fun c2 => ?_)
   · refine rd_fld fd134_2 ?_
     refine rd_loadS ty9 (at_DTerm_2 hA2) hx2_ fun hS16 => ?_
     refine rd_eqlS ?_
     refine br (fun c3 => ?_) (fun c3 => ?_)
     · refine rd_fld fd134_3 ?_
       refine rd_load ty132 (at_DTerm_3 hA2) hx2_ fun v21 h21 => ?_
       have hln22 := is_len h21
       refine rd_len u132 h21 ?_
       refine rd_eql ?_
       refine ⟨(hx1_.trans hx2_), ?_⟩
       rw [termOk_1 c1]; simp only [c2, c3, and_self, decide_true, Bool.true_and]
     · refine ⟨(hx1_.trans hx2_), ?_⟩
       rw [termOk_1 c1]; simp only [c3, decide_false, Bool.and_false, Bool.false_and]
   · refine ⟨(hx1_.trans hx2_), ?_⟩
     rw [termOk_1 c1]; simp only [c2, decide_false, Bool.false_and]
 · refine rd_eql ?_
   refine br (fun c4 => ?_) (fun c4 => ?_)
   · refine rd_fld fd134_1 ?_
     refine rd_loadI ty3 (at_DTerm_1 hA2) (Ext.refl w1_) fun hI28 => ?_
     refine rd_eql ?_
     refine br (fun c5 => ?_) (fun c5 => ?_)
     · refine rd_fld fd134_2 ?_
       refine rd_loadS ty9 (at_DTerm_2 hA2) (Ext.refl w1_) fun hS32 => ?_
       refine (specIsName_ok ).mono ?_
       rintro _ w3_ ⟨hx3_, rfl⟩
       refine br_b (fun c6 => ?_) (fun c6 => ?_)
       · refine rd_fld fd134_3 ?_
         refine rd_load ty132 (at_DTerm_3 hA2) hx3_ fun v37 h37 => ?_
         have hln38 := is_len h37
         refine rd_len u132 h37 ?_
         refine rd_eql ?_
         refine ⟨(hx1_.trans hx3_), ?_⟩
         rw [termOk_2 c4]; simp only [c5, c6, decide_true, Bool.true_and]
       · refine ⟨(hx1_.trans hx3_), ?_⟩
         rw [termOk_2 c4]; simp only [c5, c6, decide_true, Bool.true_and, Bool.false_and]
     · refine ⟨hx1_, ?_⟩
       rw [termOk_2 c4]; simp only [c5, decide_false, Bool.false_and]
   · refine JOIN.mk (fun us w' => us = [.int .i64 (if t.kind = 8 then 1 else 2)] ∧ Ext w1_ w' ∧ (True)) ?_ ?_
     · refine rd_fld fd134_0 ?_
       refine rd_loadI ty3 (at_DTerm_0 hA2) (Ext.refl w1_) fun hI42 => ?_
       refine rd_eql ?_
       refine br (fun c7 => ?_) (fun c7 => ?_)
       · refine ⟨by rw [if_pos c7], Ext.refl w1_, ?_⟩
         trivial
       · refine ⟨by rw [if_neg c7], Ext.refl w1_, ?_⟩
         trivial
     · rintro uj9 w4_ ⟨hu, hx4_, hinv⟩
       simp only [List.map_cons, List.map_nil, List.cons.injEq, and_true] at hu
       try rw [hu]
       try clear hu
       refine rd_fld fd134_0 ?_
       refine rd_loadI ty3 (at_DTerm_0 hA2) hx4_ fun hI45 => ?_
       refine (l01In_ok ).mono ?_
       rintro _ w5_ ⟨hx5_, rfl⟩
       refine rd_nodec ?_
       refine br (fun c8 => ?_) (fun c8 => ?_)
       · refine ⟨(hx1_.trans (hx4_.trans hx5_)), ?_⟩
         rw [termOk_3 c1 c4]; simp only [c8, decide_false, Bool.false_and]
       · refine rd_fld fd134_1 ?_
         refine rd_loadI ty3 (at_DTerm_1 hA2) (hx4_.trans hx5_) fun hI50 => ?_
         refine rd_neq ?_
         refine br (fun c9 => ?_) (fun c9 => ?_)
         · refine ⟨(hx1_.trans (hx4_.trans hx5_)), ?_⟩
           rw [termOk_3 c1 c4]; simp only [show ¬ t.num = 0 from c9, decide_false, Bool.false_and, Bool.and_false]
         · refine rd_fld fd134_2 ?_
           refine rd_loadS ty9 (at_DTerm_2 hA2) (hx4_.trans hx5_) fun hS55 => ?_
           refine rd_neqS ?_
           refine br (fun c10 => ?_) (fun c10 => ?_)
           · refine ⟨(hx1_.trans (hx4_.trans hx5_)), ?_⟩
             rw [termOk_3 c1 c4]; simp only [show ¬ t.name = _ from c10, decide_false, Bool.false_and, Bool.and_false]
           · refine rd_fld fd134_3 ?_
             refine rd_load ty132 (at_DTerm_3 hA2) (hx4_.trans hx5_) fun v60 h60 => ?_
             have hln61 := is_len h60
             refine rd_len u132 h60 ?_
             refine rd_neq ?_
             refine br (fun c11 => ?_) (fun c11 => ?_)
             · refine ⟨(hx1_.trans (hx4_.trans hx5_)), ?_⟩
               rw [termOk_3 c1 c4]; simp only [show ¬ (t.kids.length : Int) = _ from c11, decide_false, Bool.false_and, Bool.and_false]
             · refine rd_eql ?_
               refine br (fun c12 => ?_) (fun c12 => ?_)
               · refine ⟨(hx1_.trans (hx4_.trans hx5_)), ?_⟩
                 rw [termOk_3 c1 c4]; simp [show n = 0 by omega]
               · refine loopC (t.kids.length) (fun k us w' => us = [.int .i64 (k : Int)] ∧ Ext w5_ w' ∧ ((t.kids.take k).all (termOk (n - 1)) = true)) (0) (by omega) ⟨by simp, Ext.refl w5_, by simp⟩ ?_
                 rintro k m12 uu12 w6_ hk12 ⟨hu, hx6_, hinv⟩
                 simp only [List.map_cons, List.map_nil, List.cons.injEq, and_true] at hu
                 try rw [hu]
                 try clear hu
                 refine rd_fld fd134_3 ?_
                 refine rd_load ty132 (at_DTerm_3 hA2) (hx4_.trans (hx5_.trans hx6_)) fun v71 h71 => ?_
                 have hln72 := is_len h71
                 refine rd_len u132 h71 ?_
                 refine rd_lss ?_
                 refine br (fun c13 => ?_) (fun c13 => ?_)
                 · refine rd_fld fd134_3 ?_
                   refine rd_load ty132 (at_DTerm_3 hA2) (hx4_.trans (hx5_.trans hx6_)) fun v77 h77 => ?_
                   refine rd_indexN u132 ty134 h77 (by omega) fun b79 o79 h79 => ?_
                   refine rd_load ty134 h79 (hx4_.trans (hx5_.trans hx6_)) fun v80 h80 => ?_
                   refine rd_sub (by unfold I64; omega) ?_
                   refine (ih (n - 1) (by omega) h80 (hx4_.trans (hx5_.trans hx6_)) (by omega)).mono ?_
                   rintro _ w7_ ⟨hx7_, rfl⟩
                   refine rd_not ?_
                   refine br_b (fun c14 => ?_) (fun c14 => ?_)
                   · refine ⟨(hx1_.trans (hx4_.trans (hx5_.trans (hx6_.trans hx7_)))), ?_⟩
                     rw [termOk_3 c1 c4]
                     obtain ⟨m, rfl⟩ : ∃ m, n = m + 1 := ⟨n - 1, by omega⟩
                     rw [Bool.not_eq_true', Nat.add_sub_cancel] at c14
                     simp only [all_false (by omega) c14, Bool.and_false]
                   · have hln := is_len h71
                     refine rd_inc (by omega) ?_
                     refine ⟨m12 - 1, by omega, k + 1, by omega, by simp, (hx6_.trans hx7_), ?_⟩
                     exact all_take (by omega) hinv (by simpa using c14)
                 · refine ⟨(hx1_.trans (hx4_.trans (hx5_.trans hx6_))), ?_⟩
                   rw [termOk_3 c1 c4]
                   obtain ⟨m, rfl⟩ : ∃ m, n = m + 1 := ⟨n - 1, by omega⟩
                   rw [Nat.add_sub_cancel] at hinv
                   simp only [Decidable.not_not.1 c8, Decidable.not_not.1 c9, Decidable.not_not.1 c10, Decidable.not_not.1 c11, all_done (by omega) hinv, and_self, decide_true, Bool.and_self]
theorem l03Right_ok : ∀ (n : Nat), n ≤ 6 → Fits 246 n
 | n, hn => by intro h e hd; exact l03Right_step h e hd (fun m hm => l03Right_ok m (by omega)) hn
def F205 (a0 : Value) (w : World) (R : VW) : Prop :=
 OP tp (Instr.box 134 a0) w fun x1 w =>
 RD tp (Instr.loadAt 134 x1) w fun x3 =>
 CALL tp 246 [x3, (Value.int .i64 6)] w fun x4 w =>
 R x4 w
def cfg205 : Cfg := ⟨extL, [], [], [], [], [], []⟩
theorem F205_eq (a0 : Value) (w : World) (R : VW) : vcF Tryz.prog cfg205 Tryz.f205 [a0] w R = F205 a0 w R := by kernel_rfl
theorem F205_call {a0 : Value} {w : World} {R : VW} (h : F205 a0 w R) : CALL Tryz.prog 205 [a0] w R :=
 call_of (g := cfg205) ent mixed Tryz.func205 (Nat.le_of_ble_eq_true (by kernel_rfl)) (by kernel_rfl) (F205_eq a0 w R ▸ h)
theorem specTermOk_ok {w : World} {v0 : Value} {W0 : World} {t : DTerm}  (h0 : Is W0 v0 t) (e0 : Ext W0 w)  :
   CALL Tryz.prog 205 [v0] w fun r w' => Ext w w' ∧ (r = .bool (termOk 6 t)) := by
 refine F205_call ?_
 unfold F205
 refine op_boxS ty134 rfl h0 e0 fun w1_ hx1_ hA1 hV1 => ?_
 refine rd_var hV1 (Ext.refl w1_) ?_
 refine ((l03Right_ok 6 (by omega)) h0 (e0.trans hx1_) rfl).mono ?_
 rintro _ w2_ ⟨hx2_, rfl⟩
 refine ⟨(hx1_.trans hx2_), ?_⟩
 rfl
def term0 : DTerm := .mk 0 0 (ByteArray.mk #[]) []
def F241 (a0 : Value) (w : World) (R : VW) : Prop :=
 OP tp (Instr.box 134 a0) w fun x1 w =>
 RD tp (Instr.fieldAt 134 x1 0) w fun x3 =>
 RD tp (Instr.loadAt 3 x3) w fun x4 =>
 RD tp (bin .eql 3 T0 U0 x4 (Value.int .i64 0)) w fun x5 =>
 BR x5
 (RD tp (Instr.fieldAt 134 x1 1) w fun x7 =>
 RD tp (Instr.loadAt 3 x7) w fun x8 =>
 RD tp (bin .eql 3 T0 U0 x8 (Value.int .i64 0)) w fun x9 =>
 BR x9
 (RD tp (Instr.fieldAt 134 x1 2) w fun x12 =>
 RD tp (Instr.loadAt 9 x12) w fun x13 =>
 RD tp (bin .eql 9 T0 U0 x13 (Value.string (ByteArray.mk #[]))) w fun x14 =>
 BR x14
 (RD tp (Instr.fieldAt 134 x1 3) w fun x17 =>
 RD tp (Instr.loadAt 132 x17) w fun x18 =>
 RD tp (ln 132 3 x18) w fun x19 =>
 RD tp (bin .eql 3 T0 U0 x19 (Value.int .i64 0)) w fun x20 =>
 R x20 w)
 (R (Value.bool false) w))
 (R (Value.bool false) w))
 (R (Value.bool false) w)
def cfg241 : Cfg := ⟨extL, [], [], [], [], [], []⟩
theorem F241_eq (a0 : Value) (w : World) (R : VW) : vcF Tryz.prog cfg241 Tryz.f241 [a0] w R = F241 a0 w R := by kernel_rfl
theorem F241_call {a0 : Value} {w : World} {R : VW} (h : F241 a0 w R) : CALL Tryz.prog 241 [a0] w R :=
 call_of (g := cfg241) ent mixed Tryz.func241 (Nat.le_of_ble_eq_true (by kernel_rfl)) (by kernel_rfl) (F241_eq a0 w R ▸ h)
theorem isZeroTerm_ok {w : World} {v0 : Value} {W0 : World} {t : DTerm}  (h0 : Is W0 v0 t) (e0 : Ext W0 w)  :
   CALL Tryz.prog 241 [v0] w fun r w' => Ext w w' ∧ (r = .bool (decide (t = term0))) := by
 refine F241_call ?_
 unfold F241
 refine op_boxS ty134 rfl h0 e0 fun w1_ hx1_ hA1 hV1 => ?_
 refine rd_fld fd134_0 ?_
 refine rd_loadI ty3 (at_DTerm_0 hA1) (Ext.refl w1_) fun hI4 => ?_
 refine rd_eql ?_
 refine br (fun c1 => ?_) (fun c1 => ?_)
 · refine rd_fld fd134_1 ?_
   refine rd_loadI ty3 (at_DTerm_1 hA1) (Ext.refl w1_) fun hI8 => ?_
   refine rd_eql ?_
   refine br (fun c2 => ?_) (fun c2 => ?_)
   · refine rd_fld fd134_2 ?_
     refine rd_loadS ty9 (at_DTerm_2 hA1) (Ext.refl w1_) fun hS13 => ?_
     refine rd_eqlS ?_
     refine br (fun c3 => ?_) (fun c3 => ?_)
     · refine rd_fld fd134_3 ?_
       refine rd_load ty132 (at_DTerm_3 hA1) (Ext.refl w1_) fun v18 h18 => ?_
       have hln19 := is_len h18
       refine rd_len u132 h18 ?_
       refine rd_eql ?_
       refine ⟨hx1_, ?_⟩
       congr 1
       rw [decide_eq_decide, DTerm.ext_iff]
       exact ⟨fun h => ⟨c1, c2, c3, List.eq_nil_of_length_eq_zero (by omega)⟩, fun h => by rw [h.2.2.2]; rfl⟩
     · refine ⟨hx1_, ?_⟩
       have : t ≠ term0 := fun e => c3 (by rw [e]; rfl)
       simp [this]
   · refine ⟨hx1_, ?_⟩
     have : t ≠ term0 := fun e => c2 (by rw [e]; rfl)
     simp [this]
 · refine ⟨hx1_, ?_⟩
   have : t ≠ term0 := fun e => c1 (by rw [e]; rfl)
   simp [this]
def F207 (a0 a1 : Value) (w : World) (R : VW) : Prop :=
 OP tp (Instr.box 134 a0) w fun x2 w =>
 OP tp (Instr.box 134 a1) w fun x3 w =>
 RD tp (Instr.fieldAt 134 x2 0) w fun x6 =>
 RD tp (Instr.loadAt 3 x6) w fun x7 =>
 RD tp (Instr.fieldAt 134 x3 0) w fun x8 =>
 RD tp (Instr.loadAt 3 x8) w fun x9 =>
 RD tp (bin .neq 3 T0 T0 x7 x9) w fun x10 =>
 BR x10
 (R (Value.bool false) w)
 (RD tp (Instr.fieldAt 134 x2 1) w fun x12 =>
 RD tp (Instr.loadAt 3 x12) w fun x13 =>
 RD tp (Instr.fieldAt 134 x3 1) w fun x14 =>
 RD tp (Instr.loadAt 3 x14) w fun x15 =>
 RD tp (bin .neq 3 T0 T0 x13 x15) w fun x16 =>
 BR x16
 (R (Value.bool false) w)
 (RD tp (Instr.fieldAt 134 x2 2) w fun x19 =>
 RD tp (Instr.loadAt 9 x19) w fun x20 =>
 RD tp (Instr.fieldAt 134 x3 2) w fun x21 =>
 RD tp (Instr.loadAt 9 x21) w fun x22 =>
 RD tp (bin .neq 9 T0 T0 x20 x22) w fun x23 =>
 BR x23
 (R (Value.bool false) w)
 (RD tp (Instr.fieldAt 134 x2 3) w fun x26 =>
 RD tp (Instr.loadAt 132 x26) w fun x27 =>
 RD tp (ln 132 3 x27) w fun x28 =>
 RD tp (Instr.fieldAt 134 x3 3) w fun x29 =>
 RD tp (Instr.loadAt 132 x29) w fun x30 =>
 RD tp (ln 132 3 x30) w fun x31 =>
 RD tp (bin .neq 3 T0 T0 x28 x31) w fun x32 =>
 BR x32
 (R (Value.bool false) w)
 (LOOPI [5] [(Value.int .i64 0)] w fun u4 w next4 =>
 RD tp (Instr.fieldAt 134 x2 3) w fun x35 =>
 RD tp (Instr.loadAt 132 x35) w fun x36 =>
 RD tp (ln 132 3 x36) w fun x37 =>
 RD tp (bin .lss 3 T0 T0 (u4 5) x37) w fun x38 =>
 BR x38
 ((fun w => RD tp (Instr.fieldAt 134 x2 3) w fun x41 =>
 RD tp (Instr.loadAt 132 x41) w fun x42 =>
 RD tp (Instr.indexAt 132 x42 (u4 5)) w fun x44 =>
 RD tp (Instr.loadAt 134 x44) w fun x45 =>
 RD tp (Instr.fieldAt 134 x3 3) w fun x46 =>
 RD tp (Instr.loadAt 132 x46) w fun x47 =>
 RD tp (Instr.indexAt 132 x47 (u4 5)) w fun x49 =>
 RD tp (Instr.loadAt 134 x49) w fun x50 =>
 CALL tp 207 [x45, x50] w fun x51 w =>
 RD tp (Op.unary .not x51) w fun x52 =>
 BR x52
 (R (Value.bool false) w)
 (RD tp (bin .add 3 T0 U0 (u4 5) (Value.int .i64 1)) w fun x40 =>
 next4 [x40] w)) (World.drew1 w))
 (R (Value.bool true) w)))))
def cfg207 : Cfg := ⟨extL, [], [(4, 9007182074871856, [5])], [(6, [0, 1, 2, 3, 4, 5, 6, 7, 8, 9, 10, 11], 0)], [], [], []⟩
theorem F207_eq (a0 a1 : Value) (w : World) (R : VW) : vcF Tryz.prog cfg207 Tryz.f207 [a0, a1] w R = F207 a0 a1 w R := by kernel_rfl
theorem F207_call {a0 a1 : Value} {w : World} {R : VW} (h : F207 a0 a1 w R) : CALL Tryz.prog 207 [a0, a1] w R :=
 call_of (g := cfg207) ent mixed Tryz.func207 (Nat.le_of_ble_eq_true (by kernel_rfl)) (by kernel_rfl) (F207_eq a0 a1 w R ▸ h)
theorem sameTerm0_ok {w : World} {v0 : Value} {W0 : World} {t : DTerm} {v1 : Value} {W1 : World} {t2 : DTerm}  (h0 : Is W0 v0 t) (e0 : Ext W0 w) (h1 : Is W1 v1 t2) (e1 : Ext W1 w) (ht : t2 = term0) :
   CALL Tryz.prog 207 [v0, v1] w fun r w' => Ext w w' ∧ (r = .bool (decide (t = term0))) := by
 refine F207_call ?_
 unfold F207
 subst ht
 refine op_boxS ty134 rfl h0 e0 fun w1_ hx1_ hA2 hV2 => ?_
 refine op_boxS ty134 rfl h1 (e1.trans hx1_) fun w2_ hx2_ hA3 hV3 => ?_
 refine rd_fld fd134_0 ?_
 refine rd_loadI ty3 (at_DTerm_0 hA2) hx2_ fun hI7 => ?_
 refine rd_fld fd134_0 ?_
 refine rd_loadI ty3 (at_DTerm_0 hA3) (Ext.refl w2_) fun hI9 => ?_
 refine rd_neq ?_
 refine br (fun c1 => ?_) (fun c1 => ?_)
 · refine ⟨(hx1_.trans hx2_), ?_⟩
   have : t ≠ term0 := fun e => c1 (by rw [e])
   simp [this]
 · refine rd_fld fd134_1 ?_
   refine rd_loadI ty3 (at_DTerm_1 hA2) hx2_ fun hI13 => ?_
   refine rd_fld fd134_1 ?_
   refine rd_loadI ty3 (at_DTerm_1 hA3) (Ext.refl w2_) fun hI15 => ?_
   refine rd_neq ?_
   refine br (fun c2 => ?_) (fun c2 => ?_)
   · refine ⟨(hx1_.trans hx2_), ?_⟩
     have : t ≠ term0 := fun e => c2 (by rw [e])
     simp [this]
   · refine rd_fld fd134_2 ?_
     refine rd_loadS ty9 (at_DTerm_2 hA2) hx2_ fun hS20 => ?_
     refine rd_fld fd134_2 ?_
     refine rd_loadS ty9 (at_DTerm_2 hA3) (Ext.refl w2_) fun hS22 => ?_
     refine rd_neqS ?_
     refine br (fun c3 => ?_) (fun c3 => ?_)
     · refine ⟨(hx1_.trans hx2_), ?_⟩
       have : t ≠ term0 := fun e => c3 (by rw [e])
       simp [this]
     · refine rd_fld fd134_3 ?_
       refine rd_load ty132 (at_DTerm_3 hA2) hx2_ fun v27 h27 => ?_
       have hln28 := is_len h27
       refine rd_len u132 h27 ?_
       refine rd_fld fd134_3 ?_
       refine rd_load ty132 (at_DTerm_3 hA3) (Ext.refl w2_) fun v30 h30 => ?_
       have hln31 := is_len h30
       refine rd_len u132 h30 ?_
       refine rd_neq ?_
       refine br (fun c4 => ?_) (fun c4 => ?_)
       · refine ⟨(hx1_.trans hx2_), ?_⟩
         have : t ≠ term0 := fun e => c4 (by rw [e])
         simp [this]
       · refine loopC (0) (fun k us w' => us = [.int .i64 (k : Int)] ∧ Ext w2_ w' ∧ (True)) (0) (by omega) ⟨by simp, Ext.refl w2_, trivial⟩ ?_
         rintro k m4 uu4 w3_ hk4 ⟨hu, hx3_, hinv⟩
         simp only [List.map_cons, List.map_nil, List.cons.injEq, and_true] at hu
         try rw [hu]
         try clear hu
         refine rd_fld fd134_3 ?_
         refine rd_load ty132 (at_DTerm_3 hA2) (hx2_.trans hx3_) fun v36 h36 => ?_
         have hln37 := is_len h36
         refine rd_len u132 h36 ?_
         refine rd_lss ?_
         refine br (fun c5 => ?_) (fun c5 => ?_)
         · have hx4_ := ext_drew w3_
           exact absurd c5 (by have : (term0.kids.length : Int) = 0 := rfl; omega)
         · refine ⟨(hx1_.trans (hx2_.trans hx3_)), ?_⟩
           have : t = term0 := DTerm.ext_iff.2 ⟨Decidable.not_not.1 c1, Decidable.not_not.1 c2, Decidable.not_not.1 c3, List.eq_nil_of_length_eq_zero (by have : (term0.kids.length : Int) = 0 := rfl; omega)⟩
           simp [this]
def plc (s : ByteArray) : List ByteArray → Int
 | [] => -1
 | x :: l => if x = s then 0 else if plc s l < 0 then -1 else plc s l + 1
theorem plc_none {s : ByteArray} {l : List ByteArray} (h : s ∉ l) : plc s l = -1 := by
 induction l with
 | nil => rfl
 | cons x l ih =>
   simp only [List.mem_cons, not_or] at h
   rw [plc, if_neg (fun e => h.1 e.symm), ih h.2]; rfl
theorem plc_at {s : ByteArray} : ∀ {l : List ByteArray} {k : Nat} (hk : k < l.length), s ∉ l.take k → l[k] = s → plc s l = k
 | x :: l, 0, _, _, h => by simp only [List.getElem_cons_zero] at h; rw [plc, if_pos h]; rfl
 | x :: l, k + 1, hk, hn, h => by
   simp only [List.take_succ_cons, List.mem_cons, not_or] at hn
   have ih := plc_at (by simpa using hk) hn.2 (by simpa using h)
   rw [plc, if_neg (fun e => hn.1 e.symm), ih, if_neg (by omega)]
   omega
theorem plc_lt {s : ByteArray} {l : List ByteArray} : -1 ≤ plc s l ∧ plc s l < l.length := by
 induction l with
 | nil => simp [plc]
 | cons x l ih =>
   rw [plc]
   split
   · simp only [List.length_cons]; omega
   · split <;> simp only [List.length_cons] <;> omega
theorem plc_iff {s : ByteArray} {l : List ByteArray} : 0 ≤ plc s l ↔ s ∈ l := by
 induction l with
 | nil => simp [plc]
 | cons x l ih =>
   rw [plc]
   split
   · rename_i h; simp [h]
   · rename_i h
     rw [List.mem_cons, ← ih]
     have : ¬ s = x := fun e => h e.symm
     simp only [this, false_or]
     split <;> omega
theorem mem_take_succS {l : List ByteArray} {k : Nat} {y : ByteArray} (hk : k < l.length) (h : y ∉ l.take k) (c : ¬ l[k] = y) : y ∉ l.take (k + 1) := by
 rw [List.take_succ_eq_append_getElem hk]
 simp only [List.mem_append, List.mem_cons, List.not_mem_nil, or_false, not_or]
 exact ⟨h, fun e => c e.symm⟩
def F204 (a0 a1 : Value) (w : World) (R : VW) : Prop :=
 LOOPI [5] [(Value.int .i64 0)] w fun u2 w next2 =>
 RD tp (ln 22 3 a0) w fun x8 =>
 RD tp (bin .lss 3 T0 T0 (u2 5) x8) w fun x9 =>
 BR x9
 (RD tp (Instr.indexAt 22 a0 (u2 5)) w fun x14 =>
 RD tp (Instr.loadAt 9 x14) w fun x15 =>
 RD tp (bin .eql 9 T0 T0 x15 a1) w fun x17 =>
 BR x17
 (R (u2 5) w)
 (RD tp (bin .add 3 T0 U0 (u2 5) (Value.int .i64 1)) w fun x11 =>
 next2 [x11] w))
 (R (Value.int .i64 (-1)) w)
def cfg204 : Cfg := ⟨extL, [], [(2, 524272, [5])], [], [], [], []⟩
theorem F204_eq (a0 a1 : Value) (w : World) (R : VW) : vcF Tryz.prog cfg204 Tryz.f204 [a0, a1] w R = F204 a0 a1 w R := by kernel_rfl
theorem F204_call {a0 a1 : Value} {w : World} {R : VW} (h : F204 a0 a1 w R) : CALL Tryz.prog 204 [a0, a1] w R :=
 call_of (g := cfg204) ent mixed Tryz.func204 (Nat.le_of_ble_eq_true (by kernel_rfl)) (by kernel_rfl) (F204_eq a0 a1 w R ▸ h)
theorem specPlaceOf_ok {w : World} {v0 : Value} {W0 : World} {l : (List ByteArray)} {s : ByteArray}  (h0 : Is W0 v0 l) (e0 : Ext W0 w)  :
   CALL Tryz.prog 204 [v0, .string s] w fun r w' => Ext w w' ∧ (r = .int .i64 (plc s l)) := by
 refine F204_call ?_
 unfold F204
 refine loopC (l.length) (fun k us w' => us = [.int .i64 (k : Int)] ∧ Ext w w' ∧ (s ∉ l.take k)) (0) (by omega) ⟨by simp, Ext.refl w, by simp⟩ ?_
 rintro k m2 uu2 w1_ hk2 ⟨hu, hx1_, hinv⟩
 simp only [List.map_cons, List.map_nil, List.cons.injEq, and_true] at hu
 try rw [hu]
 try clear hu
 have hln8 := is_len h0
 refine rd_len u22 h0 ?_
 refine rd_lss ?_
 refine br (fun c1 => ?_) (fun c1 => ?_)
 · refine rd_indexN u22 ty9 h0 (by omega) fun b14 o14 h14 => ?_
   refine rd_loadS ty9 h14 (e0.trans hx1_) fun hS15 => ?_
   refine rd_eqlS ?_
   refine br (fun c2 => ?_) (fun c2 => ?_)
   · refine ⟨hx1_, ?_⟩
     rw [plc_at (by omega) hinv c2]
   · refine rd_inc (by omega) ?_
     refine ⟨m2 - 1, by omega, k + 1, by omega, by simp, hx1_, ?_⟩
     exact mem_take_succS (by omega) hinv c2
 · refine ⟨hx1_, ?_⟩
   rw [List.take_of_length_le (by omega)] at hinv
   rw [plc_none hinv]
def F242 (a0 a1 : Value) (w : World) (R : VW) : Prop :=
 RD tp (ln 22 3 a0) w fun x7 =>
 LOOPI [8] [(Value.int .i64 0)] w fun u2 w next2 =>
 RD tp (bin .lss 3 T0 T0 (u2 8) x7) w fun x9 =>
 BR x9
 (RD tp (Instr.indexAt 22 a0 (u2 8)) w fun x14 =>
 RD tp (Instr.loadAt 9 x14) w fun x15 =>
 RD tp (bin .eql 9 T0 T0 a1 x15) w fun x16 =>
 BR x16
 (R (u2 8) w)
 (RD tp (bin .add 3 T0 U0 (u2 8) (Value.int .i64 1)) w fun x18 =>
 next2 [x18] w))
 (R (Value.int .i64 (-1)) w)
def cfg242 : Cfg := ⟨extL, [], [(2, 524080, [8])], [], [], [], []⟩
theorem F242_eq (a0 a1 : Value) (w : World) (R : VW) : vcF Tryz.prog cfg242 Tryz.f242 [a0, a1] w R = F242 a0 a1 w R := by kernel_rfl
theorem F242_call {a0 a1 : Value} {w : World} {R : VW} (h : F242 a0 a1 w R) : CALL Tryz.prog 242 [a0, a1] w R :=
 call_of (g := cfg242) ent mixed Tryz.func242 (Nat.le_of_ble_eq_true (by kernel_rfl)) (by kernel_rfl) (F242_eq a0 a1 w R ▸ h)
theorem indexStr_ok {w : World} {v0 : Value} {W0 : World} {l : (List ByteArray)} {s : ByteArray}  (h0 : Is W0 v0 l) (e0 : Ext W0 w)  :
   CALL Tryz.prog 242 [v0, .string s] w fun r w' => Ext w w' ∧ (r = .int .i64 (plc s l)) := by
 refine F242_call ?_
 unfold F242
 have hln7 := is_len h0
 refine rd_len u22 h0 ?_
 refine loopC (l.length) (fun k us w' => us = [.int .i64 (k : Int)] ∧ Ext w w' ∧ (s ∉ l.take k)) (0) (by omega) ⟨by simp, Ext.refl w, by simp⟩ ?_
 rintro k m2 uu2 w1_ hk2 ⟨hu, hx1_, hinv⟩
 simp only [List.map_cons, List.map_nil, List.cons.injEq, and_true] at hu
 try rw [hu]
 try clear hu
 refine rd_lss ?_
 refine br (fun c1 => ?_) (fun c1 => ?_)
 · refine rd_indexN u22 ty9 h0 (by omega) fun b14 o14 h14 => ?_
   refine rd_loadS ty9 h14 (e0.trans hx1_) fun hS15 => ?_
   refine rd_eqlS ?_
   refine br (fun c2 => ?_) (fun c2 => ?_)
   · refine ⟨hx1_, ?_⟩
     rw [plc_at (by omega) hinv c2.symm]
   · refine rd_inc (by omega) ?_
     refine ⟨m2 - 1, by omega, k + 1, by omega, by simp, hx1_, ?_⟩
     exact mem_take_succS (by omega) hinv (fun e => c2 e.symm)
 · refine ⟨hx1_, ?_⟩
   rw [List.take_of_length_le (by omega)] at hinv
   rw [plc_none hinv]
def F226 (a0 a1 : Value) (w : World) (R : VW) : Prop :=
 CALL tp 242 [a0, a1] w fun x7 w =>
 RD tp (bin .geq 3 T0 U0 x7 (Value.int .i64 0)) w fun x8 =>
 R x8 w
def cfg226 : Cfg := ⟨extL, [], [], [], [], [], []⟩
theorem F226_eq (a0 a1 : Value) (w : World) (R : VW) : vcF Tryz.prog cfg226 Tryz.f226 [a0, a1] w R = F226 a0 a1 w R := by kernel_rfl
theorem F226_call {a0 a1 : Value} {w : World} {R : VW} (h : F226 a0 a1 w R) : CALL Tryz.prog 226 [a0, a1] w R :=
 call_of (g := cfg226) ent mixed Tryz.func226 (Nat.le_of_ble_eq_true (by kernel_rfl)) (by kernel_rfl) (F226_eq a0 a1 w R ▸ h)
theorem containsStr_ok {w : World} {v0 : Value} {W0 : World} {l : (List ByteArray)} {s : ByteArray}  (h0 : Is W0 v0 l) (e0 : Ext W0 w)  :
   CALL Tryz.prog 226 [v0, .string s] w fun r w' => Ext w w' ∧ (r = .bool (decide (s ∈ l))) := by
 refine F226_call ?_
 unfold F226
 refine (indexStr_ok h0 e0).mono ?_
 rintro _ w1_ ⟨hx1_, rfl⟩
 refine rd_geq ?_
 refine ⟨hx1_, ?_⟩
 simp [plc_iff]
def F219 (a0 a1 : Value) (w : World) (R : VW) : Prop :=
 LOOPI [5] [(Value.int .i64 0)] w fun u2 w next2 =>
 RD tp (ln 22 3 a0) w fun x8 =>
 RD tp (bin .lss 3 T0 T0 (u2 5) x8) w fun x9 =>
 BR x9
 (RD tp (Instr.indexAt 22 a0 (u2 5)) w fun x14 =>
 RD tp (Instr.loadAt 9 x14) w fun x15 =>
 RD tp (bin .eql 9 T0 T0 x15 a1) w fun x17 =>
 BR x17
 (R (Value.bool true) w)
 (RD tp (bin .add 3 T0 U0 (u2 5) (Value.int .i64 1)) w fun x11 =>
 next2 [x11] w))
 (R (Value.bool false) w)
def cfg219 : Cfg := ⟨extL, [], [(2, 262128, [5])], [], [], [], []⟩
theorem F219_eq (a0 a1 : Value) (w : World) (R : VW) : vcF Tryz.prog cfg219 Tryz.f219 [a0, a1] w R = F219 a0 a1 w R := by kernel_rfl
theorem F219_call {a0 a1 : Value} {w : World} {R : VW} (h : F219 a0 a1 w R) : CALL Tryz.prog 219 [a0, a1] w R :=
 call_of (g := cfg219) ent mixed Tryz.func219 (Nat.le_of_ble_eq_true (by kernel_rfl)) (by kernel_rfl) (F219_eq a0 a1 w R ▸ h)
theorem l04Has_ok {w : World} {v0 : Value} {W0 : World} {l : (List ByteArray)} {s : ByteArray}  (h0 : Is W0 v0 l) (e0 : Ext W0 w)  :
   CALL Tryz.prog 219 [v0, .string s] w fun r w' => Ext w w' ∧ (r = .bool (decide (s ∈ l))) := by
 refine F219_call ?_
 unfold F219
 refine loopC (l.length) (fun k us w' => us = [.int .i64 (k : Int)] ∧ Ext w w' ∧ (s ∉ l.take k)) (0) (by omega) ⟨by simp, Ext.refl w, by simp⟩ ?_
 rintro k m2 uu2 w1_ hk2 ⟨hu, hx1_, hinv⟩
 simp only [List.map_cons, List.map_nil, List.cons.injEq, and_true] at hu
 try rw [hu]
 try clear hu
 have hln8 := is_len h0
 refine rd_len u22 h0 ?_
 refine rd_lss ?_
 refine br (fun c1 => ?_) (fun c1 => ?_)
 · refine rd_indexN u22 ty9 h0 (by omega) fun b14 o14 h14 => ?_
   refine rd_loadS ty9 h14 (e0.trans hx1_) fun hS15 => ?_
   refine rd_eqlS ?_
   refine br (fun c2 => ?_) (fun c2 => ?_)
   · refine ⟨hx1_, ?_⟩
     have : s ∈ l := c2 ▸ List.getElem_mem _
     simp [this]
   · refine rd_inc (by omega) ?_
     refine ⟨m2 - 1, by omega, k + 1, by omega, by simp, hx1_, ?_⟩
     exact mem_take_succS (by omega) hinv c2
 · refine ⟨hx1_, ?_⟩
   rw [List.take_of_length_le (by omega)] at hinv
   simp [hinv]
def F237 (a0 a1 : Value) (w : World) (R : VW) : Prop :=
 RD tp (ln 22 3 a0) w fun x8 =>
 RD tp (bin .gtr 3 T0 T0 x8 a1) w fun x10 =>
 BR x10
 (R (Value.bool false) w)
 (RD tp (ln 22 3 a0) w fun x12 =>
 LOOPI [13] [(Value.int .i64 0)] w fun u4 w next4 =>
 RD tp (bin .lss 3 T0 T0 (u4 13) x12) w fun x14 =>
 BR x14
 (RD tp (Instr.indexAt 22 a0 (u4 13)) w fun x15 =>
 RD tp (Instr.loadAt 9 x15) w fun x16 =>
 CALL tp 286 [x16] w fun x18 w =>
 RD tp (Op.unary .not x18) w fun x19 =>
 BR x19
 (R (Value.bool false) w)
 (RD tp (bin .add 3 T0 U0 (u4 13) (Value.int .i64 1)) w fun x20 =>
 next4 [x20] w))
 (R (Value.bool true) w))
def cfg237 : Cfg := ⟨extL, [], [(4, 2089040, [13])], [], [], [], []⟩
theorem F237_eq (a0 a1 : Value) (w : World) (R : VW) : vcF Tryz.prog cfg237 Tryz.f237 [a0, a1] w R = F237 a0 a1 w R := by kernel_rfl
theorem F237_call {a0 a1 : Value} {w : World} {R : VW} (h : F237 a0 a1 w R) : CALL Tryz.prog 237 [a0, a1] w R :=
 call_of (g := cfg237) ent mixed Tryz.func237 (Nat.le_of_ble_eq_true (by kernel_rfl)) (by kernel_rfl) (F237_eq a0 a1 w R ▸ h)
theorem areNames_ok {w : World} {v0 : Value} {W0 : World} {l : (List ByteArray)} {m : Int}  (h0 : Is W0 v0 l) (e0 : Ext W0 w)  :
   CALL Tryz.prog 237 [v0, .int .i64 m] w fun r w' => Ext w w' ∧ (r = .bool (decide ((l.length : Int) ≤ m) && l.all nameB)) := by
 refine F237_call ?_
 unfold F237
 have hln8 := is_len h0
 refine rd_len u22 h0 ?_
 refine rd_gtr ?_
 refine br (fun c1 => ?_) (fun c1 => ?_)
 · refine ⟨Ext.refl w, ?_⟩
   simp [show ¬ (l.length : Int) ≤ m by omega]
 · have hln12 := is_len h0
   refine rd_len u22 h0 ?_
   refine loopC (l.length) (fun k us w' => us = [.int .i64 (k : Int)] ∧ Ext w w' ∧ ((l.take k).all nameB = true)) (0) (by omega) ⟨by simp, Ext.refl w, by simp⟩ ?_
   rintro k m4 uu4 w1_ hk4 ⟨hu, hx1_, hinv⟩
   simp only [List.map_cons, List.map_nil, List.cons.injEq, and_true] at hu
   try rw [hu]
   try clear hu
   refine rd_lss ?_
   refine br (fun c2 => ?_) (fun c2 => ?_)
   · refine rd_indexN u22 ty9 h0 (by omega) fun b15 o15 h15 => ?_
     refine rd_loadS ty9 h15 (e0.trans hx1_) fun hS16 => ?_
     refine (implIsName_ok ).mono ?_
     rintro _ w2_ ⟨hx2_, rfl⟩
     refine rd_not ?_
     refine br_b (fun c3 => ?_) (fun c3 => ?_)
     · refine ⟨(hx1_.trans hx2_), ?_⟩
       simp only [all_false (p := nameB) (l := l) (k := k) (by omega) (by simpa using c3), Bool.and_false]
     · have hln := is_len h0
       refine rd_inc (by omega) ?_
       refine ⟨m4 - 1, by omega, k + 1, by omega, by simp, (hx1_.trans hx2_), ?_⟩
       exact all_take (by omega) hinv (by simpa using c3)
   · refine ⟨hx1_, ?_⟩
     simp [all_done (p := nameB) (l := l) (by omega) hinv, show (l.length : Int) ≤ m by omega]
def F202 (a0 a1 : Value) (w : World) (R : VW) : Prop :=
 RD tp (ln 22 3 a0) w fun x7 =>
 RD tp (bin .gtr 3 T0 T0 x7 a1) w fun x9 =>
 BR x9
 (R (Value.bool false) w)
 (LOOPI [5] [(Value.int .i64 0)] w fun u4 w next4 =>
 RD tp (ln 22 3 a0) w fun x12 =>
 RD tp (bin .lss 3 T0 T0 (u4 5) x12) w fun x13 =>
 BR x13
 (RD tp (Instr.indexAt 22 a0 (u4 5)) w fun x18 =>
 RD tp (Instr.loadAt 9 x18) w fun x19 =>
 CALL tp 245 [x19] w fun x20 w =>
 RD tp (Op.unary .not x20) w fun x21 =>
 BR x21
 (R (Value.bool false) w)
 (RD tp (bin .add 3 T0 U0 (u4 5) (Value.int .i64 1)) w fun x15 =>
 next4 [x15] w))
 (R (Value.bool true) w))
def cfg202 : Cfg := ⟨extL, [], [(4, 4193328, [5])], [], [], [], []⟩
theorem F202_eq (a0 a1 : Value) (w : World) (R : VW) : vcF Tryz.prog cfg202 Tryz.f202 [a0, a1] w R = F202 a0 a1 w R := by kernel_rfl
theorem F202_call {a0 a1 : Value} {w : World} {R : VW} (h : F202 a0 a1 w R) : CALL Tryz.prog 202 [a0, a1] w R :=
 call_of (g := cfg202) ent mixed Tryz.func202 (Nat.le_of_ble_eq_true (by kernel_rfl)) (by kernel_rfl) (F202_eq a0 a1 w R ▸ h)
theorem l05Names_ok {w : World} {v0 : Value} {W0 : World} {l : (List ByteArray)} {m : Int}  (h0 : Is W0 v0 l) (e0 : Ext W0 w)  :
   CALL Tryz.prog 202 [v0, .int .i64 m] w fun r w' => Ext w w' ∧ (r = .bool (decide ((l.length : Int) ≤ m) && l.all nameB)) := by
 refine F202_call ?_
 unfold F202
 have hln7 := is_len h0
 refine rd_len u22 h0 ?_
 refine rd_gtr ?_
 refine br (fun c1 => ?_) (fun c1 => ?_)
 · refine ⟨Ext.refl w, ?_⟩
   simp [show ¬ (l.length : Int) ≤ m by omega]
 · refine loopC (l.length) (fun k us w' => us = [.int .i64 (k : Int)] ∧ Ext w w' ∧ ((l.take k).all nameB = true)) (0) (by omega) ⟨by simp, Ext.refl w, by simp⟩ ?_
   rintro k m4 uu4 w1_ hk4 ⟨hu, hx1_, hinv⟩
   simp only [List.map_cons, List.map_nil, List.cons.injEq, and_true] at hu
   try rw [hu]
   try clear hu
   have hln12 := is_len h0
   refine rd_len u22 h0 ?_
   refine rd_lss ?_
   refine br (fun c2 => ?_) (fun c2 => ?_)
   · refine rd_indexN u22 ty9 h0 (by omega) fun b18 o18 h18 => ?_
     refine rd_loadS ty9 h18 (e0.trans hx1_) fun hS19 => ?_
     refine (specIsName_ok ).mono ?_
     rintro _ w2_ ⟨hx2_, rfl⟩
     refine rd_not ?_
     refine br_b (fun c3 => ?_) (fun c3 => ?_)
     · refine ⟨(hx1_.trans hx2_), ?_⟩
       simp only [all_false (p := nameB) (l := l) (k := k) (by omega) (by simpa using c3), Bool.and_false]
     · refine rd_inc (by omega) ?_
       refine ⟨m4 - 1, by omega, k + 1, by omega, by simp, (hx1_.trans hx2_), ?_⟩
       exact all_take (by omega) hinv (by simpa using c3)
   · refine ⟨hx1_, ?_⟩
     simp [all_done (p := nameB) (l := l) (by omega) hinv, show (l.length : Int) ≤ m by omega]
instance decNodup : ∀ (l : List ByteArray), Decidable l.Nodup
 | [] => isTrue List.nodup_nil
 | x :: l => match decMemBA x l, decNodup l with
   | isFalse h, isTrue h' => isTrue (List.nodup_cons.2 ⟨h, h'⟩)
   | isTrue h, _ => isFalse fun e => (List.nodup_cons.1 e).1 h
   | _, isFalse h => isFalse fun e => h (List.nodup_cons.1 e).2
theorem dup_of {l : List ByteArray} {k : Nat} (hk : k < l.length) (h : l[k] ∈ l.drop (k + 1)) : ¬ l.Nodup := fun hn => by
 have e : l = l.take k ++ (l[k] :: l.drop (k + 1)) := by simp
 rw [e, List.nodup_append] at hn
 exact (List.nodup_cons.1 hn.2.1).1 h
theorem dup_of' {l : List ByteArray} {k : Nat} (hk : k < l.length) (h : l[k] ∈ l.take k) : ¬ l.Nodup := fun hn => by
 have e : l = l.take k ++ (l[k] :: l.drop (k + 1)) := by simp
 rw [e, List.nodup_append] at hn
 exact hn.2.2 _ h _ List.mem_cons_self rfl
theorem nodup_take_succ {l : List ByteArray} {k : Nat} (hk : k < l.length) (h : (l.take k).Nodup) (c : l[k] ∉ l.take k) : (l.take (k + 1)).Nodup := by
 rw [List.take_succ_eq_append_getElem hk, List.nodup_append]
 refine ⟨h, by simp, fun a ha b hb e => ?_⟩
 simp only [List.mem_cons, List.not_mem_nil, or_false] at hb
 subst e; subst hb
 exact c ha
theorem nodup_of_drops : ∀ {l : List ByteArray}, (∀ (k : Nat) (hk : k < l.length), l[k] ∉ l.drop (k + 1)) → l.Nodup
 | [], _ => List.nodup_nil
 | x :: l, h => List.nodup_cons.2 ⟨h 0 (by simp), nodup_of_drops fun k hk => h (k + 1) (by simpa using hk)⟩
def F238 (a0 : Value) (w : World) (R : VW) : Prop :=
 RD tp (ln 22 3 a0) w fun x6 =>
 LOOPI [7] [(Value.int .i64 0)] w fun u2 w next2 =>
 RD tp (bin .lss 3 T0 T0 (u2 7) x6) w fun x8 =>
 BR x8
 (RD tp (Instr.indexAt 22 a0 (u2 7)) w fun x10 =>
 RD tp (Instr.loadAt 9 x10) w fun x11 =>
 RD tp (bin .add 3 T0 U0 (u2 7) (Value.int .i64 1)) w fun x14 =>
 RD tp (Instr.sliceAt 22 a0 (some x14) none none) w fun x15 =>
 CALL tp 226 [x15, x11] w fun x17 w =>
 BR x17
 (R (Value.bool true) w)
 (RD tp (bin .add 3 T0 U0 (u2 7) (Value.int .i64 1)) w fun x18 =>
 next2 [x18] w))
 (R (Value.bool false) w)
def cfg238 : Cfg := ⟨extL, [], [(2, 524188, [7])], [], [], [], []⟩
theorem F238_eq (a0 : Value) (w : World) (R : VW) : vcF Tryz.prog cfg238 Tryz.f238 [a0] w R = F238 a0 w R := by kernel_rfl
theorem F238_call {a0 : Value} {w : World} {R : VW} (h : F238 a0 w R) : CALL Tryz.prog 238 [a0] w R :=
 call_of (g := cfg238) ent mixed Tryz.func238 (Nat.le_of_ble_eq_true (by kernel_rfl)) (by kernel_rfl) (F238_eq a0 w R ▸ h)
theorem hasTwice_ok {w : World} {v0 : Value} {W0 : World} {l : (List ByteArray)}  (h0 : Is W0 v0 l) (e0 : Ext W0 w)  :
   CALL Tryz.prog 238 [v0] w fun r w' => Ext w w' ∧ (r = .bool (decide (¬ l.Nodup))) := by
 refine F238_call ?_
 unfold F238
 have hln6 := is_len h0
 refine rd_len u22 h0 ?_
 refine loopC (l.length) (fun k us w' => us = [.int .i64 (k : Int)] ∧ Ext w w' ∧ (∀ (j : Nat) (hj : j < l.length), j < k → l[j] ∉ l.drop (j + 1))) (0) (by omega) ⟨by simp, Ext.refl w, fun j hj h => by omega⟩ ?_
 rintro k m2 uu2 w1_ hk2 ⟨hu, hx1_, hinv⟩
 simp only [List.map_cons, List.map_nil, List.cons.injEq, and_true] at hu
 try rw [hu]
 try clear hu
 have hln := is_len h0
 refine rd_lss ?_
 refine br (fun c1 => ?_) (fun c1 => ?_)
 · refine rd_indexN u22 ty9 h0 (by omega) fun b10 o10 h10 => ?_
   refine rd_loadS ty9 h10 (e0.trans hx1_) fun hS11 => ?_
   refine rd_inc (by omega) ?_
   refine rd_slice_from u22 ty9 h0 (by omega) (by omega) fun v15 h15 => ?_
   refine (containsStr_ok h15 (e0.trans hx1_)).mono ?_
   rintro _ w2_ ⟨hx2_, rfl⟩
   refine br (fun c2 => ?_) (fun c2 => ?_)
   · refine ⟨(hx1_.trans hx2_), ?_⟩
     simp [dup_of (by omega) c2]
   · refine rd_inc (by omega) ?_
     refine ⟨m2 - 1, by omega, k + 1, by omega, by simp, (hx1_.trans hx2_), ?_⟩
     intro j hj hjk
     by_cases h : j = k
     · subst h; exact c2
     · exact hinv j hj (by omega)
 · refine ⟨hx1_, ?_⟩
   simp [nodup_of_drops fun j hj => hinv j hj (by omega)]
def F203 (a0 : Value) (w : World) (R : VW) : Prop :=
 LOOPI [3] [(Value.int .i64 0)] w fun u2 w next2 =>
 RD tp (ln 22 3 a0) w fun x6 =>
 RD tp (bin .lss 3 T0 T0 (u2 3) x6) w fun x7 =>
 BR x7
 ((fun w => RD tp (Instr.sliceAt 22 a0 none (some (u2 3)) none) w fun x12 =>
 RD tp (Instr.indexAt 22 a0 (u2 3)) w fun x15 =>
 RD tp (Instr.loadAt 9 x15) w fun x16 =>
 CALL tp 219 [x12, x16] w fun x17 w =>
 BR x17
 (R (Value.bool true) w)
 (RD tp (bin .add 3 T0 U0 (u2 3) (Value.int .i64 1)) w fun x9 =>
 next2 [x9] w)) (World.drew1 w))
 (R (Value.bool false) w)
def cfg203 : Cfg := ⟨extL, [], [(2, 262140, [3])], [(4, [0, 1, 2, 3, 4, 5, 6, 7], 0)], [], [], []⟩
theorem F203_eq (a0 : Value) (w : World) (R : VW) : vcF Tryz.prog cfg203 Tryz.f203 [a0] w R = F203 a0 w R := by kernel_rfl
theorem F203_call {a0 : Value} {w : World} {R : VW} (h : F203 a0 w R) : CALL Tryz.prog 203 [a0] w R :=
 call_of (g := cfg203) ent mixed Tryz.func203 (Nat.le_of_ble_eq_true (by kernel_rfl)) (by kernel_rfl) (F203_eq a0 w R ▸ h)
theorem l07Twice_ok {w : World} {v0 : Value} {W0 : World} {l : (List ByteArray)}  (h0 : Is W0 v0 l) (e0 : Ext W0 w)  :
   CALL Tryz.prog 203 [v0] w fun r w' => Ext w w' ∧ (r = .bool (decide (¬ l.Nodup))) := by
 refine F203_call ?_
 unfold F203
 refine loopC (l.length) (fun k us w' => us = [.int .i64 (k : Int)] ∧ Ext w w' ∧ ((l.take k).Nodup)) (0) (by omega) ⟨by simp, Ext.refl w, by simp⟩ ?_
 rintro k m2 uu2 w1_ hk2 ⟨hu, hx1_, hinv⟩
 simp only [List.map_cons, List.map_nil, List.cons.injEq, and_true] at hu
 try rw [hu]
 try clear hu
 have hln := is_len h0
 have hln6 := is_len h0
 refine rd_len u22 h0 ?_
 refine rd_lss ?_
 refine br (fun c1 => ?_) (fun c1 => ?_)
 · have hx2_ := ext_drew w1_
   refine rd_slice_to u22 ty9 h0 (by omega) (by omega) fun v12 h12 => ?_
   refine rd_indexN u22 ty9 h0 (by omega) fun b15 o15 h15 => ?_
   refine rd_loadS ty9 h15 (e0.trans (hx1_.trans hx2_)) fun hS16 => ?_
   refine (l04Has_ok h12 (e0.trans (hx1_.trans hx2_))).mono ?_
   rintro _ w3_ ⟨hx3_, rfl⟩
   refine br (fun c2 => ?_) (fun c2 => ?_)
   · refine ⟨(hx1_.trans (hx2_.trans hx3_)), ?_⟩
     simp [dup_of' (by omega) c2]
   · refine rd_inc (by omega) ?_
     refine ⟨m2 - 1, by omega, k + 1, by omega, by simp, (hx1_.trans (hx2_.trans hx3_)), ?_⟩
     exact nodup_take_succ (by omega) hinv c2
 · refine ⟨hx1_, ?_⟩
   rw [List.take_of_length_le (by omega)] at hinv
   simp [hinv]
def F303 (a0 a1 : Value) (w : World) (R : VW) : Prop :=
 CALL tp 226 [a0, a1] w fun x7 w =>
 BR x7
 (R a0 w)
 (OP tp (Instr.buildSlice 22 1 #[(0, a1)]) w fun x11 w =>
 OP tp (Builtin.append_ #[22, 22] 22 [a0, x11].toArray) w fun x12 w =>
 R x12 w)
def cfg303 : Cfg := ⟨extL, [], [], [], [], [], []⟩
theorem F303_eq (a0 a1 : Value) (w : World) (R : VW) : vcF Tryz.prog cfg303 Tryz.f303 [a0, a1] w R = F303 a0 a1 w R := by kernel_rfl
theorem F303_call {a0 a1 : Value} {w : World} {R : VW} (h : F303 a0 a1 w R) : CALL Tryz.prog 303 [a0, a1] w R :=
 call_of (g := cfg303) ent mixed Tryz.func303 (Nat.le_of_ble_eq_true (by kernel_rfl)) (by kernel_rfl) (F303_eq a0 a1 w R ▸ h)
def F275 (a0 a1 : Value) (w : World) (R : VW) : Prop :=
 OP tp (Instr.box 134 a1) w fun x3 w =>
 RD tp (Instr.fieldAt 134 x3 0) w fun x7 =>
 RD tp (Instr.loadAt 3 x7) w fun x8 =>
 RD tp (bin .eql 3 T0 U0 x8 (Value.int .i64 2)) w fun x9 =>
 BR x9
 (RD tp (Instr.fieldAt 134 x3 2) w fun x11 =>
 RD tp (Instr.loadAt 9 x11) w fun x12 =>
 CALL tp 303 [a0, x12] w fun x13 w =>
 R x13 w)
 (RD tp (Instr.fieldAt 134 x3 3) w fun x14 =>
 RD tp (Instr.loadAt 132 x14) w fun x15 =>
 RD tp (ln 132 3 x15) w fun x16 =>
 LOOPI [0, 17] [a0, (Value.int .i64 0)] w fun u4 w next4 =>
 RD tp (bin .lss 3 T0 T0 (u4 17) x16) w fun x18 =>
 BR x18
 (RD tp (Instr.indexAt 132 x15 (u4 17)) w fun x19 =>
 RD tp (Instr.loadAt 134 x19) w fun x20 =>
 OP tp (Instr.alloc 134 true (.tuple #[])) w fun x6 w =>
 OPU tp (Instr.storeAt 134 x6 x20) w fun w =>
 RD tp (Instr.loadAt 134 x6) w fun x22 =>
 CALL tp 275 [(u4 0), x22] w fun x23 w =>
 RD tp (bin .add 3 T0 U0 (u4 17) (Value.int .i64 1)) w fun x24 =>
 next4 [x23, x24] w)
 (R (u4 0) w))
def cfg275 : Cfg := ⟨extL, [], [(4, 33423425, [0, 17])], [], [], [], []⟩
theorem F275_eq (a0 a1 : Value) (w : World) (R : VW) : vcF Tryz.prog cfg275 Tryz.f275 [a0, a1] w R = F275 a0 a1 w R := by kernel_rfl
theorem F275_call {a0 a1 : Value} {w : World} {R : VW} (h : F275 a0 a1 w R) : CALL Tryz.prog 275 [a0, a1] w R :=
 call_of (g := cfg275) ent mixed Tryz.func275 (Nat.le_of_ble_eq_true (by kernel_rfl)) (by kernel_rfl) (F275_eq a0 a1 w R ▸ h)
def F247 (a0 a1 : Value) (w : World) (R : VW) : Prop :=
 OP tp (Instr.box 134 a0) w fun x2 w =>
 RD tp (Instr.fieldAt 134 x2 0) w fun x7 =>
 RD tp (Instr.loadAt 3 x7) w fun x8 =>
 RD tp (bin .eql 3 T0 U0 x8 (Value.int .i64 2)) w fun x9 =>
 BR x9
 (LOOPI [5] [(Value.int .i64 0)] w fun u3 w next3 =>
 RD tp (ln 22 3 a1) w fun x12 =>
 RD tp (bin .lss 3 T0 T0 (u3 5) x12) w fun x13 =>
 BR x13
 ((fun w => RD tp (Instr.indexAt 22 a1 (u3 5)) w fun x18 =>
 RD tp (Instr.loadAt 9 x18) w fun x19 =>
 RD tp (Instr.fieldAt 134 x2 2) w fun x20 =>
 RD tp (Instr.loadAt 9 x20) w fun x21 =>
 RD tp (bin .eql 9 T0 T0 x19 x21) w fun x22 =>
 BR x22
 (R a1 w)
 (RD tp (bin .add 3 T0 U0 (u3 5) (Value.int .i64 1)) w fun x15 =>
 next3 [x15] w)) (World.drew1 w))
 (RD tp (Instr.fieldAt 134 x2 2) w fun x25 =>
 RD tp (Instr.loadAt 9 x25) w fun x26 =>
 OP tp (Instr.buildSlice 22 1 #[(0, x26)]) w fun x27 w =>
 OP tp (Builtin.append_ #[22, 22] 22 [a1, x27].toArray) w fun x28 w =>
 R x28 w))
 (LOOPI [1, 6] [a1, (Value.int .i64 0)] w fun u9 w next9 =>
 RD tp (Instr.fieldAt 134 x2 3) w fun x30 =>
 RD tp (Instr.loadAt 132 x30) w fun x31 =>
 RD tp (ln 132 3 x31) w fun x32 =>
 RD tp (bin .lss 3 T0 T0 (u9 6) x32) w fun x33 =>
 BR x33
 (RD tp (Instr.fieldAt 134 x2 3) w fun x36 =>
 RD tp (Instr.loadAt 132 x36) w fun x37 =>
 RD tp (Instr.indexAt 132 x37 (u9 6)) w fun x39 =>
 RD tp (Instr.loadAt 134 x39) w fun x40 =>
 CALL tp 247 [x40, (u9 1)] w fun x42 w =>
 RD tp (bin .add 3 T0 U0 (u9 6) (Value.int .i64 1)) w fun x35 =>
 next9 [x42, x35] w)
 (R (u9 1) w))
def cfg247 : Cfg := ⟨extL, [], [(3, 16776240, [5]), (9, 8795556151362, [1, 6])], [(5, [0, 1, 2, 3, 4, 5, 6], 0)], [], [], []⟩
theorem F247_eq (a0 a1 : Value) (w : World) (R : VW) : vcF Tryz.prog cfg247 Tryz.f247 [a0, a1] w R = F247 a0 a1 w R := by kernel_rfl
theorem F247_call {a0 a1 : Value} {w : World} {R : VW} (h : F247 a0 a1 w R) : CALL Tryz.prog 247 [a0, a1] w R :=
 call_of (g := cfg247) ent mixed Tryz.func247 (Nat.le_of_ble_eq_true (by kernel_rfl)) (by kernel_rfl) (F247_eq a0 a1 w R ▸ h)
def F225 (a0 : Value) (w : World) (R : VW) : Prop :=
 OP tp (Instr.box 134 a0) w fun x1 w =>
 RD tp (Instr.loadAt 134 x1) w fun x3 =>
 CALL tp 240 [x3] w fun x4 w =>
 RD tp (Op.unary .not x4) w fun x5 =>
 BR x5
 (R (Value.slice none 0 0) w)
 (RD tp (Instr.loadAt 134 x1) w fun x6 =>
 CALL tp 275 [(Value.slice none 0 0), x6] w fun x7 w =>
 R x7 w)
def cfg225 : Cfg := ⟨extL, [], [], [], [], [], []⟩
theorem F225_eq (a0 : Value) (w : World) (R : VW) : vcF Tryz.prog cfg225 Tryz.f225 [a0] w R = F225 a0 w R := by kernel_rfl
theorem F225_call {a0 : Value} {w : World} {R : VW} (h : F225 a0 w R) : CALL Tryz.prog 225 [a0] w R :=
 call_of (g := cfg225) ent mixed Tryz.func225 (Nat.le_of_ble_eq_true (by kernel_rfl)) (by kernel_rfl) (F225_eq a0 w R ▸ h)
def F206 (a0 : Value) (w : World) (R : VW) : Prop :=
 OP tp (Instr.box 134 a0) w fun x1 w =>
 RD tp (Instr.loadAt 134 x1) w fun x3 =>
 CALL tp 205 [x3] w fun x4 w =>
 RD tp (Op.unary .not x4) w fun x5 =>
 BR x5
 (OP tp (Instr.buildSlice 22 0 #[]) w fun x6 w =>
 R x6 w)
 (RD tp (Instr.loadAt 134 x1) w fun x7 =>
 OP tp (Instr.buildSlice 22 0 #[]) w fun x8 w =>
 CALL tp 247 [x7, x8] w fun x9 w =>
 R x9 w)
def cfg206 : Cfg := ⟨extL, [], [], [], [], [], []⟩
theorem F206_eq (a0 : Value) (w : World) (R : VW) : vcF Tryz.prog cfg206 Tryz.f206 [a0] w R = F206 a0 w R := by kernel_rfl
theorem F206_call {a0 : Value} {w : World} {R : VW} (h : F206 a0 w R) : CALL Tryz.prog 206 [a0] w R :=
 call_of (g := cfg206) ent mixed Tryz.func206 (Nat.le_of_ble_eq_true (by kernel_rfl)) (by kernel_rfl) (F206_eq a0 w R ▸ h)
set_option linter.unusedVariables false
set_option linter.unusedSimpArgs false
def add1 (l : List ByteArray) (s : ByteArray) : List ByteArray := if s ∈ l then l else l ++ [s]
theorem add1_len (l : List ByteArray) (s : ByteArray) : (add1 l s).length ≤ l.length + 1 := by unfold add1; split <;> simp
def readsT : Nat → DTerm → List ByteArray → List ByteArray
 | n, t, l => if t.kind = 2 then add1 l t.name else match n with | 0 => l | m + 1 => t.kids.foldl (fun l k => readsT m k l) l
theorem readsT_def (n : Nat) (t : DTerm) (l : List ByteArray) : readsT n t l = if t.kind = 2 then add1 l t.name else match n with | 0 => l | m + 1 => t.kids.foldl (fun l k => readsT m k l) l := readsT.eq_def n t l
theorem foldl_take {α β : Type} (f : β → α → β) (b : β) {l : List α} {k : Nat} (hk : k < l.length) : (l.take (k + 1)).foldl f b = f ((l.take k).foldl f b) l[k] := by
 rw [List.take_succ_eq_append_getElem hk, List.foldl_append]; rfl
theorem termOk_kids {n : Nat} {t : DTerm} (h : termOk n t = true) (h2 : ¬ t.kind = 2) : t.kids = [] ∨ ∃ m, n = m + 1 ∧ t.kids.length ≤ 2 ∧ ∀ k ∈ t.kids, termOk m k = true := by
 by_cases h1 : t.kind = 1
 · rw [termOk_1 h1] at h
   simp only [Bool.and_eq_true, decide_eq_true_eq] at h
   exact .inl (List.eq_nil_of_length_eq_zero (by omega))
 · rw [termOk_3 h1 h2] at h
   simp only [Bool.and_eq_true, decide_eq_true_eq] at h
   obtain ⟨⟨_, h3⟩, h4⟩ := h
   cases n with
   | zero => simp at h4
   | succ m =>
     refine .inr ⟨m, rfl, ?_, fun k hk => List.all_eq_true.1 h4 k hk⟩
     split at h3 <;> omega
theorem readsT_len : ∀ (n : Nat) (t : DTerm) (l : List ByteArray), termOk n t = true → (readsT n t l).length ≤ l.length + 2 ^ n
 | n, t, l, h => by
   rw [readsT_def]
   have hp : 1 ≤ 2 ^ n := Nat.one_le_two_pow
   split
   · have := add1_len l t.name; omega
   · rename_i h2
     rcases termOk_kids h h2 with hk | ⟨m, rfl, hk, hall⟩
     · cases n with
       | zero => simp
       | succ m => simp [hk]
     · show (t.kids.foldl (fun l k => readsT m k l) l).length ≤ _
       have key : ∀ (ks : List DTerm) (l : List ByteArray), (∀ k ∈ ks, termOk m k = true) → (ks.foldl (fun l k => readsT m k l) l).length ≤ l.length + ks.length * 2 ^ m := by
         intro ks
         induction ks with
         | nil => intro l _; simp
         | cons k ks ih =>
           intro l hks
           rw [List.foldl_cons, List.length_cons, Nat.add_mul, Nat.one_mul]
           have h1 := ih (readsT m k l) fun x hx => hks x (by simp [hx])
           have h2 := readsT_len m k l (hks k (by simp))
           omega
       have h1 := key t.kids l hall
       have h2 : t.kids.length * 2 ^ m ≤ 2 * 2 ^ m := Nat.mul_le_mul_right _ hk
       rw [Nat.pow_succ]; omega
theorem op_pushS {w : World} {v : Value} {l : List ByteArray} {F : List Nat} {s : ByteArray} {ty : TypeId} {K : Value → World → Prop} (hr : RowF F 9 w v l) (hn : F.Nodup) (hs : s.size ≤ maxLen) (hl : l.length ≤ 1000000)
   (k : ∀ v' w', Chg F w w' → (∃ F', RowF F' 9 w' v' (l ++ [s]) ∧ F'.Nodup ∧ ∀ b ∈ F', b ∈ F ∨ w.heap.size ≤ b) → K v' w') :
   OP Tryz.prog (Instr.buildSlice 22 1 #[(0, .string s)]) w fun x w1 => OP Tryz.prog (Builtin.append_ #[22, 22] ty [v, x].toArray) w1 K := by
 refine op_build1 (α := ByteArray) (x := s) (F := []) u22 ty9 z9 (by decide) ⟨⟨_, ⟨rfl, rfl, hs⟩, rfl⟩, List.nodup_nil, Wr.nil _⟩ fun w1 hx1 hm1 => ?_
 obtain ⟨a, cap, Fi, xs, he, h1, h2, hc, h4⟩ := is_list hm1.is
 have hFi := Cells.flat (xs := xs) hc
 subst hFi
 refine op_append (α := ByteArray) (m := [s]) u22 ty9 zc9 (hr.ext hx1) hn he hc (.inr ?_) (Wr.nil _) (by simpa using hn) (by simp only [List.length_cons, List.length_nil, maxLen_eq]; omega) (by simp only [List.length_cons, List.length_nil]; omega) fun v' w' F' hch hfull hr' hn' hs' => ?_
 · rcases h4 with h4 | ⟨b, o, ha, hra, _⟩
   · simp at h4
   · exact ⟨b, o, ha, hra⟩
 · have hown : ∀ c ∈ v.ownBlock.toList, c ∈ F := fun c hc => by
     obtain ⟨xs, Fi, _, _, rfl, _⟩ := hr
     simp only [List.mem_append]; exact .inl hc
   refine k v' w' ((Ext.chg F hx1).trans (hch.mono hown)) ⟨F', hr', hn', fun b hb => ?_⟩
   rcases hs' b hb with h | h | h
   · exact .inl h
   · simp at h
   · exact .inr (Nat.le_trans hx1.size h)
theorem addOnce_ok {w : World} {v : Value} {l : List ByteArray} {F : List Nat} {s : ByteArray} (hr : RowF F 9 w v l) (hn : F.Nodup) (hs : s.size ≤ maxLen) (hl : l.length ≤ 1000000) :
   CALL Tryz.prog 303 [v, .string s] w fun r w' => Chg F w w' ∧ ∃ F', RowF F' 9 w' r (add1 l s) ∧ F'.Nodup ∧ ∀ b ∈ F', b ∈ F ∨ w.heap.size ≤ b := by
 refine F303_call ?_
 unfold F303
 refine (containsStr_ok hr.own.is (Ext.refl w)).mono ?_
 rintro _ w1 ⟨hx1, rfl⟩
 refine br (fun c1 => ?_) (fun c1 => ?_)
 · exact ⟨Ext.chg F hx1, F, by unfold add1; rw [if_pos c1]; exact hr.ext hx1, hn, fun b hb => .inl hb⟩
 · refine op_pushS (hr.ext hx1) hn hs hl fun v' w' hc ⟨F', h1, h2, h3⟩ => ⟨(Ext.chg F hx1).trans hc, F', by unfold add1; rw [if_neg c1]; exact h1, h2, fun b hb => ?_⟩
   rcases h3 b hb with h | h
   · exact .inl h
   · exact .inr (Nat.le_trans hx1.size h)
def RdsPost (F : List Nat) (w : World) (l : List ByteArray) (r : Value) (w' : World) : Prop := Chg F w w' ∧ ∃ F', RowF F' 9 w' r l ∧ F'.Nodup ∧ ∀ b ∈ F', b ∈ F ∨ w.heap.size ≤ b
def RdsI (n : Nat) : Prop := ∀ {w W : World} {v u : Value} {t : DTerm} {l : List ByteArray} {F : List Nat}, Is W v t → Ext W w → RowF F 9 w u l → F.Nodup → (∀ b ∈ F, W.heap.size ≤ b) → termOk n t = true → l.length + 2 ^ n ≤ 1000 →
 CALL Tryz.prog 275 [u, v] w (RdsPost F w (readsT n t l))
def RdsS (n : Nat) : Prop := ∀ {w W : World} {v u : Value} {t : DTerm} {l : List ByteArray} {F : List Nat}, Is W v t → Ext W w → RowF F 9 w u l → F.Nodup → (∀ b ∈ F, W.heap.size ≤ b) → termOk n t = true → l.length + 2 ^ n ≤ 1000 →
 CALL Tryz.prog 247 [v, u] w (RdsPost F w (readsT n t l))
theorem readsT_2 {n : Nat} {t : DTerm} {l : List ByteArray} (h : t.kind = 2) : readsT n t l = add1 l t.name := by rw [readsT_def, if_pos h]
theorem readsT_kids {n : Nat} {t : DTerm} {l : List ByteArray} (h : termOk n t = true) (h2 : ¬ t.kind = 2) (hl : l.length + 2 ^ n ≤ 1000) :
   ∃ m, (t.kids = [] ∨ n = m + 1) ∧ readsT n t l = t.kids.foldl (fun l k => readsT m k l) l ∧ (∀ k ∈ t.kids, termOk m k = true) ∧ ∀ k, k < t.kids.length → ((t.kids.take k).foldl (fun l k => readsT m k l) l).length + 2 ^ m ≤ 1000 := by
 rcases termOk_kids h h2 with hk | ⟨m, rfl, hk, hall⟩
 · refine ⟨0, .inl hk, ?_, by simp [hk], by simp [hk]⟩
   rw [readsT_def, if_neg h2, hk]
   cases n <;> rfl
 · refine ⟨m, .inr rfl, by rw [readsT_def, if_neg h2], hall, fun k hkl => ?_⟩
   rw [Nat.pow_succ] at hl
   have key : ∀ (ks : List DTerm) (l : List ByteArray), (∀ k ∈ ks, termOk m k = true) → (ks.foldl (fun l k => readsT m k l) l).length ≤ l.length + ks.length * 2 ^ m := by
     intro ks
     induction ks with
     | nil => intro l _; simp
     | cons k ks ih =>
       intro l hks
       rw [List.foldl_cons, List.length_cons, Nat.add_mul, Nat.one_mul]
       have h1 := ih (readsT m k l) fun x hx => hks x (by simp [hx])
       have h2 := readsT_len m k l (hks k (by simp))
       omega
   have h1 := key (t.kids.take k) l fun x hx => hall x (List.mem_of_mem_take hx)
   have h3 : (t.kids.take k).length ≤ 1 := by simp; omega
   have h4 : (t.kids.take k).length * 2 ^ m ≤ 1 * 2 ^ m := Nat.mul_le_mul_right _ h3
   omega
theorem atB_kids {W w : World} {b o : Nat} {t : DTerm} (h : AtB W w b o t) : AtB W w b (o + 3) t.kids := by
 have h' : AtB W w b o t.tup := by obtain ⟨F, cs, hr, ha⟩ := h; exact ⟨F, cs, rep_tup.1 hr, ha⟩
 exact h'.snd.snd.snd
theorem addReads_step {n : Nat} (ih : ∀ m, m + 1 = n → RdsI m) : RdsI n := by
 intro w W v u t l F h e hr hn hF ht hl
 refine F275_call ?_
 unfold F275
 refine op_boxS ty134 rfl h e fun w1 hx1 hA hV => ?_
 refine rd_fld fd134_0 ?_
 refine rd_loadI ty3 (at_DTerm_0 hA) (Ext.refl w1) fun _ => ?_
 refine rd_eql ?_
 refine br (fun c1 => ?_) (fun c1 => ?_)
 · refine rd_fld fd134_2 ?_
   refine rd_loadS ty9 (at_DTerm_2 hA) (Ext.refl w1) fun hS => ?_
   have hp : 1 ≤ 2 ^ n := Nat.one_le_two_pow
   refine (addOnce_ok (hr.ext hx1) hn hS (by omega)).mono ?_
   rintro r w2 ⟨hc, F', h1, h2, h3⟩
   refine ⟨(Ext.chg F hx1).trans hc, F', by rw [readsT_2 c1]; exact h1, h2, fun b hb => ?_⟩
   rcases h3 b hb with h | h
   · exact .inl h
   · exact .inr (Nat.le_trans hx1.size h)
 · obtain ⟨m, hm, he, hks, hlen⟩ := readsT_kids ht c1 hl
   refine rd_fld fd134_3 ?_
   refine rd_loadAB ty132 (atB_kids (atB_box h hV rfl)) (e.trans hx1) (Ext.refl w1) fun v15 h15 => ?_
   refine rd_len u132 h15 ?_
   have hll := is_len h15
   refine loopC t.kids.length (fun k us w' => ∃ q, us = [q, .int .i64 (k : Int)] ∧ RdsPost F w ((t.kids.take k).foldl (fun l k => readsT m k l) l) q w') 0 (Nat.zero_le _) ⟨u, rfl, Ext.chg F hx1, F, by simpa using hr.ext hx1, hn, fun b hb => .inl hb⟩ ?_
   rintro k mm uu w2 hkm ⟨q, hu, hc2, F2, hr2, hn2, hs2⟩
   simp only [List.map_cons, List.map_nil, List.cons.injEq, and_true] at hu
   obtain ⟨hu0, hu1⟩ := hu
   try rw [hu0]
   try rw [hu1]
   have hF2 : ∀ b ∈ F2, W.heap.size ≤ b := fun b hb => by
     rcases hs2 b hb with h | h
     · exact hF b h
     · exact Nat.le_trans e.size h
   have hxW : Ext W w2 := e.chg_trans hc2 hF
   refine rd_lss ?_
   refine br (fun c2 => ?_) (fun c2 => ?_)
   · have hk : k < t.kids.length := by omega
     obtain ⟨m', rfl⟩ : ∃ m', n = m' + 1 := by
       rcases hm with h | h
       · rw [h] at hk; simp at hk
       · exact ⟨m, h⟩
     have hmm : m' = m := by
       rcases hm with h | h
       · rw [h] at hk; simp at hk
       · omega
     subst hmm
     refine rd_indexN u132 ty134 h15 hk fun b o hA2 => ?_
     refine rd_load ty134 hA2 hxW fun v20 h20 => ?_
     refine op_var zl134 rfl ty134 rfl h20 hxW fun w3 hx3 hA3 hV3 => ?_
     refine rd_var hV3 (Ext.refl w3) ?_
     refine (ih m' rfl h20 (hxW.trans hx3) (hr2.ext hx3) hn2 hF2 (hks _ (List.getElem_mem hk)) (hlen k hk)).mono ?_
     rintro r w4 ⟨hc4, F4, hr4, hn4, hs4⟩
     refine rd_inc (by omega) ?_
     refine ⟨mm - 1, by omega, k + 1, by omega, r, rfl, ?_⟩
     refine ⟨?_, F4, by rw [foldl_take _ _ hk]; exact hr4, hn4, fun b hb => ?_⟩
     · -- the blocks of F alone have turned
       refine ⟨hc4.os.trans (hx3.os.trans hc2.os), hc4.tape.trans (hx3.tape.trans hc2.tape), hc4.output.trans (hx3.output.trans hc2.output), Nat.le_trans hc2.size (Nat.le_trans hx3.size hc4.size), fun b hb hbF => ?_⟩
       have hb2 : b < w2.heap.size := Nat.lt_of_lt_of_le hb hc2.size
       have hbF2 : b ∉ F2 := fun hm => by
         rcases hs2 b hm with h | h
         · exact hbF h
         · omega
       rw [hc4.block b (Nat.lt_of_lt_of_le hb2 hx3.size) hbF2, hx3.heap hb2, hc2.block b hb hbF]
     · rcases hs4 b hb with h | h
       · exact hs2 b h
       · have := hx3.size; have := hc2.size; exact .inr (by omega)
   · rw [List.take_of_length_le (by omega), ← he] at hr2
     exact ⟨hc2, F2, hr2, hn2, hs2⟩
theorem addReads_ok : ∀ n, RdsI n
  | n => addReads_step fun m hm => addReads_ok m
termination_by n => n
decreasing_by omega
theorem l03Reads_step {n : Nat} (ih : ∀ m, m + 1 = n → RdsS m) : RdsS n := by
 intro w W v u t l F h e hr hn hF ht hl
 refine F247_call ?_
 unfold F247
 have hlen := is_len hr.own.is
 have hp : 1 ≤ 2 ^ n := Nat.one_le_two_pow
 refine op_boxS ty134 rfl h e fun w1 hx1 hA hV => ?_
 have hg1 : w.heap.size < w1.heap.size := hV.lt
 have hgF : w.heap.size ∉ F := fun hm => by have := hr.lt _ hm; omega
 refine rd_fld fd134_0 ?_
 refine rd_loadI ty3 (at_DTerm_0 hA) (Ext.refl w1) fun _ => ?_
 refine rd_eql ?_
 refine br (fun c1 => ?_) (fun c1 => ?_)
 · have hr1 := hr.ext hx1
   refine loopC l.length (fun k us w' => us = [.int .i64 (k : Int)] ∧ Ext w1 w' ∧ t.name ∉ l.take k) 0 (Nat.zero_le _) ⟨rfl, Ext.refl w1, by simp⟩ ?_
   rintro k mm uu w2 hkm ⟨hu, hx2, hinv⟩
   simp only [List.map_cons, List.map_nil, List.cons.injEq, and_true] at hu
   rw [hu]
   refine rd_len u22 hr1.own.is ?_
   refine rd_lss ?_
   refine br (fun c2 => ?_) (fun c2 => ?_)
   · have hk : k < l.length := by omega
     have hx3 := hx2.trans (ext_drew w2)
     refine rd_indexN u22 ty9 hr1.own.is hk fun b o hA2 => ?_
     refine rd_loadS ty9 hA2 hx3 fun _ => ?_
     refine rd_fld fd134_2 ?_
     refine rd_loadS ty9 (at_DTerm_2 hA) hx3 fun _ => ?_
     refine rd_eqlS ?_
     refine br (fun c3 => ?_) (fun c3 => ?_)
     · have hm : t.name ∈ l := c3 ▸ List.getElem_mem hk
       refine ⟨Ext.chg F (hx1.trans hx3), F, ?_, hn, fun b hb => .inl hb⟩
       rw [readsT_2 c1, add1, if_pos hm]
       exact hr1.ext hx3
     · refine rd_inc (by omega) ?_
       exact ⟨mm - 1, by omega, k + 1, by omega, rfl, hx3, mem_take_succS hk hinv c3⟩
   · rw [List.take_of_length_le (by omega)] at hinv
     have hx3 := hx2.trans (ext_drew w2)
     first
       | refine rd_fld fd134_2 ?_
       | skip
     refine rd_loadS ty9 (at_DTerm_2 hA) hx2 fun hS => ?_
     refine op_pushS (hr1.ext hx2) hn hS (by omega) fun v' w' hc ⟨F', h1, h2, h3⟩ => ?_
     refine ⟨(Ext.chg F (hx1.trans hx2)).trans hc, F', by rw [readsT_2 c1, add1, if_neg hinv]; exact h1, h2, fun b hb => ?_⟩
     rcases h3 b hb with h | h
     · exact .inl h
     · exact .inr (Nat.le_trans (hx1.trans hx2).size h)
 · obtain ⟨m, hm, he, hks, hlen⟩ := readsT_kids ht c1 hl
   refine loopC t.kids.length (fun k us w' => ∃ q, us = [q, .int .i64 (k : Int)] ∧ RdsPost F w1 ((t.kids.take k).foldl (fun l k => readsT m k l) l) q w') 0 (Nat.zero_le _) ⟨u, rfl, Chg.refl F w1, F, by simpa using hr.ext hx1, hn, fun b hb => .inl hb⟩ ?_
   rintro k mm uu w2 hkm ⟨q, hu, hc2, F2, hr2, hn2, hs2⟩
   simp only [List.map_cons, List.map_nil, List.cons.injEq, and_true] at hu
   obtain ⟨hu0, hu1⟩ := hu
   try rw [hu0]
   try rw [hu1]
   have hF2 : ∀ b ∈ F2, W.heap.size ≤ b := fun b hb => by
     rcases hs2 b hb with h | h
     · exact hF b h
     · have := e.size; have := hx1.size; omega
   have hxW : Ext W w2 := (e.trans hx1).chg_trans hc2 hF
   have hB2 : AtB W w2 w.heap.size 0 t := (atB_box h hV rfl).keep (hc2.block _ hg1 hgF)
   have hA2 := hB2.at hxW
   refine rd_fld fd134_3 ?_
   refine rd_load ty132 (at_DTerm_3 hA2) (Ext.refl w2) fun v31 h31 => ?_
   refine rd_len u132 h31 ?_
   have hll := is_len h31
   refine rd_lss ?_
   refine br (fun c2 => ?_) (fun c2 => ?_)
   · have hk : k < t.kids.length := by omega
     obtain ⟨m', rfl⟩ : ∃ m', n = m' + 1 := by
       rcases hm with h | h
       · rw [h] at hk; simp at hk
       · exact ⟨m, h⟩
     have hmm : m' = m := by
       rcases hm with h | h
       · rw [h] at hk; simp at hk
       · omega
     subst hmm
     refine rd_fld fd134_3 ?_
     refine rd_loadAB ty132 (atB_kids hB2) hxW (Ext.refl w2) fun v37 h37 => ?_
     refine rd_indexN u132 ty134 h37 hk fun b o hA3 => ?_
     refine rd_load ty134 hA3 hxW fun v40 h40 => ?_
     refine (ih m' rfl h40 hxW hr2 hn2 hF2 (hks _ (List.getElem_mem hk)) (hlen k hk)).mono ?_
     rintro r w4 ⟨hc4, F4, hr4, hn4, hs4⟩
     refine rd_inc (by omega) ?_
     refine ⟨mm - 1, by omega, k + 1, by omega, r, rfl, ?_⟩
     refine ⟨?_, F4, by rw [foldl_take _ _ hk]; exact hr4, hn4, fun b hb => ?_⟩
     · refine ⟨hc4.os.trans hc2.os, hc4.tape.trans hc2.tape, hc4.output.trans hc2.output, Nat.le_trans hc2.size hc4.size, fun b hb hbF => ?_⟩
       have hb2 : b < w2.heap.size := Nat.lt_of_lt_of_le hb hc2.size
       have hbF2 : b ∉ F2 := fun hm => by
         rcases hs2 b hm with h | h
         · exact hbF h
         · omega
       rw [hc4.block b hb2 hbF2, hc2.block b hb hbF]
     · rcases hs4 b hb with h | h
       · exact hs2 b h
       · have := hc2.size; exact .inr (by omega)
   · rw [List.take_of_length_le (by omega), ← he] at hr2
     refine ⟨(Ext.chg F hx1).trans hc2, F2, hr2, hn2, fun b hb => ?_⟩
     rcases hs2 b hb with h | h
     · exact .inl h
     · exact .inr (Nat.le_trans hx1.size h)
theorem l03Reads_ok : ∀ n, RdsS n
  | n => l03Reads_step fun m hm => l03Reads_ok m
termination_by n => n
decreasing_by omega
def readsOf (t : DTerm) : List ByteArray := if termOk 6 t = true then readsT 6 t [] else []
theorem rowF_nil {α : Type} [Rep α] (e : TypeId) (w : World) : RowF (α := α) [] e w (.slice none 0 0) [] := ⟨[], [], ⟨by simp, .inl ⟨rfl, rfl⟩⟩, ⟨rfl, rfl⟩, rfl, Wr.nil _⟩
theorem implReadsOf_ok {w W : World} {v : Value} {t : DTerm} (h : Is W v t) (e : Ext W w) : CALL Tryz.prog 225 [v] w fun r w' => Ext w w' ∧ Is w' r (readsOf t) := by
 refine F225_call ?_
 unfold F225
 refine op_boxS ty134 rfl h e fun w1 hx1 hA hV => ?_
 refine rd_var hV (Ext.refl w1) ?_
 refine (implTermOk_ok h (e.trans hx1)).mono ?_
 rintro _ w2 ⟨hx2, rfl⟩
 refine rd_not ?_
 refine br_b (fun c => ?_) (fun c => ?_)
 · refine ⟨hx1.trans hx2, ?_⟩
   unfold readsOf
   rw [if_neg (by simpa using c)]
   exact is_nil rfl
 · have c : termOk 6 t = true := by simpa using c
   refine rd_var hV hx2 ?_
   refine (addReads_ok 6 h ((e.trans hx1).trans hx2) (rowF_nil _ _) List.nodup_nil (by simp) c (by decide)).mono ?_
   rintro r w3 ⟨hc, F', hr, hn, hs⟩
   refine ⟨(hx1.trans hx2).trans (Chg.ext hc), ?_⟩
   unfold readsOf
   rw [if_pos c]
   exact hr.own.is
theorem specReadsOf_ok {w W : World} {v : Value} {t : DTerm} (h : Is W v t) (e : Ext W w) : CALL Tryz.prog 206 [v] w fun r w' => Ext w w' ∧ Is w' r (readsOf t) := by
 refine F206_call ?_
 unfold F206
 refine op_boxS ty134 rfl h e fun w1 hx1 hA hV => ?_
 refine rd_var hV (Ext.refl w1) ?_
 refine (specTermOk_ok h (e.trans hx1)).mono ?_
 rintro _ w2 ⟨hx2, rfl⟩
 refine rd_not ?_
 refine br_b (fun c => ?_) (fun c => ?_)
 · refine op_build0 (α := ByteArray) u22 ty9 fun a w3 hx3 hr3 => ?_
   refine ⟨(hx1.trans hx2).trans hx3, ?_⟩
   unfold readsOf
   rw [if_neg (by simpa using c)]
   exact hr3.is
 · have c : termOk 6 t = true := by simpa using c
   refine rd_var hV hx2 ?_
   refine op_build0 (α := ByteArray) u22 ty9 fun a w3 hx3 hr3 => ?_
   obtain ⟨F, hr, hn, hl⟩ := hr3
   have hx13 := (hx1.trans hx2)
   refine (l03Reads_ok 6 h ((e.trans hx13).trans hx3) hr hn (fun b hb => Nat.le_trans (e.trans hx13).size (hl b hb)) c (by decide)).mono ?_
   rintro r w4 ⟨hc, F', hr', hn', hs'⟩
   refine ⟨(hx13.trans hx3).chg_trans hc (fun b hb => Nat.le_trans hx13.size (hl b hb)), ?_⟩
   unfold readsOf
   rw [if_pos c]
   exact hr'.own.is
end Go.Proofs.YtjgfldfbljmhhaaGreat
