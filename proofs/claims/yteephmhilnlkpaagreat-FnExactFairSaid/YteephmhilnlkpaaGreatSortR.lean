/-
  Races in order: the library's sort of them.
-/
import Derived.Test.YteephmhilnlkpaaGreatLaySort
import Derived.Test.YteephmhilnlkpaaGreatMeet1
namespace Go.Proofs.YteephmhilnlkpaaGreat
open Go Go.Sh Go.Proofs Go.Sort
set_option linter.unusedVariables false
set_option linter.unusedSimpArgs false

instance : Inhabited DRace := ⟨⟨0, 0, 0⟩⟩
def encR (x : DRace) : List Value := [.int .i64 x.g, .int .i64 x.a, .int .i64 x.b]
theorem encR_rep : ∀ {F : List Nat} {w : World} {cs : List Value} {x : DRace}, Rep.rep F w cs x → cs = encR x := by
  intro F w cs x h
  obtain ⟨F1, F2, c1, c2, rfl, rfl, ⟨rfl, rfl, _⟩, ⟨F3, F4, c3, c4, rfl, rfl, ⟨rfl, rfl, _⟩, ⟨rfl, rfl, _⟩⟩⟩ := h
  rfl
theorem ltOf_cmpR {x y : DRace} : ltOf cmpR x y = decide (ltR x y) := by
  unfold ltOf
  rw [decide_eq_decide]
  exact cmpR_lt
theorem ltR_swo : SWO (ltOf cmpR) := by
  refine ⟨fun x => ?_, fun x y z h k => ?_, fun x y z h k => ?_⟩
  · rw [ltOf_cmpR, decide_eq_false_iff_not]; exact ltR_irrefl x
  · rw [ltOf_cmpR, decide_eq_true_eq] at *; exact ltR_trans h k
  · rw [ltOf_cmpR, decide_eq_false_iff_not] at *
    intro hc
    unfold ltR at *
    omega
/-- a list of races in order -/
def srt (l : List DRace) : List DRace := l.mergeSort fun x y => !(ltOf cmpR) y x
theorem srt_perm (l : List DRace) : (srt l).Perm l := List.mergeSort_perm l _
theorem srt_len (l : List DRace) : (srt l).length = l.length := (srt_perm l).length_eq
theorem srt_pw (l : List DRace) : (srt l).Pairwise fun x y => ¬ ltR y x := by
  have := List.pairwise_mergeSort (le := fun x y => !(ltOf cmpR) y x) (fun a b c h1 h2 => by
    simp only [ltOf_cmpR, Bool.not_eq_true', decide_eq_false_iff_not] at *
    unfold ltR at *; omega) (fun a b => by
    simp only [ltOf_cmpR, Bool.or_eq_true, Bool.not_eq_true', decide_eq_false_iff_not]
    unfold ltR; omega) l
  exact this.imp fun h => by simpa [ltOf_cmpR] using h
theorem sortR_ok {w : World} {lo hi : Nat} {v : Value} {l : List DRace} (h : OwnI lo hi w v l) (hn : l.length ≤ 1073741824) :
    CALL Tryz.prog 236 [v, .func (.func 237) #[] #[]] w fun r w' => ChgI lo hi w w' ∧ OwnI lo hi w' v (srt l) := by
  obtain ⟨F, hM, hF⟩ := h
  by_cases hne : l = []
  · subst hne
    obtain ⟨a, cap, hv⟩ : ∃ a cap, v = .slice a 0 cap := by
      obtain ⟨cs, ⟨a, cap, G, xs, h, _⟩, hv⟩ := hM.own
      exact ⟨a, cap, by rw [hv, h]; rfl⟩
    subst hv
    refine ⟨(AnyF.slices_SortFunc_none Tryz.sortRace a cap _ w).mono ?_⟩
    rintro e w' ⟨he, rfl⟩
    refine ⟨_, he, ChgI.refl _, F, ?_, hF⟩
    have : srt [] = [] := List.eq_nil_of_length_eq_zero (by rw [srt_len]; rfl)
    rw [this]; exact hM
  obtain ⟨b, o, cap, xs, rfl, rfl, h1, h2, hcc, hrr, hww⟩ := mine_parts hM hne
  have henc := @encR_rep
  have hk : ∀ x, (encR x).length = Rep.size DRace := fun _ => rfl
  obtain ⟨c, e, hbe⟩ := hww
  have hb : b < w.heap.size := (Array.getElem?_eq_some_iff.1 hbe).1
  have hcmp : CmpLays Tryz.prog 237 #[] encR 3 cmpR b o l.toArray.size w := fun m os dk _ x y => by
    have := compareRaces_ok (w := sortWorldK encR 3 w b o m dk os) (x := x) (y := y)
    obtain ⟨h⟩ := this
    refine h.mono ?_
    rintro e w' ⟨v, he, hv, q, os', hw'⟩
    exact ⟨by rw [he, hv], q, os', hw'⟩
  refine ⟨(AnyQ.slices_SortFunc_total Tryz.sortRace 3 Tryz.isAgg117 Tryz.sizeOf117 encR (fun _ => rfl) (fun x v hv => by
      simp only [encR, List.mem_cons, List.not_mem_nil, or_false] at hv
      rcases hv with rfl | rfl | rfl <;> rfl) cmpR ltR_swo 237 #[] b o cap l.toArray w (run_callFunc (ent 237 (by decide) (by kernel_rfl))) hcmp (holdsK_of henc hk ⟨c, e, hbe⟩ hcc hrr) hb (by simp; omega) (fun x y h k => by
      rw [ltOf_cmpR, decide_eq_false_iff_not] at *; exact ltR_total h k)).mono ?_⟩
  rintro ex w' ⟨he, n, os, hw'⟩
  have hs := sorted_mine henc hk (cap := cap) hw' ⟨c, e, hbe⟩ hcc hrr h1 h2 (by simp) (fun x hx => by simpa [List.mem_mergeSort] using hx)
  refine ⟨_, he, ?_, [b], ?_, hF⟩
  · exact hs.1.toI (fun i hi => hF i hi)
  · exact hs.2
end Go.Proofs.YteephmhilnlkpaaGreat
