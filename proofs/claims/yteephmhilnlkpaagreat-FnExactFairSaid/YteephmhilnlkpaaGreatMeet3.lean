/-
  The plain law of meetings: races in order, each once, whatever the order they were found in.
-/
import Derived.Test.YteephmhilnlkpaaGreatMeet2
import Derived.Test.YteephmhilnlkpaaGreatGo
namespace Go.Proofs.YteephmhilnlkpaaGreat
open Go Go.Sh Go.Proofs
set_option linter.unusedVariables false
/-- impl.inOrder -/
def F176 (a0 : Value) (w : World) (R : Value → World → Prop) : Prop :=
  CALL Tryz.prog 235 [a0] w fun x5 w =>
  CALL Tryz.prog 236 [x5, (Value.func (.func 237) #[] #[])] w fun x7 w =>
  CALL Tryz.prog 239 [x5] w fun x9 w =>
  CALL Tryz.prog 238 [x9] w fun x10 w =>
  R x10 w
def cfg176 : Cfg := { ext := extL, joins := [], loops := [], draws := [], pars := [] }
theorem F176_eq (a0 : Value) (w : World) (R : Value → World → Prop) : vcF Tryz.prog cfg176 Tryz.f176 [a0] w R = F176 a0 w R := by kernel_rfl
theorem F176_call {a0 : Value} {w : World} {R : Value → World → Prop} (h : F176 a0 w R) : CALL Tryz.prog 176 [a0] w R :=
  call_of (g := cfg176) ent mixed Tryz.func176 (Nat.le_of_ble_eq_true (by kernel_rfl)) (by kernel_rfl) (F176_eq a0 w R ▸ h)

set_option linter.unusedVariables false
set_option linter.unusedSimpArgs false

theorem ddg_mem {z : DRace} : ∀ {l : List DRace} {x : DRace}, z ∈ x :: ddg x l ↔ z ∈ x :: l
  | [], x => Iff.rfl
  | y :: l, x => by
    rw [ddg]
    split
    · rename_i h
      subst h
      rw [ddg_mem (l := l)]
      simp
    · rw [List.mem_cons, ddg_mem (l := l), List.mem_cons (a := z) (b := x)]
theorem ddg_pw : ∀ {l : List DRace} {x : DRace}, (x :: l).Pairwise (fun a b => ¬ ltR b a) → (x :: ddg x l).Pairwise ltR
  | [], x, _ => by simp [ddg]
  | y :: l, x, h => by
    rw [ddg]
    rw [List.pairwise_cons] at h
    have hy := h.2
    rw [List.pairwise_cons] at hy
    split
    · rename_i e
      subst e
      exact ddg_pw h.2
    · rename_i hne
      have ih := ddg_pw h.2
      have hxy : ltR x y := Decidable.byContradiction fun hc => hne (ltR_total (h.1 y (by simp)) hc)
      refine List.pairwise_cons.2 ⟨fun z hz => ?_, ih⟩
      rcases List.mem_cons.1 hz with rfl | hz
      · exact hxy
      · exact ltR_trans hxy ((List.pairwise_cons.1 ih).1 z hz)
theorem ddp_mem {l : List DRace} {z : DRace} : z ∈ ddp l ↔ z ∈ l := by
  cases l with
  | nil => exact Iff.rfl
  | cons x l => exact ddg_mem
theorem ddp_pw {l : List DRace} (h : l.Pairwise (fun a b => ¬ ltR b a)) : (ddp l).Pairwise ltR := by
  cases l with
  | nil => exact List.Pairwise.nil
  | cons x l => exact ddg_pw h
/-- the races of a list in order, each once -/
def canon (l : List DRace) : List DRace := l.foldl (fun acc r => putR r acc) []
theorem canon_snoc (l : List DRace) (r : DRace) : canon (l ++ [r]) = putR r (canon l) := by simp [canon]
theorem canonF_mem {x : DRace} : ∀ {l acc : List DRace}, x ∈ l.foldl (fun acc r => putR r acc) acc ↔ x ∈ acc ∨ x ∈ l
  | [], acc => by simp
  | y :: l, acc => by
    rw [List.foldl_cons, canonF_mem, putR_mem, List.mem_cons]
    constructor
    · rintro ((h | h) | h) <;> simp [h]
    · rintro (h | h | h) <;> simp [h]
theorem canon_mem {x : DRace} {l : List DRace} : x ∈ canon l ↔ x ∈ l := by unfold canon; rw [canonF_mem]; simp
theorem canonF_pw : ∀ {l acc : List DRace}, acc.Pairwise ltR → (l.foldl (fun acc r => putR r acc) acc).Pairwise ltR
  | [], acc, h => h
  | y :: l, acc, h => by
    rw [List.foldl_cons]
    exact canonF_pw (putR_sorted h)
theorem canon_pw (l : List DRace) : (canon l).Pairwise ltR := canonF_pw List.Pairwise.nil
theorem putR_len (r : DRace) : ∀ l : List DRace, (putR r l).length ≤ l.length + 1
  | [] => by simp [putR]
  | x :: l => by
    have := putR_len r l
    rw [putR]
    split
    · simpa using this
    · split <;> simp
theorem canonF_len : ∀ (l acc : List DRace), (l.foldl (fun acc r => putR r acc) acc).length ≤ acc.length + l.length
  | [], acc => by simp
  | y :: l, acc => by
    have h1 := canonF_len l (putR y acc)
    have h2 := putR_len y acc
    rw [List.foldl_cons, List.length_cons]; omega
theorem canon_len (l : List DRace) : (canon l).length ≤ l.length := by have := canonF_len l []; simpa [canon] using this
theorem canon_congr {l m : List DRace} (h : ∀ x, x ∈ l ↔ x ∈ m) : canon l = canon m := sorted_ext (canon_pw l) (canon_pw m) fun x => by rw [canon_mem, canon_mem, h]
theorem ddp_srt (l : List DRace) : ddp (srt l) = canon l := sorted_ext (ddp_pw (srt_pw l)) (canon_pw l) fun x => by rw [ddp_mem, canon_mem, (srt_perm l).mem_iff]
/-- the races of two touches, of a touch and lists -/
def clR (a b : DTouch) : List DRace := if clashP a b then [raceOf a b] else []
def gB (a : DTouch) (bs : List DTouch) : List DRace := bs.flatMap (clR a)
def gL (Ls : List (List DTouch)) (a : DTouch) : List DRace := Ls.flatMap (gB a)
def gA (Ls : List (List DTouch)) (xs : List DTouch) : List DRace := xs.flatMap (gL Ls)
def upTo (T : Nat → List DTouch) (t : Nat) : List (List DTouch) := (List.range t).map T
def gT (T : Nat → List DTouch) (n : Nat) : List DRace := (List.range n).flatMap fun t => gA (upTo T t) (T t)
def hA (bs xs : List DTouch) : List DRace := xs.flatMap fun a => gB a bs
def hU (T : Nat → List DTouch) (xs : List DTouch) (t : Nat) : List DRace := (List.range t).flatMap fun u => hA (T u) xs
def hT (T : Nat → List DTouch) (n : Nat) : List DRace := (List.range n).flatMap fun t => hU T (T t) t
theorem canon_gh (T : Nat → List DTouch) (n : Nat) : canon (gT T n) = canon (hT T n) := by
  refine canon_congr fun x => ?_
  simp only [gT, hT, gA, hU, gL, hA, upTo, List.mem_flatMap, List.mem_range, List.mem_map]
  constructor
  · rintro ⟨t, ht, a, ha, L, ⟨u, hu, rfl⟩, hx⟩
    exact ⟨t, ht, u, hu, a, ha, hx⟩
  · rintro ⟨t, ht, u, hu, a, ha, hx⟩
    exact ⟨t, ht, a, ha, T u, ⟨u, hu, rfl⟩, hx⟩
theorem flatMap_le {α β : Type} {f : α → List β} {k : Nat} : ∀ {l : List α}, (∀ x ∈ l, (f x).length ≤ k) → (l.flatMap f).length ≤ l.length * k
  | [], _ => by simp
  | x :: l, h => by
    have h1 := h x (by simp)
    have h2 := flatMap_le (l := l) fun y hy => h y (by simp [hy])
    rw [List.flatMap_cons, List.length_append, List.length_cons, Nat.add_mul]; omega
theorem flatMap_take {α β : Type} {f : α → List β} {l : List α} {k : Nat} (h : k < l.length) : (l.take (k + 1)).flatMap f = (l.take k).flatMap f ++ f l[k] := by
  rw [List.take_succ_eq_append_getElem h, List.flatMap_append]; simp
theorem range_flat {β : Type} {f : Nat → List β} (n : Nat) : (List.range (n + 1)).flatMap f = (List.range n).flatMap f ++ f n := by
  rw [List.range_succ, List.flatMap_append]; simp
theorem clR_len (a b : DTouch) : (clR a b).length ≤ 1 := by unfold clR; split <;> simp
theorem gB_len (a : DTouch) {bs : List DTouch} (h : bs.length ≤ 12) : (gB a bs).length ≤ 12 := by
  have := flatMap_le (f := clR a) (l := bs) (k := 1) fun x _ => clR_len a x
  unfold gB; omega
theorem gL_len {Ls : List (List DTouch)} (a : DTouch) (h : Ls.length ≤ 6) (h2 : ∀ L ∈ Ls, L.length ≤ 12) : (gL Ls a).length ≤ 72 := by
  have := flatMap_le (f := gB a) (l := Ls) (k := 12) fun x hx => gB_len a (h2 x hx)
  unfold gL; omega
theorem gA_len {Ls : List (List DTouch)} {xs : List DTouch} (h : Ls.length ≤ 6) (h2 : ∀ L ∈ Ls, L.length ≤ 12) (h3 : xs.length ≤ 12) : (gA Ls xs).length ≤ 864 := by
  have := flatMap_le (f := gL Ls) (l := xs) (k := 72) fun x hx => gL_len x h h2
  unfold gA; omega
theorem gT_len {T : Nat → List DTouch} (h : ∀ t, (T t).length ≤ 12) {n : Nat} (hn : n ≤ 6) : (gT T n).length ≤ 5184 := by
  have := flatMap_le (f := fun t => gA (upTo T t) (T t)) (l := List.range n) (k := 864) fun t ht => by
    have ht' := List.mem_range.1 ht
    exact gA_len (by simp [upTo]; omega) (fun L hL => by
      simp only [upTo, List.mem_map] at hL
      obtain ⟨u, _, rfl⟩ := hL
      exact h u) (h t)
  unfold gT
  rw [List.length_range] at this; omega
theorem hA_len {bs xs : List DTouch} (h : bs.length ≤ 12) (h2 : xs.length ≤ 12) : (hA bs xs).length ≤ 144 := by
  have := flatMap_le (f := fun a => gB a bs) (l := xs) (k := 12) fun x hx => gB_len x h
  unfold hA; omega
theorem hU_len {T : Nat → List DTouch} (h : ∀ t, (T t).length ≤ 12) {xs : List DTouch} (h2 : xs.length ≤ 12) {t : Nat} (ht : t ≤ 6) : (hU T xs t).length ≤ 864 := by
  have := flatMap_le (f := fun u => hA (T u) xs) (l := List.range t) (k := 144) fun u _ => hA_len (h u) h2
  rw [List.length_range] at this
  unfold hU; omega
theorem hT_len {T : Nat → List DTouch} (h : ∀ t, (T t).length ≤ 12) {n : Nat} (hn : n ≤ 6) : (hT T n).length ≤ 5184 := by
  have := flatMap_le (f := fun t => hU T (T t) t) (l := List.range n) (k := 864) fun t ht => hU_len h (h t) (by have := List.mem_range.1 ht; omega)
  rw [List.length_range] at this
  unfold hT; omega
/-- what a strand is about to touch -/
def tA (c : DCode) (s : DState) (t : Nat) : List DTouch := if 0 ≤ atOf s t then touchAt c (atOf s t) 0 else []
theorem touchTo_at {c : DCode} {a held : Int} {i : DIns} {x : DTouch} : ∀ {k : Nat}, x ∈ touchTo c a held i k → x.at_ = a ∧ x.held = held
  | 0, h => by simp [touchTo] at h
  | k + 1, h => by
    rw [touchTo, List.mem_append, List.mem_append] at h
    rcases h with (h | h) | h
    · exact touchTo_at h
    · split at h
      · simp only [List.mem_cons, List.not_mem_nil, or_false] at h; subst h; exact ⟨rfl, rfl⟩
      · simp at h
    · split at h
      · simp only [List.mem_cons, List.not_mem_nil, or_false] at h; subst h; exact ⟨rfl, rfl⟩
      · simp at h
theorem touchAt_at {c : DCode} {a held : Int} {x : DTouch} (h : x ∈ touchAt c a held) : x.at_ = a ∧ x.held = held := by
  unfold touchAt at h
  split at h
  · exact touchTo_at h
  · simp at h
theorem tA_at {c : DCode} {s : DState} {t : Nat} {x : DTouch} (h : x ∈ tA c s t) : x.at_ = atOf s t ∧ x.held = 0 := by
  unfold tA at h
  split at h
  · exact touchAt_at h
  · simp at h
theorem tA_len {c : DCode} (s : DState) (hc : CodeR c) (t : Nat) : (tA c s t).length ≤ 12 := by
  unfold tA
  split
  · have h1 := touchAt_len c (atOf s t) 0
    have h2 := hc.1.1
    simp only [Bool.and_eq_true, decide_eq_true_eq] at h2
    omega
  · simp
/-- the meetings of a state -/
def meets (c : DCode) (s : DState) : List DRace := canon (gT (tA c s) s.stacks.length)
theorem meets_h (c : DCode) (s : DState) : canon (hT (tA c s) s.stacks.length) = meets c s := (canon_gh _ _).symm
def meetsL (c : DCode) (s : DState) : List DRace := if CodeR c ∧ StateR c s then meets c s else []
theorem meets_len {c : DCode} (s : DState) (hc : CodeR c) (hs : StateR c s) : (meets c s).length ≤ 5184 :=
  Nat.le_trans (canon_len _) (gT_len (tA_len s hc) hs.2.2.1.2)
theorem inOrder_ok {w w0 : World} {v : Value} {l : List DRace} (h : Is w0 v l) (hx : Ext w0 w) (hn : l.length ≤ 1000000) :
    CALL Tryz.prog 176 [v] w fun r w' => Ext w w' ∧ Own w.heap.size w' r (canon l) := by
  refine F176_call ?_
  unfold F176
  refine (cloneR_ok h hx (by omega)).mono ?_
  rintro v1 w1 ⟨hx1, ho1⟩
  refine (sortR_ok ho1.toI (by omega)).mono ?_
  rintro _ w2 ⟨hc2, ho2⟩
  refine (compact_ok ho2 (by rw [srt_len]; omega)).mono ?_
  rintro v3 w3 ⟨hc3, ho3⟩
  refine (clipR_ok ho3).mono ?_
  rintro v4 w4 ⟨hx4, ho4⟩
  rw [ddp_srt] at ho4
  exact ⟨((hx1.chgI hc2 (Nat.le_refl _)).chgI hc3 (Nat.le_refl _)).trans hx4, ho4.own⟩
end Go.Proofs.YteephmhilnlkpaaGreat
