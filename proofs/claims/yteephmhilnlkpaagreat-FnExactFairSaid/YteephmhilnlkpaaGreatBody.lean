/-
  The soundness of the reading of XCore, third part: a region whose order is drawn; a body; a call.
-/
import Derived.Test.YteephmhilnlkpaaGreatVc
namespace Go.Sh
set_option linter.unusedVariables false
set_option linter.unusedSimpArgs false
open Go.RowKit (Below)

def nodupB : List Nat → Bool
  | [] => true
  | x :: l => !l.elem x && nodupB l
/-- each operation stands behind all that its edges name -/
def topB (ol : List Oper) : List Nat → List Nat → Bool
  | _, [] => true
  | seen, i :: r => (match nth ol i with | some o => o.after.toList.all fun e => !Region.binds .any e || seen.elem e.on | none => false) && topB ol (i :: seen) r
/-- of two operations one behind the other: the second one cannot come first, or it does not matter -/
def pairB (ops : Array Oper) (A : List Nat) (fl i j : Nat) : Bool :=
  inMask (ancAt A j) i || (match nth ops.toList i, nth ops.toList j with
    | some oi, some oj => isRd oi && !inMask fl i && oi.apart ops oj && (isRd oj || (inMask fl j || isPure oi))
    | _, _ => false)
def pairsB (ops : Array Oper) (A : List Nat) (fl : Nat) : List Nat → Bool
  | [] => true
  | i :: r => r.all (pairB ops A fl i) && pairsB ops A fl r
def okDraw (ops : Array Oper) (c : List Nat) (fl : Nat) : Bool :=
  nodupB c && (c.all fun i => Nat.blt i ops.size) && ((List.range ops.size).all fun i => c.elem i) && topB ops.toList [] c && pairsB ops (ancs ops.toList) fl c

theorem nodupB_spec : ∀ {l : List Nat}, nodupB l = true → l.Nodup
  | [], _ => List.nodup_nil
  | x :: l, h => by
    simp only [nodupB, Bool.and_eq_true, Bool.not_eq_true'] at h
    refine List.nodup_cons.2 ⟨fun hm => ?_, nodupB_spec h.2⟩
    have : l.elem x = true := List.elem_eq_true_of_mem hm
    rw [h.1] at this; cases this
theorem pairsB_append {ops : Array Oper} {A : List Nat} {fl : Nat} : ∀ {c1 c2 : List Nat} {y : Nat}, pairsB ops A fl (c1 ++ y :: c2) = true →
    (∀ x ∈ c1, pairB ops A fl x y = true) ∧ pairsB ops A fl (c1 ++ c2) = true
  | [], c2, y, h => by
    simp only [List.nil_append, pairsB, Bool.and_eq_true] at h
    exact ⟨by simp, h.2⟩
  | x :: c1, c2, y, h => by
    simp only [List.cons_append, pairsB, Bool.and_eq_true, List.all_eq_true] at h
    obtain ⟨h1, h2⟩ := pairsB_append h.2
    refine ⟨fun z hz => ?_, ?_⟩
    · rcases List.mem_cons.1 hz with rfl | hz
      · exact h.1 y (by simp)
      · exact h1 z hz
    · simp only [List.cons_append, pairsB, Bool.and_eq_true, List.all_eq_true]
      exact ⟨fun z hz => h.1 z (by rcases List.mem_append.1 hz with hz | hz <;> simp [hz]), h2⟩

/-- what has been carried out: with each all that its edges name -/
structure Closed (ops : Array Oper) (listed : Array Bool) : Prop where
  size : listed.size = ops.size
  down : ∀ j o, ops[j]? = some o → listed.getD j false = true → ∀ e ∈ o.after, Region.binds .any e = true → listed.getD e.on false = true
theorem anc_listed {ops : Array Oper} {listed : Array Bool} (hc : Closed ops listed) : ∀ (j : Nat) (o : Oper), ops[j]? = some o →
    (∀ e ∈ o.after, Region.binds .any e = true → listed.getD e.on false = true) → ∀ i, Nat.testBit (ancAt (ancs ops.toList) j) i = true → listed.getD i false = true := by
  intro j
  induction j using Nat.strongRecOn with
  | _ j ih =>
    intro o ho hd i hi
    obtain ⟨e, he, hb, hh⟩ := ancs_spec ops.toList j o (by rw [nth_arr]; exact ho) i hi
    have hl := hd e he hb
    rcases hh with rfl | ⟨hlt, hh⟩
    · exact hl
    · cases ho' : ops[e.on]? with
      | none =>
        have : e.on < ops.size := Nat.lt_trans hlt (Array.getElem?_eq_some_iff.1 ho).1
        simp at ho'
        omega
      | some o' => exact ih e.on hlt o' ho' (fun e' he' hb' => hc.down e.on o' ho' hl e' he' hb') i hh

/-- the canonical order that is left: topological against what is listed -/
def Top (ops : Array Oper) (listed : Array Bool) : List Nat → Prop
  | [] => True
  | i :: r => (∃ o, ops[i]? = some o ∧ ∀ e ∈ o.after, Region.binds .any e = true → listed.getD e.on false = true) ∧ Top ops (listed.setIfInBounds i true) r
theorem Top_mono {ops : Array Oper} : ∀ {c : List Nat} {l1 l2 : Array Bool}, (∀ k, l1.getD k false = true → l2.getD k false = true) → l1.size = l2.size → Top ops l1 c → Top ops l2 c
  | [], _, _, _, _, _ => trivial
  | i :: c, l1, l2, h, hs, ⟨⟨o, ho, hd⟩, ht⟩ => by
    refine ⟨⟨o, ho, fun e he hb => h _ (hd e he hb)⟩, Top_mono (fun k hk => ?_) (by simp [hs]) ht⟩
    by_cases hik : i = k
    · subst hik
      by_cases hlt : i < l2.size
      · simp [hlt]
      · have hlt1 : ¬ i < l1.size := by omega
        simp [hlt1] at hk
    · rw [getD_set_ne false hik] at hk ⊢
      exact h k hk
theorem Top_del {ops : Array Oper} : ∀ {c1 c2 : List Nat} {y : Nat} {l : Array Bool}, Top ops l (c1 ++ y :: c2) → Top ops (l.setIfInBounds y true) (c1 ++ c2)
  | [], _, _, _, h => h.2
  | x :: c1, c2, y, l, ⟨⟨o, ho, hd⟩, ht⟩ => by
    refine ⟨⟨o, ho, fun e he hb => getD_set_true (hd e he hb)⟩, ?_⟩
    have h2 := Top_del ht
    by_cases hxy : x = y
    · subst hxy; exact h2
    · rw [Array.setIfInBounds_comm _ _ (Ne.symm hxy)]; exact h2
theorem topB_spec {ops : Array Oper} : ∀ {c seen : List Nat} {l : Array Bool}, (∀ k, seen.elem k = true → l.getD k false = true) → (∀ i ∈ c, i < l.size) → topB ops.toList seen c = true → Top ops l c
  | [], _, _, _, _, _ => trivial
  | i :: c, seen, l, h, hc, ht => by
    simp only [topB, Bool.and_eq_true] at ht
    cases ho : nth ops.toList i with
    | none => simp [ho] at ht
    | some o =>
      simp only [ho, List.all_eq_true, Bool.or_eq_true, Bool.not_eq_true'] at ht
      rw [nth_arr] at ho
      refine ⟨⟨o, ho, fun e he hb => h _ ((ht.1 e (by simpa using he)).resolve_left (by simp [hb]))⟩, topB_spec (seen := i :: seen) (fun k hk => ?_) (fun j hj => by simpa using hc j (by simp [hj])) ht.2⟩
      by_cases hik : i = k
      · subst hik; simp [hc i (by simp)]
      · rw [getD_set_ne false hik]
        refine h k ?_
        have hm : k ∈ i :: seen := List.mem_of_elem_eq_true hk
        rcases List.mem_cons.1 hm with e | hm
        · exact absurd e.symm hik
        · exact List.elem_eq_true_of_mem hm

section
variable {P : Program} {ext : Xt} {N n : Nat} (hE : ∀ f, f < N → ext.l.elem f = false → enters P f = true)
include hE
theorem draw_sound {ops : Array Oper} {fl : Nat} {K : Env → World → Prop} {Q : Exit → Act → World → Prop} (hok : okOps ext.l N n ops.toList = true) :
    ∀ (fuel : Nat) (c : List Nat) (listed : Array Bool) (a : Act) (w : World), c.length = fuel → c.Nodup → (∀ j, j ∈ c ↔ listed.getD j true = false) → Closed ops listed → Top ops listed c →
      pairsB ops (ancs ops.toList) fl c = true → a.tmps.size = n → vcOps P ext ops.toList fl K c (envOf a) w →
      (∀ a' w', Kept n (dsts ops.toList) a a' → K (envOf a') w' → Q .normal a' w') → wpAny P .any ops Q fuel listed a w := by
  intro fuel
  induction fuel with
  | zero =>
    intro c listed a w hl hnd hc hcl ht hp hn h hq
    have hnil : c = [] := List.eq_nil_of_length_eq_zero hl
    subst hnil
    refine ⟨?_, hq a w (.refl _ hn) h⟩
    rw [List.eq_nil_iff_forall_not_mem]
    intro j hj
    exact absurd ((hc j).2 (mem_ready.1 hj).1) (by simp)
  | succ fuel ih =>
    intro c listed a w hl hnd hc hcl ht hp hn h hq
    refine ⟨fun hnone => ?_, fun y hy => ?_⟩
    · cases c with
      | nil => simp at hl
      | cons i r =>
        obtain ⟨⟨o, ho, hd⟩, _⟩ := ht
        have : i ∈ Region.ready .any ops listed := mem_ready.2 ⟨(hc i).1 (by simp), o, ho, hd⟩
        rw [hnone] at this; cases this
    · obtain ⟨hun, oy, hoy, hdeps⟩ := mem_ready.1 hy
      have hyc : y ∈ c := (hc y).2 hun
      obtain ⟨c1, c2, rfl⟩ := List.append_of_mem hyc
      have hoy' : nth ops.toList y = some oy := by rw [nth_arr]; exact hoy
      obtain ⟨hp1, hp2⟩ := pairsB_append hp
      have hmove : ∀ x ∈ c1, ∃ ox, nth ops.toList x = some ox ∧ isRd ox = true ∧ inMask fl x = false ∧ ox.apart ops oy = true ∧ (isRd oy = true ∨ inMask fl y = true ∨ isPure ox = true) := by
        intro x hx
        have hpair := hp1 x hx
        unfold pairB at hpair
        rw [Bool.or_eq_true] at hpair
        rcases hpair with hb | hb
        · exfalso
          rw [inMask_eq] at hb
          have h1 := anc_listed hcl y oy hoy hdeps x hb
          have h2 := (hc x).1 (by simp [hx])
          rcases Nat.lt_or_ge x listed.size with h' | h'
          · simp [h'] at h1 h2; rw [h1] at h2; cases h2
          · simp [Array.getElem?_eq_none h'] at h1
        · rw [hoy'] at hb
          cases hox : nth ops.toList x with
          | none => simp [hox] at hb
          | some ox =>
            simp only [hox, Bool.and_eq_true, Bool.not_eq_true', Bool.or_eq_true] at hb
            exact ⟨ox, rfl, hb.1.1.1, hb.1.1.2, hb.1.2, hb.2⟩
      have h' := vcOps_move hoy' c2 c1 (envOf a) w hmove h
      refine stepK_sound hE hok hn h' fun a' w' hk hh => ?_
      have hylt : y < listed.size := by
        rcases Nat.lt_or_ge y listed.size with h' | h'
        · exact h'
        · simp [Array.getElem?_eq_none h'] at hun
      have hnd' := hnd
      rw [List.nodup_append] at hnd'
      refine ih (c1 ++ c2) (listed.setIfInBounds y true) a' w' (by simp at hl ⊢; omega) ?_ ?_ ⟨by simp [hcl.size], ?_⟩ (Top_del ht) hp2 hk.size hh ?_
      · have := hnd.sublist (l₁ := c1 ++ c2) (List.Sublist.append_left (List.sublist_cons_self y c2) c1)
        exact this
      · intro j
        by_cases hjy : y = j
        · subst hjy
          have hnot : y ∉ c1 ++ c2 := by
            intro hm
            rcases List.mem_append.1 hm with hm | hm
            · exact hnd'.2.2 y hm y (by simp) rfl
            · exact (List.nodup_cons.1 hnd'.2.1).1 hm
          simp [hnot, hylt]
        · rw [getD_set_ne true hjy, ← hc j]
          simp only [List.mem_append, List.mem_cons]
          constructor
          · rintro (h | h) <;> simp [h]
          · rintro (h | h | h)
            · exact .inl h
            · exact absurd h.symm hjy
            · exact .inr h
      · intro j o ho hj e he hb
        by_cases hjy : y = j
        · subst hjy
          rw [hoy] at ho; cases ho
          exact getD_set_true (hdeps e he hb)
        · rw [getD_set_ne false hjy] at hj
          exact getD_set_true (hcl.down j o ho hj e he hb)
      · exact fun a'' w'' hk' hh' => hq a'' w'' (hk.trans hk' (fun _ h => h) (fun _ h => h)) hh'
end

/-- of two operations, the second one behind the prefix: the first one is always ahead, or it looks at no memory; of two that look at no memory: one behind the other, or it does not matter -/
def parB (ops : Array Oper) (A : List Nat) (p i k : Nat) : Bool :=
  inMask (ancAt A k) i || (match nth ops.toList i, nth ops.toList k with
    | some oi, some ok => bif Nat.ble p k then Nat.blt i p && (isPure oi && oi.apart ops ok) else !(isPure oi && isPure ok) || oi.apart ops ok
    | _, _ => false)
/-- what is looked at once of operations in whatever order -/
def okPar (ops : Array Oper) (m p : Nat) : Bool :=
  Nat.ble p ops.size && nodupB (dsts ops.toList) && (ops.toList.all fun o => o.guard.isNone) && ((dsts ops.toList).all fun t => inMask m t) && ((ops.toList.take p).all fun o => o.dst.isSome) &&
    topB ops.toList [] (List.range ops.size) && ((List.range ops.size).all fun k => (List.range k).all fun i => parB ops (ancs ops.toList) p i k)
theorem parSteps_at {P : Program} {ext : Xt} {ol : List Oper} {m : Nat} {s : Env} {w : World} {Q : ParQ} : ∀ {l : List Oper} {k : Nat}, parSteps P ext ol m s w Q k l →
    ∀ i o, l[i]? = some o → ∀ (u : Env) (T : Nat → Nat × Nat) (w1 : World), Ext w w1 → Apart (onL o.after.toList) w.heap.size w1.heap.size T → parPre Q u T w1 o.after.toList →
      opK P ext o (ev (mix m s u)) w1 (fun v w2 => Ext w1 w2 ∧ Q (k + i) (upd u (dstOf ol (k + i)) v) (updT T (k + i) (w1.heap.size, w2.heap.size)) w2)
  | [], _, _, i, o, ho => by simp at ho
  | x :: l, k, h, 0, o, ho => by
    simp only [List.getElem?_cons_zero, Option.some.injEq] at ho
    subst ho
    exact h.1
  | x :: l, k, h, i + 1, o, ho => by
    have := parSteps_at h.2 i o (by simpa using ho)
    rwa [show k + (i + 1) = k + 1 + i by omega]
theorem parAll_mk {Q : ParQ} {u : Env} {T : Nat → Nat × Nat} {w : World} : ∀ {n k : Nat}, (∀ i, i < n → Q (k + i) u T w) → parAll Q u T w k n
  | 0, _, _ => trivial
  | n + 1, k, h => ⟨h 0 (by omega), parAll_mk fun i hi => by have := h (i + 1) (by omega); rwa [show k + 1 + i = k + (i + 1) by omega]⟩
theorem parPre_mk {Q : ParQ} {u : Env} {T : Nat → Nat × Nat} {w : World} : ∀ {l : List Edge}, (∀ e ∈ l, Region.binds .any e = true → Q e.on u T w) → parPre Q u T w l
  | [], _ => trivial
  | e :: l, h => by
    simp only [parPre]
    cases hb : Region.binds .any e
    · exact parPre_mk fun x hx => h x (by simp [hx])
    · exact ⟨h e (by simp) hb, parPre_mk fun x hx => h x (by simp [hx])⟩
theorem mem_onL : ∀ {l : List Edge} {i : Nat}, i ∈ onL l → ∃ e ∈ l, Region.binds .any e = true ∧ e.on = i
  | [], _, h => by simp [onL] at h
  | e :: l, i, h => by
    simp only [onL] at h
    cases hb : Region.binds .any e
    · rw [hb] at h
      obtain ⟨x, hx, h2⟩ := mem_onL (l := l) h
      exact ⟨x, by simp [hx], h2⟩
    · rw [hb] at h
      simp only [cond_true, List.mem_cons] at h
      rcases h with rfl | h
      · exact ⟨e, by simp, hb, rfl⟩
      · obtain ⟨x, hx, h2⟩ := mem_onL (l := l) h
        exact ⟨x, by simp [hx], h2⟩
theorem mem_onD {ol : List Oper} : ∀ {l : List Edge} {p : Nat × Nat}, p ∈ onD ol l → p.2 = dstOf ol p.1 ∧ ∃ e ∈ l, Region.binds .any e = true ∧ e.on = p.1
  | [], _, h => by simp [onD] at h
  | e :: l, p, h => by
    simp only [onD] at h
    cases hb : Region.binds .any e
    · rw [hb] at h
      obtain ⟨h0, x, hx, h2⟩ := mem_onD (l := l) h
      exact ⟨h0, x, by simp [hx], h2⟩
    · rw [hb] at h
      simp only [cond_true, List.mem_cons] at h
      rcases h with rfl | h
      · exact ⟨rfl, e, by simp, hb, rfl⟩
      · obtain ⟨h0, x, hx, h2⟩ := mem_onD (l := l) h
        exact ⟨h0, x, by simp [hx], h2⟩
theorem depsGo_at {ol : List Oper} : ∀ {l : List Oper} {k i : Nat} {p : Nat × Nat}, p ∈ nthL (depsGo ol k l) i → p.2 = dstOf ol p.1 ∧ ∃ o, l[i]? = some o ∧ (p.1 = k + i ∨ ∃ e ∈ o.after.toList, Region.binds .any e = true ∧ e.on = p.1)
  | [], _, _, _, h => by simp [depsGo, nthL, nth] at h
  | o :: l, k, 0, p, h => by
    simp only [depsGo, nthL, nth, List.mem_cons] at h
    rcases h with rfl | h
    · exact ⟨rfl, o, rfl, .inl rfl⟩
    · obtain ⟨h0, h1⟩ := mem_onD h
      exact ⟨h0, o, rfl, .inr h1⟩
  | o :: l, k, i + 1, p, h => by
    have h' : p ∈ nthL (depsGo ol (k + 1) l) i := h
    obtain ⟨h0, o', ho, h1⟩ := depsGo_at h'
    exact ⟨h0, o', by simpa using ho, h1.imp (fun e => by omega) id⟩
theorem dsts_inj {ol : List Oper} (hn : (dsts ol).Nodup) : ∀ {i j : Nat} {x y : Oper} {d : Nat}, ol[i]? = some x → ol[j]? = some y → x.dst = some d → y.dst = some d → i = j := by
  induction ol with
  | nil => intro i j x y d hi; simp at hi
  | cons z l ih =>
    intro i j x y d hi hj hx hy
    have key : ∀ {k : Nat} {o : Oper}, l[k]? = some o → o.dst = some d → d ∈ dsts l := fun hk ho => List.mem_filterMap.2 ⟨_, List.mem_of_getElem? hk, ho⟩
    have hn' : (dsts l).Nodup := by
      unfold dsts at hn ⊢
      rw [List.filterMap_cons] at hn
      split at hn
      · exact hn
      · exact (List.nodup_cons.1 hn).2
    have hz : z.dst = some d → d ∉ dsts l := fun hz => by
      unfold dsts at hn ⊢
      rw [List.filterMap_cons, hz] at hn
      exact (List.nodup_cons.1 hn).1
    cases i with
    | zero =>
      simp only [List.getElem?_cons_zero, Option.some.injEq] at hi
      subst hi
      cases j with
      | zero => rfl
      | succ j => exact absurd (key (by simpa using hj) hy) (hz hx)
    | succ i =>
      cases j with
      | zero =>
        simp only [List.getElem?_cons_zero, Option.some.injEq] at hj
        subst hj
        exact absurd (key (by simpa using hi) hx) (hz hy)
      | succ j => exact congrArg (· + 1) (ih hn' (i := i) (j := j) (by simpa using hi) (by simpa using hj) hx hy)
theorem mix_self {m : Nat} {s u : Env} (h : ∀ t, inMask m t = false → u t = s t) : mix m s u = u := by
  funext t
  unfold mix
  cases ht : inMask m t
  · exact (h t ht).symm
  · rfl
theorem mem_rest {n p j : Nat} : j ∈ (List.range n).drop p ↔ p ≤ j ∧ j < n := by
  rw [List.mem_drop_iff_getElem]
  constructor
  · rintro ⟨i, hi, he⟩; simp at he hi; omega
  · rintro ⟨h1, h2⟩; exact ⟨j - p, by simp; omega, by simp; omega⟩
/-- what is known while operations in whatever order are carried out: c are left -/
structure PInv (ops : Array Oper) (p m : Nat) (Q : ParQ) (s0 : Env) (w0 : World) (c : List Nat) (listed : Array Bool) (s : Env) (T : Nat → Nat × Nat) (w : World) : Prop where
  nodup : (c ++ (List.range ops.size).drop p).Nodup
  mem : ∀ j, j ∈ c ++ (List.range ops.size).drop p ↔ listed.getD j true = false
  lt : ∀ j ∈ c, j < p
  sorted : c.Pairwise (· < ·)
  closed : Closed ops listed
  top : Top ops listed (c ++ (List.range ops.size).drop p)
  ext : Ext w0 w
  env : ∀ t, inMask m t = false → s t = s0 t
  t1 : ∀ j, j < p → listed.getD j false = true → w0.heap.size ≤ (T j).1 ∧ (T j).1 ≤ (T j).2 ∧ (T j).2 ≤ w.heap.size
  t2 : ∀ i j, i < p → j < p → listed.getD i false = true → listed.getD j false = true → i ≠ j → (T i).2 ≤ (T j).1 ∨ (T j).2 ≤ (T i).1
  q : ∀ j, j < p → listed.getD j false = true → Q j s T w
section
variable {ops : Array Oper} {p m : Nat} {Q : ParQ} {s0 s : Env} {w0 w w' : World} {c c1 c2 : List Nat} {listed : Array Bool} {T : Nat → Nat × Nat} {y dy : Nat} {oy : Oper} {v : Value}
theorem PInv.edge (h : PInv ops p m Q s0 w0 c listed s T w) (hdeps : ∀ e ∈ oy.after, Region.binds .any e = true → listed.getD e.on false = true) :
    ∀ e ∈ oy.after.toList, Region.binds .any e = true → e.on < p ∧ listed.getD e.on false = true := fun e he hb => by
  have hle := hdeps e (by simpa using he) hb
  have hlt' : e.on < ops.size := by
    rcases Nat.lt_or_ge e.on listed.size with h' | h'
    · rw [h.closed.size] at h'; exact h'
    · simp [Array.getElem?_eq_none h'] at hle
  refine ⟨?_, hle⟩
  rcases Nat.lt_or_ge e.on p with h' | h'
  · exact h'
  · exfalso
    have h2 := (h.mem e.on).1 (List.mem_append_right _ (mem_rest.2 ⟨h', hlt'⟩))
    have h3 : e.on < listed.size := by rw [h.closed.size]; exact hlt'
    simp [h3] at hle h2; rw [hle] at h2; cases h2
theorem PInv.ready (h : PInv ops p m Q s0 w0 c listed s T w) {P : Program} {ext : Xt} (hs : parSteps P ext ops.toList m s0 w0 Q 0 (ops.toList.take p)) (hp : okPar ops m p = true)
    (hyp : y < p) (hoy : ops[y]? = some oy) (hdeps : ∀ e ∈ oy.after, Region.binds .any e = true → listed.getD e.on false = true) (hdy : oy.dst = some dy) :
    opK P ext oy (ev s) w (fun v w2 => Ext w w2 ∧ Q y (upd s dy v) (updT T y (w.heap.size, w2.heap.size)) w2) := by
  have hedge := h.edge hdeps
  have hon : ∀ i ∈ onL oy.after.toList, i < p ∧ listed.getD i false = true := fun i hi => by
    obtain ⟨e, he, hb, rfl⟩ := mem_onL hi
    exact hedge e he hb
  have hoyl : ops.toList[y]? = some oy := by simpa using hoy
  have hin : (ops.toList.take p)[y]? = some oy := by rw [List.getElem?_take, if_pos hyp]; exact hoyl
  have hstep := parSteps_at hs y oy hin s T w h.ext ⟨fun i hi => h.t1 i (hon i hi).1 (hon i hi).2, fun i hi j hj hij => h.t2 i j (hon i hi).1 (hon j hj).1 (hon i hi).2 (hon j hj).2 hij⟩
    (parPre_mk fun e he hb => h.q e.on (hedge e he hb).1 (hedge e he hb).2)
  have hdsy : dstOf ops.toList y = dy := by
    unfold dstOf
    rw [nth_arr, hoy]
    simp only [Option.bind_some, hdy]
  rw [mix_self h.env] at hstep
  simp only [Nat.zero_add, hdsy] at hstep
  exact hstep
theorem PInv.step (h : PInv ops p m Q s0 w0 (c1 ++ y :: c2) listed s T w) (hp : okPar ops m p = true)
    (st : ∀ i u u' T T' w1 w2, Ext w0 w1 → Ext w1 w2 → (∀ q ∈ nthL (depsGo ops.toList 0 (ops.toList.take p)) i, u' q.2 = u q.2 ∧ T' q.1 = T q.1) → Q i u T w1 → Q i u' T' w2)
    (hun : listed.getD y true = false) (hoy : ops[y]? = some oy) (hdeps : ∀ e ∈ oy.after, Region.binds .any e = true → listed.getD e.on false = true) (hdy : oy.dst = some dy)
    (hxx : Ext w w') (hQy : Q y (upd s dy v) (updT T y (w.heap.size, w'.heap.size)) w') :
    PInv ops p m Q s0 w0 (c1 ++ c2) (listed.setIfInBounds y true) (upd s dy v) (updT T y (w.heap.size, w'.heap.size)) w' := by
  simp only [okPar, Bool.and_eq_true, List.all_eq_true] at hp
  obtain ⟨⟨⟨⟨⟨⟨p1, p2⟩, p3⟩, p4⟩, p5⟩, p6⟩, p7⟩ := hp
  have hdn := nodupB_spec p2
  obtain ⟨hnd, hc, hlt, hso, hcl, ht, hx, henv, hT1, hT2, hQ⟩ := h
  have hys : y < ops.size := (Array.getElem?_eq_some_iff.1 hoy).1
  have hylt : y < listed.size := by rw [hcl.size]; exact hys
  have hoyl : ops.toList[y]? = some oy := by simpa using hoy
  have hyp := hlt y (by simp)
  rw [List.append_assoc, List.cons_append] at hnd hc ht
  have hnd2 := hnd
  rw [List.nodup_append] at hnd2
  have hold : ∀ j, y ≠ j → (listed.setIfInBounds y true).getD j false = true → listed.getD j false = true := fun j hjy hj => by rwa [getD_set_ne false hjy] at hj
  have hTy : updT T y (w.heap.size, w'.heap.size) y = (w.heap.size, w'.heap.size) := by simp [updT]
  have hTo : ∀ j, j ≠ y → updT T y (w.heap.size, w'.heap.size) j = T j := fun j hj => by
    have : Nat.beq j y = false := by rw [← Bool.not_eq_true, Nat.beq_eq]; exact hj
    simp [updT, this]
  have hdyd : dy ∈ dsts ops.toList := List.mem_filterMap.2 ⟨oy, List.mem_of_getElem? hoyl, hdy⟩
  refine ⟨?_, ?_, fun j hj => hlt j (by rcases List.mem_append.1 hj with h | h <;> simp [h]), hso.sublist (List.Sublist.append_left (List.sublist_cons_self y _) c1), ⟨by simp [hcl.size], ?_⟩, ?_, hx.trans hxx, fun t hm => ?_, ?_, ?_, ?_⟩
  · rw [List.append_assoc]
    exact hnd.sublist (List.Sublist.append_left (List.sublist_cons_self y _) c1)
  · intro j
    rw [List.append_assoc]
    by_cases hjy : y = j
    · subst hjy
      have hnot : y ∉ c1 ++ (c2 ++ (List.range ops.size).drop p) := by
        intro hm
        rcases List.mem_append.1 hm with hm | hm
        · exact hnd2.2.2 y hm y (by simp) rfl
        · exact (List.nodup_cons.1 hnd2.2.1).1 hm
      simp only [hnot, false_iff]
      simp [hylt]
    · rw [getD_set_ne true hjy, ← hc j]
      simp only [List.mem_append, List.mem_cons]
      constructor
      · rintro (h | h | h)
        · exact .inl h
        · exact .inr (.inr (.inl h))
        · exact .inr (.inr (.inr h))
      · rintro (h | h | h | h)
        · exact .inl h
        · exact absurd h.symm hjy
        · exact .inr (.inl h)
        · exact .inr (.inr h)
  · intro j o ho hj e he hb
    by_cases hjy : y = j
    · subst hjy
      rw [hoy] at ho; cases ho
      exact getD_set_true (hdeps e he hb)
    · rw [getD_set_ne false hjy] at hj
      exact getD_set_true (hcl.down j o ho hj e he hb)
  · rw [List.append_assoc]; exact Top_del ht
  · rw [upd_other _ _ (fun e => ?_)]
    · exact henv t hm
    · subst e; have := p4 _ hdyd; rw [this] at hm; cases hm
  · intro j hjp hj
    by_cases hjy : j = y
    · rw [hjy, hTy]; exact ⟨hx.size, hxx.size, Nat.le_refl _⟩
    · rw [hTo j hjy]
      obtain ⟨h1, h2, h3⟩ := hT1 j hjp (hold j (fun e => hjy e.symm) hj)
      exact ⟨h1, h2, Nat.le_trans h3 hxx.size⟩
  · intro i j hip hjp hi hj hij
    by_cases hiy : i = y
    · have hjy : ¬ j = y := fun e => hij (hiy.trans e.symm)
      rw [hiy, hTy, hTo j hjy]
      exact .inr (hT1 j hjp (hold j (fun e => hjy e.symm) hj)).2.2
    · by_cases hjy : j = y
      · rw [hjy, hTy, hTo i hiy]
        exact .inl (hT1 i hip (hold i (fun e => hiy e.symm) hi)).2.2
      · rw [hTo i hiy, hTo j hjy]
        exact hT2 i j hip hjp (hold i (fun e => hiy e.symm) hi) (hold j (fun e => hjy e.symm) hj) hij
  · intro j hjp hj
    by_cases hjy : j = y
    · rw [hjy]; exact hQy
    · have hj' := hold j (fun e => hjy e.symm) hj
      refine st j s _ T _ w w' hx hxx (fun q hq => ?_) (hQ j hjp hj')
      obtain ⟨h0, o, ho, h1⟩ := depsGo_at hq
      have hol : ops.toList[j]? = some o := by
        rw [List.getElem?_take, if_pos hjp] at ho
        exact ho
      have hoa : ops[j]? = some o := by simpa using hol
      have hql : listed.getD q.1 false = true ∧ q.1 < ops.size := by
        rcases h1 with h1 | ⟨e, he, hb, h1⟩
        · rw [Nat.zero_add] at h1
          rw [h1]
          exact ⟨hj', (Array.getElem?_eq_some_iff.1 hoa).1⟩
        · have := hcl.down j o hoa hj' e (by simpa using he) hb
          rw [h1] at this
          refine ⟨this, ?_⟩
          rcases Nat.lt_or_ge q.1 listed.size with h' | h'
          · rw [hcl.size] at h'; exact h'
          · simp [Array.getElem?_eq_none h'] at this
      have hqy : q.1 ≠ y := fun e => by
        rw [e] at hql
        have h1 := hql.1
        simp [hylt] at h1 hun
        rw [h1] at hun; cases hun
      refine ⟨?_, hTo q.1 hqy⟩
      have hoq : ops.toList[q.1]? = some ops[q.1] := by simp [hql.2]
      cases hdq : ops[q.1].dst with
      | none =>
        -- no slot: dstOf is 0 only where there is none
        exfalso
        have hqp : q.1 < p := by
          rcases h1 with h1 | ⟨e, he, hb, h1⟩
          · omega
          · rcases Nat.lt_or_ge q.1 p with h' | h'
            · exact h'
            · exfalso
              have h2 := (hc q.1).1 (List.mem_append_right _ (List.mem_cons_of_mem _ (List.mem_append_right _ (mem_rest.2 ⟨h', hql.2⟩))))
              have h3 : q.1 < listed.size := by rw [hcl.size]; exact hql.2
              have h4 := hql.1
              simp [h3] at h4 h2; rw [h4] at h2; cases h2
        have := p5 ops[q.1] (List.mem_of_getElem? (l := ops.toList.take p) (i := q.1) (by rw [List.getElem?_take, if_pos hqp]; exact hoq))
        rw [hdq] at this; cases this
      | some d =>
        have hdd : q.2 = d := by
          rw [h0]; unfold dstOf
          rw [nth_arr, Array.getElem?_eq_getElem hql.2]
          simp only [Option.bind_some, hdq]
        rw [hdd]
        have hne : d ≠ dy := fun e => hqy (dsts_inj hdn hoq hoyl hdq (e ▸ hdy))
        exact upd_other _ _ hne
/-- where only such are left as look at no memory: they may come at once -/
theorem par_tail {P : Program} {ext : Xt} {K : Env → World → Prop} (hp : okPar ops m p = true)
    (st : ∀ i u u' T T' w1 w2, Ext w0 w1 → Ext w1 w2 → (∀ q ∈ nthL (depsGo ops.toList 0 (ops.toList.take p)) i, u' q.2 = u q.2 ∧ T' q.1 = T q.1) → Q i u T w1 → Q i u' T' w2)
    (hs : parSteps P ext ops.toList m s0 w0 Q 0 (ops.toList.take p))
    (hf : ∀ (u : Env) (T : Nat → Nat × Nat) (w1 : World), Ext w0 w1 → Apart (List.range p) w0.heap.size w1.heap.size T → parAll Q u T w1 0 p → vcOps P ext ops.toList 0 K ((List.range ops.toList.length).drop p) (mix m s0 u) w1) :
    ∀ (c : List Nat) (listed : Array Bool) (s : Env) (T : Nat → Nat × Nat) (w : World), PInv ops p m Q s0 w0 c listed s T w → (∀ i ∈ c, ∃ o, ops[i]? = some o ∧ isPure o = true) →
      vcOps P ext ops.toList 0 K (c ++ (List.range ops.size).drop p) s w := by
  have hp' := hp
  simp only [okPar, Bool.and_eq_true, List.all_eq_true] at hp'
  obtain ⟨⟨⟨⟨⟨⟨p1, p2⟩, p3⟩, p4⟩, p5⟩, p6⟩, p7⟩ := hp'
  have hpn : p ≤ ops.size := Nat.le_of_ble_eq_true p1
  intro c
  induction c with
  | nil =>
    intro listed s T w h _
    have hall : ∀ j, j < p → listed.getD j false = true := fun j hj => by
      have h2 : ¬ listed.getD j true = false := fun e => by
        have := (h.mem j).2 e
        rw [List.nil_append] at this
        have := (mem_rest.1 this).1
        omega
      have h3 : j < listed.size := by rw [h.closed.size]; omega
      simp [h3] at h2 ⊢
      exact h2
    have hv := hf s T w h.ext ⟨fun i hi => h.t1 i (List.mem_range.1 hi) (hall i (List.mem_range.1 hi)), fun i hi j hj hij => h.t2 i j (List.mem_range.1 hi) (List.mem_range.1 hj) (hall i (List.mem_range.1 hi)) (hall j (List.mem_range.1 hj)) hij⟩
      (parAll_mk fun i hi => by rw [Nat.zero_add]; exact h.q i hi (hall i hi))
    rw [mix_self h.env, show ops.toList.length = ops.size by simp] at hv
    exact hv
  | cons y c2 ih =>
    intro listed s T w h hpu
    obtain ⟨⟨oy, hoy, hdeps⟩, _⟩ := h.top
    obtain ⟨o', ho', hpy⟩ := hpu y (by simp)
    have : o' = oy := by rw [hoy] at ho'; cases ho'; rfl
    subst this
    have hyp := h.lt y (by simp)
    have hoyl : ops.toList[y]? = some o' := by simpa using hoy
    have hin : (ops.toList.take p)[y]? = some o' := by rw [List.getElem?_take, if_pos hyp]; exact hoyl
    obtain ⟨dy, hdy⟩ := Option.isSome_iff_exists.1 (p5 o' (List.mem_of_getElem? hin))
    have hgy : o'.guard = none := by
      have := p3 o' (List.mem_of_getElem? hoyl)
      simpa using this
    have hun : listed.getD y true = false := (h.mem y).1 (by simp)
    have hstep := h.ready hs hp hyp hoy hdeps hdy
    obtain ⟨v, hv, hxx, hQy⟩ := (opK_rd (isPure_rd hpy)).1 hstep
    rw [List.cons_append]
    unfold vcOps
    rw [stepK_iff (o := o') (by rw [nth_arr]; exact hoy)]
    refine ⟨true, by unfold gOk; rw [hgy], ?_⟩
    simp only [if_true]
    unfold opF
    have hm0 : inMask 0 y = false := by rw [inMask_eq]; simp
    rw [hm0]
    refine (opK_rd (isPure_rd hpy)).2 ⟨v, hv, ?_⟩
    have hput : put s o'.dst v = upd s dy v := by rw [hdy]; rfl
    rw [hput]
    exact ih _ _ _ _ (PInv.step (c1 := []) h hp st hun hoy hdeps hdy hxx hQy) fun i hi => hpu i (by simp [hi])
end
theorem pairs_par {ops : Array Oper} {p : Nat} (p7 : ∀ k ∈ List.range ops.size, ∀ i ∈ List.range k, parB ops (ancs ops.toList) p i k = true) {c : List Nat} (hlt : ∀ j ∈ c, j < p) (hso : c.Pairwise (· < ·)) (hall : ∀ i ∈ c, ∃ o, ops[i]? = some o ∧ isPure o = true) :
    pairsB ops (ancs ops.toList) 0 (c ++ (List.range ops.size).drop p) = true := by
  have hpw : (c ++ (List.range ops.size).drop p).Pairwise (· < ·) := by
    rw [List.pairwise_append]
    exact ⟨hso, List.Pairwise.sublist (List.drop_sublist _ _) List.pairwise_lt_range, fun i hi j hj => by have := hlt i hi; have := (mem_rest.1 hj).1; omega⟩
  have hsz : ∀ j ∈ c ++ (List.range ops.size).drop p, j < ops.size := fun j hj => by
    rcases List.mem_append.1 hj with h | h
    · obtain ⟨o, ho, _⟩ := hall j h; exact (Array.getElem?_eq_some_iff.1 ho).1
    · exact (mem_rest.1 h).2
  have key : ∀ i ∈ c ++ (List.range ops.size).drop p, ∀ j ∈ c ++ (List.range ops.size).drop p, i < j → pairB ops (ancs ops.toList) 0 i j = true := by
    intro i hi j hj hij
    have hA := p7 j (List.mem_range.2 (hsz j hj)) i (List.mem_range.2 hij)
    have h0 : inMask 0 i = false := by rw [inMask_eq]; simp
    unfold parB at hA
    unfold pairB
    rw [Bool.or_eq_true] at hA ⊢
    refine hA.imp id fun hA => ?_
    cases hoi : nth ops.toList i with
    | none => simp [hoi] at hA
    | some oi =>
      cases hoj : nth ops.toList j with
      | none => simp [hoi, hoj] at hA
      | some oj =>
        simp only [hoi, hoj] at hA ⊢
        cases hb : Nat.ble p j with
        | true =>
          simp only [hb, cond_true, Bool.and_eq_true] at hA
          simp [isPure_rd hA.2.1, h0, hA.2.1, hA.2.2]
        | false =>
          have hjp : j < p := by
            rcases Nat.lt_or_ge j p with h | h
            · exact h
            · rw [Nat.ble_eq_true_of_le h] at hb; cases hb
          have mem : ∀ q ∈ c ++ (List.range ops.size).drop p, q < p → q ∈ c := fun q hq hqp => by
            rcases List.mem_append.1 hq with h | h
            · exact h
            · have := (mem_rest.1 h).1; omega
          obtain ⟨o1, ho1, hp1⟩ := hall i (mem i hi (by omega))
          obtain ⟨o2, ho2, hp2⟩ := hall j (mem j hj hjp)
          rw [nth_arr, ho1] at hoi
          rw [nth_arr, ho2] at hoj
          cases hoi; cases hoj
          simp only [hb, cond_false, hp1, hp2, Bool.and_self, Bool.not_true, Bool.false_or] at hA
          simp [isPure_rd hp1, isPure_rd hp2, h0, hA]
  generalize c ++ (List.range ops.size).drop p = l at hpw key
  clear hsz
  induction l with
  | nil => rfl
  | cons x r ih =>
    rw [List.pairwise_cons] at hpw
    simp only [pairsB, Bool.and_eq_true, List.all_eq_true]
    exact ⟨fun j hj => key x (by simp) j (by simp [hj]) (hpw.1 j hj), ih hpw.2 fun i hi j hj => key i (by simp [hi]) j (by simp [hj])⟩
section
variable {P : Program} {ext : Xt} {N n : Nat} (hE : ∀ f, f < N → ext.l.elem f = false → enters P f = true)
include hE
theorem par_sound {ops : Array Oper} {m p : Nat} {K : Env → World → Prop} {QQ : Exit → Act → World → Prop} (hok : okOps ext.l N n ops.toList = true) (hp : okPar ops m p = true)
    {a0 : Act} {w0 : World} {Q : ParQ} (st : ∀ i u u' T T' w1 w2, Ext w0 w1 → Ext w1 w2 → (∀ q ∈ nthL (depsGo ops.toList 0 (ops.toList.take p)) i, u' q.2 = u q.2 ∧ T' q.1 = T q.1) → Q i u T w1 → Q i u' T' w2) (hs : parSteps P ext ops.toList m (envOf a0) w0 Q 0 (ops.toList.take p))
    (hf : ∀ (u : Env) (T : Nat → Nat × Nat) (w1 : World), Ext w0 w1 → Apart (List.range p) w0.heap.size w1.heap.size T → parAll Q u T w1 0 p → vcOps P ext ops.toList 0 K ((List.range ops.toList.length).drop p) (mix m (envOf a0) u) w1)
    (hq : ∀ a' w', Kept n (dsts ops.toList) a0 a' → K (envOf a') w' → QQ .normal a' w') :
    ∀ (k : Nat) (c : List Nat) (listed : Array Bool) (a : Act) (w : World) (T : Nat → Nat × Nat), c.length = k → PInv ops p m Q (envOf a0) w0 c listed (envOf a) T w → a.tmps.size = n → Kept n (dsts ops.toList) a0 a →
      wpAny P .any ops QQ (k + ((List.range ops.size).drop p).length) listed a w := by
  have hp' := hp
  simp only [okPar, Bool.and_eq_true, List.all_eq_true] at hp'
  obtain ⟨⟨⟨⟨⟨⟨p1, p2⟩, p3⟩, p4⟩, p5⟩, p6⟩, p7⟩ := hp'
  have hpn : p ≤ ops.size := Nat.le_of_ble_eq_true p1
  intro k
  induction k with
  | zero =>
    intro c listed a w T hl h hn hk
    have hnil : c = [] := List.eq_nil_of_length_eq_zero hl
    subst hnil
    have hv := par_tail (P := P) (ext := ext) hp st hs hf [] listed (envOf a) T w h (by simp)
    refine draw_sound hE hok _ _ listed a w (by simp) h.nodup h.mem h.closed h.top ?_ hn hv fun a' w' hk' hh => hq a' w' (hk.trans hk' (fun _ h => h) (fun _ h => h)) hh
    exact pairs_par p7 (c := []) (by simp) (by simp) (by simp)
  | succ k ih =>
    intro c listed a w T hl h hn hk
    by_cases hall : ∀ i ∈ c, ∃ o, ops[i]? = some o ∧ isPure o = true
    · have hv := par_tail (P := P) (ext := ext) hp st hs hf c listed (envOf a) T w h hall
      refine draw_sound hE hok _ _ listed a w (by simp [hl]) h.nodup h.mem h.closed h.top ?_ hn hv fun a' w' hk' hh => hq a' w' (hk.trans hk' (fun _ h => h) (fun _ h => h)) hh
      exact pairs_par p7 h.lt h.sorted hall
    rw [show k + 1 + ((List.range ops.size).drop p).length = (k + ((List.range ops.size).drop p).length) + 1 by omega]
    refine ⟨fun hnone => ?_, fun y hy => ?_⟩
    · cases c with
      | nil => simp at hl
      | cons i r =>
        obtain ⟨⟨o, ho, hd⟩, _⟩ := h.top
        have : i ∈ Region.ready .any ops listed := mem_ready.2 ⟨(h.mem i).1 (by simp), o, ho, hd⟩
        rw [hnone] at this; cases this
    · obtain ⟨hun, oy, hoy, hdeps⟩ := mem_ready.1 hy
      have hym : y ∈ c ++ (List.range ops.size).drop p := (h.mem y).2 hun
      have hoyl : ops.toList[y]? = some oy := by simpa using hoy
      have hys : y < ops.size := (Array.getElem?_eq_some_iff.1 hoy).1
      have hyc : y ∈ c := by
        rcases List.mem_append.1 hym with h1 | h1
        · exact h1
        · exfalso
          refine hall fun i hi => ?_
          have hip := h.lt i hi
          have hyp := (mem_rest.1 h1).1
          have hA := p7 y (List.mem_range.2 hys) i (List.mem_range.2 (by omega))
          unfold parB at hA
          rw [Bool.or_eq_true] at hA
          rcases hA with hA | hA
          · exfalso
            rw [inMask_eq] at hA
            have h1 := anc_listed h.closed y oy hoy hdeps i hA
            have h2 := (h.mem i).1 (List.mem_append_left _ hi)
            rcases Nat.lt_or_ge i listed.size with h' | h'
            · simp [h'] at h1 h2; rw [h1] at h2; cases h2
            · simp [Array.getElem?_eq_none h'] at h1
          · have hb : Nat.ble p y = true := Nat.ble_eq_true_of_le hyp
            cases hoi : nth ops.toList i with
            | none => simp [hoi] at hA
            | some oi =>
              rw [hoi, nth_arr, hoy] at hA
              simp only [hb, cond_true, Bool.and_eq_true] at hA
              have hoi' := hoi
              rw [nth_arr] at hoi'
              exact ⟨oi, hoi', hA.2.1⟩
      have hyp := h.lt y hyc
      obtain ⟨c1, c2, rfl⟩ := List.append_of_mem hyc
      have hoy' : nth ops.toList y = some oy := by rw [nth_arr]; exact hoy
      have hgy : oy.guard = none := by
        have := p3 oy (List.mem_of_getElem? hoyl)
        simpa using this
      have hin : (ops.toList.take p)[y]? = some oy := by rw [List.getElem?_take, if_pos hyp]; exact hoyl
      obtain ⟨dy, hdy⟩ := Option.isSome_iff_exists.1 (p5 oy (List.mem_of_getElem? hin))
      have hstep := h.ready hs hp hyp hoy hdeps hdy
      have h' : stepK P ext ops.toList 0 y (envOf a) w (fun s' w' => ∃ v, s' = put (envOf a) oy.dst v ∧ Ext w w' ∧ Q y (upd (envOf a) dy v) (updT T y (w.heap.size, w'.heap.size)) w') := by
        rw [stepK_iff hoy']
        refine ⟨true, by unfold gOk; rw [hgy], ?_⟩
        simp only [if_true]
        unfold opF
        have : inMask 0 y = false := by rw [inMask_eq]; simp
        rw [this]
        exact opK_mono (fun v w' hh => ⟨v, rfl, hh.1, hh.2⟩) hstep
      refine stepK_sound hE hok hn h' fun a' w' hk' ⟨v, hv, hxx, hQy⟩ => ?_
      refine ih (c1 ++ c2) (listed.setIfInBounds y true) a' w' (updT T y (w.heap.size, w'.heap.size)) (by simp at hl ⊢; omega) ?_ hk'.size (hk.trans hk' (fun _ h => h) (fun _ h => h))
      have hput : envOf a' = upd (envOf a) dy v := by rw [hv, hdy]; rfl
      rw [hput]
      exact h.step hp st hun hoy hdeps hdy hxx hQy
end

/-- every slot that a body writes -/
def wrs : Code → List Nat
  | .region _ ops _ => dsts ops.toList
  | .seq a b => wrs a ++ wrs b
  | .cond _ a b => wrs a ++ wrs b
  | .block _ c => wrs c
  | .loop c => wrs c
  | _ => []
/-- what is looked at once, by the kernel: slots, callees, the written slots of a join or a loop, the orders -/
def okC (g : Cfg) (N n : Nat) : Code → Bool
  | .skip => true
  | .region id ops d => okOps g.ext N n ops.toList && (bif d then (match find g.pars id with | some (m, p) => okPar ops m p | none => match find g.draws id with | some (l, fl) => okDraw ops l fl | none => true) else true)
  | .seq a b => okC g N n a && okC g N n b && (match (firstRegion b).bind (find g.joins) with | some (m, _) => (wrs a).all fun t => inMask m t | none => true)
  | .cond _ a b => okC g N n a && okC g N n b
  | .block _ c => okC g N n c
  | .loop c => okC g N n c && (match (firstRegion c).bind (find g.loops) with | some (m, _) => (wrs c).all fun t => inMask m t | none => true)
  | .exit _ => true
  | .ret => true
  | _ => true

theorem lit_self {s : Env} {c : Operand} {b : Bool} (h : ev s c = .bool b) : lit s c b = s := by
  cases c with
  | tmp t => exact upd_self h
  | _ => rfl

/-- a loop whose measure is carried beside the state -/
theorem wp_loop_ghost {P : Program} {Q : Exit → Act → World → Prop} {c : Code} (I : Nat → Act → World → Prop) (m : Nat) {a : Act} {w : World} (h₀ : I m a w)
    (round : ∀ m a w, I m a w → c.wp P (Exit.then (fun a' w' => ∃ m', m' < m ∧ I m' a' w') Q) a w) : (Code.loop c).wp P Q a w := by
  intro b k cs
  have key : ∀ n a w, I n a w → ∃ e a' w', Q e a' w' ∧ Arrives P (lone (b.at a (.code c :: .inLoop c :: k)) cs w) b k cs e a' w' := by
    intro n
    induction n using Nat.strongRecOn with
    | _ n ih =>
      intro a w hI
      obtain ⟨e, a₁, w₁, hq, harr⟩ := round n a w hI b (.inLoop c :: k) cs
      cases e with
      | normal =>
        obtain ⟨m', hlt, hI₁⟩ := hq
        obtain ⟨e₂, a₂, w₂, hq₂, harr₂⟩ := ih m' hlt a₁ w₁ hI₁
        exact ⟨e₂, a₂, w₂, hq₂, .of_steps (Steps.trans harr (.one step_inLoop)) harr₂⟩
      | exit id => exact ⟨_, a₁, w₁, hq, .pass (x := .inLoop c) rfl (fun _ _ => .inl (by simp)) harr⟩
      | goto l => exact ⟨_, a₁, w₁, hq, .pass (x := .inLoop c) rfl (fun _ _ => .inl (by simp)) harr⟩
      | ret => exact ⟨_, a₁, w₁, hq, .pass (x := .inLoop c) rfl (fun _ _ => .inl (by simp)) harr⟩
      | panic ch => exact ⟨_, a₁, w₁, hq, .pass (x := .inLoop c) rfl (fun _ _ => .inl (by simp)) harr⟩
      | outgrown => exact ⟨_, a₁, w₁, hq, .pass (x := .inLoop c) rfl (fun _ _ => .inl (by simp)) harr⟩
  obtain ⟨e, a', w', hq, harr⟩ := key m a w h₀
  exact ⟨e, a', w', hq, .of_steps (.one step_loop) harr⟩

section
variable {P : Program} {g : Cfg} {N n : Nat} (hE : ∀ f, f < N → g.ext.elem f = false → enters P f = true) (hm : P.follows .mixedOrders = true)
include hE hm
theorem vc_sound : ∀ (c : Code), okC g N n c = true → ∀ (a : Act) (w : World) (K : Exit → Env → World → Prop), a.tmps.size = n → vc P g c (envOf a) w K →
    c.wp P (fun e a' w' => K e (envOf a') w' ∧ Kept n (wrs c) a a') a w := by
  intro c
  induction c with
  | skip => intro _ a w K hn h; exact wp_skip ⟨h, .refl _ hn⟩
  | ret => intro _ a w K hn h; exact wp_ret ⟨h, .refl _ hn⟩
  | exit id => intro _ a w K hn h; exact wp_exit ⟨h, .refl _ hn⟩
  | region id ops d =>
    intro hok a w K hn h
    simp only [okC, Bool.and_eq_true] at hok
    cases d with
    | false => exact wp_region (vcOps_sound hE hok.1 _ a w hn h fun a' w' hk hh => ⟨hh, hk⟩)
    | true =>
      simp only [vc] at h
      cases hpd : find g.pars id with
      | some x =>
       obtain ⟨mm, p⟩ := x
       simp only [hpd] at h
       have ho := hok.2
       simp only [hpd, cond_true] at ho
       obtain ⟨Q, st, h1, h2⟩ := h
       have ho' := ho
       simp only [okPar, Bool.and_eq_true, List.all_eq_true] at ho'
       have hpn : p ≤ ops.size := Nat.le_of_ble_eq_true ho'.1.1.1.1.1.1
       have htop := ho'.1.2
       have hsplit : (List.range ops.size).take p ++ (List.range ops.size).drop p = List.range ops.size := List.take_append_drop _ _
       have hlen : p + ((List.range ops.size).drop p).length = ops.size := by simp; omega
       have key := par_sound (Q := Q) (QQ := fun e a' w' => K e (envOf a') w' ∧ Kept n (dsts ops.toList) a a') hE hok.1 ho st h1 h2 (fun a' w' hk hh => ⟨hh, hk⟩) p ((List.range ops.size).take p) (Array.replicate ops.size false) a _ (fun _ => (0, 0)) (by simp; omega) ⟨?_, ?_, ?_, ?_, ⟨by simp, ?_⟩, ?_, Ext.refl _, fun _ _ => rfl, ?_, ?_, ?_⟩ hn (.refl _ hn)
       · rw [hlen] at key
         exact wp_region_any hm key
       · rw [hsplit]; exact List.nodup_range
       · intro j
         rw [hsplit, List.mem_range]
         by_cases hj : j < ops.size <;> simp [hj]
       · intro j hj
         rw [List.mem_take_iff_getElem] at hj
         obtain ⟨i, hi, he⟩ := hj
         simp at he; omega
       · exact List.Pairwise.sublist (List.take_sublist _ _) List.pairwise_lt_range
       · intro j o _ hj
         by_cases hj' : j < ops.size <;> simp [hj'] at hj
       · rw [hsplit]
         exact topB_spec (seen := []) (by simp) (fun i hi => by simp at hi ⊢; omega) htop
       · intro j _ hj
         by_cases hj' : j < ops.size <;> simp [hj'] at hj
       · intro i _ _ _ hj _ _
         by_cases hj' : i < ops.size <;> simp [hj'] at hj
       · intro j _ hj
         by_cases hj' : j < ops.size <;> simp [hj'] at hj
      | none =>
      simp only [hpd] at h
      cases hd : find g.draws id with
      | none => simp [hd] at h
      | some x =>
        obtain ⟨l, fl⟩ := x
        simp only [hd] at h
        have ho := hok.2
        simp only [hpd, hd, cond_true, okDraw, Bool.and_eq_true, List.all_eq_true, List.mem_range] at ho
        obtain ⟨⟨⟨⟨o1, o2⟩, o3⟩, o4⟩, o5⟩ := ho
        have hnd := nodupB_spec o1
        have hmem : ∀ j, j ∈ l ↔ j < ops.size := fun j => ⟨fun hj => Nat.le_of_ble_eq_true (o2 j hj), fun hj => List.mem_of_elem_eq_true (o3 j hj)⟩
        have hlen : l.length = ops.size := by
          have h1 : l.Perm (List.range ops.size) := (List.perm_ext_iff_of_nodup hnd List.nodup_range).2 fun j => by rw [hmem, List.mem_range]
          simpa using h1.length_eq
        obtain ⟨xt, hxl, h⟩ : ∃ xt : Xt, xt.l = g.ext ∧ vcOps P xt ops.toList fl (K .normal) l (envOf a) (World.drew1 w) := by
          cases hxs : g.xs.elem id
          · rw [hxs] at h; exact ⟨_, rfl, h⟩
          · rw [hxs] at h
            obtain ⟨X, h⟩ := h
            exact ⟨_, rfl, h⟩
        refine wp_region_any hm (draw_sound (ext := xt) (by rw [hxl]; exact hE) (by rw [hxl]; exact hok.1) ops.size l _ a _ hlen hnd ?_ ⟨by simp, ?_⟩ ?_ o5 hn h fun a' w' hk hh => ⟨hh, hk⟩)
        · intro j
          rw [hmem]
          by_cases hj : j < ops.size <;> simp [hj]
        · intro j o _ hj
          by_cases hj' : j < ops.size <;> simp [hj'] at hj
        · exact topB_spec (seen := []) (by simp) (fun i hi => by simpa using (hmem i).1 hi) o4
  | seq x y ihx ihy =>
    intro hok a w K hn h
    simp only [okC, Bool.and_eq_true] at hok
    obtain ⟨⟨hx, hy⟩, hj⟩ := hok
    refine wp_seq ?_
    have fin : ∀ (e : Exit) (a1 a2 : Act) (w2 : World), Kept n (wrs x) a a1 → K e (envOf a2) w2 ∧ Kept n (wrs y) a1 a2 → K e (envOf a2) w2 ∧ Kept n (wrs (.seq x y)) a a2 :=
      fun e a1 a2 w2 k1 ⟨h2, k2⟩ => ⟨h2, k1.trans k2 (fun t ht => List.mem_append_left _ ht) (fun t ht => List.mem_append_right _ ht)⟩
    have out : ∀ (e : Exit) (a1 : Act) (w1 : World), K e (envOf a1) w1 → Kept n (wrs x) a a1 → K e (envOf a1) w1 ∧ Kept n (wrs (.seq x y)) a a1 :=
      fun e a1 w1 h1 k1 => ⟨h1, k1.trans (.refl [] k1.size) (fun t ht => List.mem_append_left _ ht) (by simp)⟩
    simp only [vc] at h
    cases hjn : (firstRegion y).bind (find g.joins) with
    | none =>
      simp only [hjn] at h
      refine wp_mono (ihx hx a w _ hn h) fun e a1 w1 ⟨h1, k1⟩ => ?_
      cases e with
      | normal => exact wp_mono (ihy hy a1 w1 K k1.size h1) fun e a2 w2 h2 => fin e a1 a2 w2 k1 h2
      | _ => exact out _ _ _ h1 k1
    | some j =>
      obtain ⟨m, L⟩ := j
      simp only [hjn] at h hj
      obtain ⟨J, hb, hr⟩ := h
      refine wp_mono (ihx hx a w _ hn hb) fun e a1 w1 ⟨h1, k1⟩ => ?_
      cases e with
      | normal =>
        have h2 := hr (envOf a1) w1 h1
        rw [mix_self fun t ht => k1.env t fun hmem => by rw [List.all_eq_true.1 hj t hmem] at ht; cases ht] at h2
        exact wp_mono (ihy hy a1 w1 K k1.size h2) fun e a2 w2 h2 => fin e a1 a2 w2 k1 h2
      | _ => exact out _ _ _ h1 k1
  | cond c x y ihx ihy =>
    intro hok a w K hn h
    simp only [okC, Bool.and_eq_true] at hok
    simp only [vc, BR_iff] at h
    obtain ⟨b, hb, h⟩ := h
    have hb' : a.eval c = .bool b := by rw [← ev_envOf]; exact hb
    refine wp_cond hb' ?_
    cases b with
    | true =>
      simp only [if_true] at h ⊢
      rw [lit_self hb] at h
      exact wp_mono (ihx hok.1 a w K hn h) fun e a' w' ⟨h1, k1⟩ => ⟨h1, k1.trans (.refl [] k1.size) (fun t ht => List.mem_append_left _ ht) (by simp)⟩
    | false =>
      simp only [Bool.false_eq_true, if_false] at h ⊢
      rw [lit_self hb] at h
      exact wp_mono (ihy hok.2 a w K hn h) fun e a' w' ⟨h1, k1⟩ => ⟨h1, k1.trans (.refl [] k1.size) (fun t ht => List.mem_append_right _ ht) (by simp)⟩
  | block id c ih =>
    intro hok a w K hn h
    refine wp_block (wp_mono (ih hok a w _ hn h) fun e a' w' ⟨h1, k1⟩ => ?_)
    cases e with
    | exit j =>
      simp only [Exit.inBlock, blockK] at h1 ⊢
      by_cases hji : j = id
      · subst hji
        simp only [Nat.beq_refl, cond_true] at h1
        simp only [if_true]
        exact ⟨h1, k1⟩
      · have : Nat.beq j id = false := by rw [Bool.eq_false_iff]; exact fun e => hji (Nat.eq_of_beq_eq_true e)
        rw [this] at h1
        simp only [hji, if_false]
        exact ⟨h1, k1⟩
    | _ => exact ⟨h1, k1⟩
  | loop c ih =>
    intro hok a w K hn h
    simp only [okC, Bool.and_eq_true] at hok
    simp only [vc] at h
    cases hl : (firstRegion c).bind (find g.loops) with
    | none => simp [hl] at h
    | some x =>
      obtain ⟨m, L⟩ := x
      simp only [hl] at h
      have hj := hok.2
      simp only [hl] at hj
      obtain ⟨I, m0, h0, hr⟩ := h
      refine wp_loop_ghost (fun m a' w' => I m (L.map (envOf a')) w' ∧ Kept n (wrs c) a a') m0 ⟨h0, .refl _ hn⟩ ?_
      intro m1 a1 w1 ⟨h1, k1⟩
      have h2 := hr m1 (envOf a1) w1 h1
      rw [mix_self fun t ht => k1.env t fun hmem => by rw [List.all_eq_true.1 hj t hmem] at ht; cases ht] at h2
      refine wp_mono (ih hok.1 a1 w1 _ k1.size h2) fun e a2 w2 ⟨h3, k2⟩ => ?_
      cases e with
      | normal =>
        obtain ⟨m', hm', h4⟩ := h3
        exact ⟨m', hm', h4, k1.trans k2 (fun _ h => h) (fun _ h => h)⟩
      | _ => exact ⟨h3, k1.trans k2 (fun _ h => h) (fun _ h => h)⟩
  | _ => intro _ a w K hn h; exact (show False from h).elim
end

def resOne (tmps : Array Value) : ResultVar → Sem Value
  | .tmp t => pure (tmps.getD t undef)
  | .cell a t => do loadVar t (← asAddr (tmps.getD a undef))
theorem resV_run {P : Program} {a : Act} {w : World} : ∀ (rs : List ResultVar) (k : List Value → Prop), resV P (envOf a) w rs k →
    ∃ vs, (rs.mapM (resOne a.tmps)).run P w = .ok vs w ∧ k vs
  | [], k, h => ⟨[], by simp, h⟩
  | .tmp t :: r, k, h => by
    obtain ⟨vs, hr, hk⟩ := resV_run r _ h
    exact ⟨_, by simp only [List.mapM_cons, resOne, Sem.run_bind, Sem.run_pure, Result.andThen_ok, hr]; rfl, hk⟩
  | .cell ad t :: r, k, h => by
    obtain ⟨v, hv, h⟩ := h
    obtain ⟨vs, hr, hk⟩ := resV_run r _ h
    have hv' := hv w (Ext.refl w)
    unfold loadRes envOf at hv'
    exact ⟨_, by simp only [List.mapM_cons]; rw [Sem.run_bind, show (resOne a.tmps (.cell ad t)).run P w = _ from hv']; simp only [Result.andThen_ok, Sem.run_bind, hr, Sem.run_pure], hk⟩
theorem results_run {P : Program} {fn : Func} {a : Act} {w : World} {R : Value → World → Prop} (h : resV P (envOf a) w fn.results.toList fun vs => R (one vs) w) :
    ∃ v, (results fn a.tmps).run P w = .ok v w ∧ R v w := by
  obtain ⟨vs, hr, hk⟩ := resV_run _ _ h
  refine ⟨one vs, ?_, hk⟩
  have he : results fn a.tmps = (do let vs ← fn.results.mapM (resOne a.tmps); pure (if h : vs.size = 1 then vs[0] else .tuple vs)) := by
    unfold results
    congr 1
  rw [he, Array.mapM_eq_mapM_toList]
  simp only [Sem.run_bind, map_eq_pure_bind, hr, Result.andThen_ok, Sem.run_pure]
  match vs with
  | [] => rfl
  | [v] => rfl
  | _ :: _ :: _ => rfl

def okF (g : Cfg) (N : Nat) (fn : Func) : Bool := match fn.body with | some c => okC g N fn.ntmps c | none => false
/-- A CALL: what the reading of the body says. -/
theorem call_of {P : Program} {g : Cfg} {N : Nat} (hE : ∀ f, f < N → g.ext.elem f = false → enters P f = true) (hm : P.follows .mixedOrders = true)
    {f : FuncId} {fn : Func} {args : List Value} {w : World} {R : Value → World → Prop} (hf : P.funcs[f]? = some fn) (hl : args.length ≤ fn.ntmps) (hok : okF g N fn = true)
    (h : vcF P g fn args w R) : CALL P f args w R := by
  unfold vcF at h
  unfold okF at hok
  cases hb : fn.body with
  | none => simp [hb] at h
  | some c =>
    simp only [hb] at h hok
    refine ⟨calls_of_wp hf hb ?_⟩
    have henv : envOf { tmps := args.toArray ++ Array.replicate (fn.ntmps - args.toArray.size) undef, defers := [] } = nthD args := by
      funext t
      unfold envOf nthD
      rw [nth_eq]
      simp only [Array.getD_eq_getD_getElem?, List.size_toArray]
      rcases Nat.lt_or_ge t args.length with ht | ht
      · rw [Array.getElem?_append_left (by simpa using ht)]
        simp [ht]
      · rw [Array.getElem?_append_right (by simpa using ht)]
        simp only [List.getElem?_eq_none ht, Array.getElem?_replicate]
        split <;> rfl
    rw [← henv] at h
    refine wp_mono (vc_sound hE hm c hok _ w _ (by simp; omega) h) fun e a' w' ⟨h1, k1⟩ => ?_
    have hd : a'.defers = [] := k1.defers
    cases e with
    | normal =>
      obtain ⟨v, hv, hR⟩ := results_run h1
      exact ⟨hd, v, hv, v, rfl, hR⟩
    | ret =>
      obtain ⟨v, hv, hR⟩ := results_run h1
      exact ⟨hd, v, hv, v, rfl, hR⟩
    | _ => exact (show False from h1).elim
end Go.Sh
