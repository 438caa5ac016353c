/-
  Parts of the proof, put together by program.
-/
import Derived.Test.YtjgfldfbljmhhaaGreatPHeldRight4
namespace Go.Proofs.YtjgfldfbljmhhaaGreat
open Go Go.Sh Go.Proofs
set_option linter.unusedVariables false
set_option linter.unusedSimpArgs false
/-- called from one on -/
def FromP (c : DCode) (p q : Nat) : Prop := q = p ∨ RP (callN c) p q
theorem FromP.lt {c : DCode} {p q : Nat} (hp : p < c.procs.length) (h : FromP c p q) : q < c.procs.length := by
  rcases h with rfl | h
  · exact hp
  · exact h.keeps (p := fun i => i < c.procs.length) hp fun i j _ hj => (mem_setL.1 hj).1
theorem FromP.trans {c : DCode} {p q r : Nat} (h : FromP c p q) (k : FromP c q r) : FromP c p r := by
  rcases h with rfl | h
  · exact k
  · rcases k with rfl | k
    · exact .inr h
    · exact .inr (h.trans k)
theorem FromP.call {c : DCode} {p q r : Nat} (h : FromP c p q) (hr : r < c.procs.length) (k : OpsP c q 4 r) : FromP c p r := h.trans (.inr (.one (mem_setL.2 ⟨hr, k⟩)))
/-- what no procedure that is called from one on gives -/
noncomputable def keepN (c : DCode) (p : Nat) : Nat := m6 fun l => ¬ ∃ q i, q < c.procs.length ∧ FromP c p q ∧ LiveP c q i ∧ (insAt c i).op = 7 ∧ agN c i = l
/-- what may be lost at a place of a procedure that begins with nothing, when the others are as lossy -/
inductive LostE (c : DCode) : Nat → Nat → Nat → Prop
  | ent {p l : Nat} : LostE c p (eN c p) l
  | unl {p i j l : Nat} (h0 : LiveP c p i) (hj : j ∈ nextN c i) (ho : (insAt c i).op = 7) (ha : agN c i = l) : LostE c p j l
  | cal {p i j l : Nat} (h0 : LiveP c p i) (hj : j ∈ nextN c i) (ho : (insAt c i).op = 4) (hk : (keepN c (agN c i)).testBit l = false) (h1 : LostE c (agN c i) (zN c (agN c i)) l) : LostE c p j l
  | bck {p i j l : Nat} (h0 : LiveP c p i) (hj : j ∈ nextN c i) (ho : (insAt c i).op = 4) (h2 : LostE c p i l) (h1 : LostE c (agN c i) (zN c (agN c i)) l) : LostE c p j l
  | pass {p i j l : Nat} (h0 : LiveP c p i) (hj : j ∈ nextN c i) (h6 : ¬ ((insAt c i).op = 6 ∧ agN c i = l)) (h4 : ¬ (insAt c i).op = 4) (h1 : LostE c p i l) : LostE c p j l
/-- the table of effects -/
noncomputable def effN (c : DCode) : Tab := (List.range c.procs.length).map fun p => (keepN c p, m6 fun l => ¬ LostE c p (zN c p) l)
theorem effN_len (c : DCode) : (effN c).length = c.procs.length := by simp [effN]
theorem effN_at {c : DCode} {p : Nat} (hp : p < c.procs.length) : tbl (effN c) p = (keepN c p, m6 fun l => ¬ LostE c p (zN c p) l) := by
  rw [← tbl_get (by rw [effN_len]; exact hp)]; simp [effN]
theorem tabR_of {c : DCode} {T : Tab} (hl : T.length = c.procs.length) (h : ∀ q, q < c.procs.length → (tbl T q).1 < 64 ∧ (tbl T q).2 < 64) : TabR c T := ⟨hl, fun q => by
  rcases Nat.lt_or_ge q c.procs.length with hq | hq
  · exact h q hq
  · unfold tbl; rw [List.getD_eq_getElem?_getD, List.getElem?_eq_none (by omega)]; simp⟩
theorem effN_right (c : DCode) : TabR c (effN c) := tabR_of (effN_len c) fun q hq => by rw [effN_at hq]; exact ⟨m6_lt, m6_lt⟩
/-- what is asked of a procedure -/
noncomputable def asked (c : DCode) (T : Tab) (p : Nat) : Nat := nat0 (flowN c T p 0) (zN c p)
theorem asked_bit {c : DCode} (hc : CodeR c) {T : Tab} {p l : Nat} (hp : p < c.procs.length) (hl : l < 6) : (asked c T p).testBit l = false ↔ LostP c (tK T) (tG T) p (fun l => (0 : Nat).testBit l = true) (zN c p) l := by
  have hz := (zN_eq hc (p := p) (by rw [hc.2.1.1]; exact hp)).2.2
  unfold asked
  rw [flowN_at hz]
  constructor
  · intro h
    refine Classical.byContradiction fun hn => ?_
    rw [m6_bit.2 ⟨hl, hn⟩] at h; cases h
  · intro h
    cases e : (m6 fun l => ¬ LostP c (tK T) (tG T) p (fun l => (0 : Nat).testBit l = true) (zN c p) l).testBit l
    · rfl
    · exact absurd h (m6_bit.1 e).2
theorem asked_lt {c : DCode} (hc : CodeR c) {T : Tab} {p : Nat} (hp : p < c.procs.length) : asked c T p < 64 := by
  have hz := (zN_eq hc (p := p) (by rw [hc.2.1.1]; exact hp)).2.2
  unfold asked
  rw [flowN_at hz]; exact m6_lt
structure EI (c : DCode) (T : Tab) : Prop where
  tab : TabR c T
  keep : ∀ p, p < c.procs.length → (tbl T p).1 = keepN c p
  snd : ∀ p l, p < c.procs.length → l < 6 → (tbl T p).2.testBit l = false → LostE c p (zN c p) l
  desc : ∀ p l, p < c.procs.length → l < 6 → (tbl T p).2.testBit l = false → (asked c T p).testBit l = false
theorem EI.lost {c : DCode} (hc : CodeR c) {T : Tab} (h : EI c T) {p i l : Nat} (hp : p < c.procs.length) (hl : l < 6) (k : LostP c (tK T) (tG T) p (fun l => (0 : Nat).testBit l = true) i l) : LostE c p i l := by
  have he := hc.2.1.1
  induction k with
  | ent _ => exact .ent
  | gen h0 hj h1 =>
    have hi := (live_lt hc (by rw [he]; exact hp) h0).1
    rcases h1 with ⟨h1, h2⟩ | ⟨h1, h2, h3⟩
    · exact .unl h0 hj h1 h2
    · have hq := (ag_proc hc hi (.inl h1)).2
      refine .cal h0 hj h1 ?_ (h.snd _ _ hq hl (by unfold tG at h3; simpa using h3))
      unfold tK at h2
      rw [h.keep _ hq] at h2
      simpa using h2
  | @pass i j l h0 hj _ h2 ih =>
    have hi := (live_lt hc (by rw [he]; exact hp) h0).1
    by_cases h4 : (insAt c i).op = 4
    · have hq := (ag_proc hc hi (.inl h4)).2
      refine .bck h0 hj h4 (ih hl) (h.snd _ _ hq hl ?_)
      have := h2.2
      unfold tG at this
      simpa [h4] using this
    · exact .pass h0 hj h2.1 h4 (ih hl)
theorem EI.start (c : DCode) (hc : CodeR c) : EI c ((List.range c.procs.length).map fun p => (keepN c p, 63)) := by
  have hl : ((List.range c.procs.length).map fun p => (keepN c p, 63)).length = c.procs.length := by simp
  have hat : ∀ p, p < c.procs.length → tbl ((List.range c.procs.length).map fun p => (keepN c p, 63)) p = (keepN c p, 63) := fun p hp => by
    rw [← tbl_get (by rw [hl]; exact hp)]; simp
  refine ⟨tabR_of hl fun q hq => by rw [hat q hq]; exact ⟨m6_lt, by omega⟩, fun p hp => by rw [hat p hp], fun p l hp h6 hb => ?_, fun p l hp h6 hb => ?_⟩
  · rw [hat p hp, full_bit h6] at hb; cases hb
  · rw [hat p hp, full_bit h6] at hb; cases hb
theorem EI.upd {c : DCode} (hc : CodeR c) {T : Tab} (h : EI c T) {p : Nat} (hp : p < c.procs.length) : EI c (T.set p ((tbl T p).1, asked c T p)) := by
  have hpl : p < T.length := by rw [h.tab.1]; exact hp
  have hat := fun r => tbl_set (T := T) (q := p) (r := r) (v := ((tbl T p).1, asked c T p)) hpl
  have hle : ∀ q l, l < 6 → (tbl T q).2.testBit l = false → (tbl (T.set p ((tbl T p).1, asked c T p)) q).2.testBit l = false := fun q l hl hb => by
    rw [hat]
    split
    · rename_i e; subst e; exact h.desc p l hp hl hb
    · exact hb
  have hmono : ∀ {q l : Nat}, q < c.procs.length → l < 6 → (asked c T q).testBit l = false → (asked c (T.set p ((tbl T p).1, asked c T p)) q).testBit l = false := fun {q l} hq hl hb => by
    rw [asked_bit hc hq hl] at hb ⊢
    have key : ∀ {i l : Nat}, l < 6 → LostP c (tK T) (tG T) q (fun l => (0 : Nat).testBit l = true) i l → LostP c (tK (T.set p ((tbl T p).1, asked c T p))) (tG (T.set p ((tbl T p).1, asked c T p))) q (fun l => (0 : Nat).testBit l = true) i l := fun {i l} hl k => by
      have hK : ∀ r l, tK (T.set p ((tbl T p).1, asked c T p)) r l ↔ tK T r l := fun r l => by
        unfold tK
        rw [hat]
        split
        · rename_i e; rw [← e]
        · exact Iff.rfl
      have hG : ∀ r, tG (T.set p ((tbl T p).1, asked c T p)) r l → tG T r l := fun r e => by
        unfold tG at e ⊢
        refine bit_of_not fun hf => ?_
        rw [hle r l hl hf] at e; cases e
      clear hb
      induction k with
      | ent h0 => exact .ent h0
      | gen h0 hj h1 => exact .gen h0 hj (h1.imp id fun ⟨a, b, d⟩ => ⟨a, fun e => b ((hK _ _).1 e), fun e => d (hG _ e)⟩)
      | pass h0 hj _ h2 ih => exact .pass h0 hj (ih hl hG) ⟨h2.1, fun ⟨a, b⟩ => h2.2 ⟨a, hG _ b⟩⟩
    exact key hl hb
  refine ⟨⟨by simp [h.tab.1], fun q => ?_⟩, fun q hq => ?_, fun q l hq hl hb => ?_, fun q l hq hl hb => ?_⟩
  · rw [hat]
    split
    · exact ⟨(h.tab.2 p).1, asked_lt hc hp⟩
    · exact h.tab.2 q
  · rw [hat]
    split
    · rename_i e; subst e; exact h.keep p hp
    · exact h.keep q hq
  · rw [hat] at hb
    split at hb
    · rename_i e; subst e
      exact h.lost hc hp hl ((asked_bit hc hp hl).1 hb)
    · exact h.snd q l hq hl hb
  · rw [hat] at hb
    split at hb
    · rename_i e; subst e
      exact hmono hp hl hb
    · exact hmono hq hl (h.desc q l hq hl hb)
theorem EI.le {c : DCode} (hc : CodeR c) {T : Tab} (h : EI c T) {p : Nat} (hp : p < c.procs.length) : asked c T p ≤ (tbl T p).2 := by
  refine Nat.le_of_testBit fun l hb => ?_
  have hl := bit_lt6 (asked_lt hc hp) hb
  refine bit_of_not fun hf => ?_
  rw [h.desc p l hp hl hf] at hb; cases hb
theorem EI.fin {c : DCode} (hc : CodeR c) {T : Tab} (h : EI c T) (hs : ∀ p, p < c.procs.length → asked c T p = (tbl T p).2) : T = effN c := by
  refine List.ext_getElem (by rw [h.tab.1, effN_len]) fun p h1 h2 => ?_
  have hp : p < c.procs.length := by rw [← h.tab.1]; exact h1
  rw [tbl_get h1, tbl_get h2, effN_at hp]
  have key : ∀ {p i l : Nat}, LostE c p i l → p < c.procs.length → l < 6 → LostP c (tK T) (tG T) p (fun l => (0 : Nat).testBit l = true) i l := fun {p i l} k => by
    have hz : ∀ {i l : Nat}, (insAt c i).op = 4 → i < c.ins.length → l < 6 → (agN c i < c.procs.length → l < 6 → LostP c (tK T) (tG T) (agN c i) (fun l => (0 : Nat).testBit l = true) (zN c (agN c i)) l) → ¬ tG T (agN c i) l := fun {i l} ho hi hl k1 => by
      have hq := (ag_proc hc hi (.inl ho)).2
      have := (asked_bit hc hq hl).2 (k1 hq hl)
      rw [hs _ hq] at this
      unfold tG
      rw [this]; simp
    induction k with
    | ent => exact fun _ _ => .ent (by simp)
    | unl h0 hj ho ha => exact fun _ _ => .gen h0 hj (.inl ⟨ho, ha⟩)
    | cal h0 hj ho hk _ ih =>
      intro hp hl
      have hi := (live_lt hc (by rw [hc.2.1.1]; exact hp) h0).1
      have hq := (ag_proc hc hi (.inl ho)).2
      refine .gen h0 hj (.inr ⟨ho, ?_, hz ho hi hl ih⟩)
      unfold tK
      rw [h.keep _ hq, hk]; simp
    | bck h0 hj ho _ _ ih2 ih1 =>
      intro hp hl
      have hi := (live_lt hc (by rw [hc.2.1.1]; exact hp) h0).1
      exact .pass h0 hj (ih2 hp hl) ⟨fun h => by omega, fun h => hz ho hi hl ih1 h.2⟩
    | pass h0 hj h6 h4 _ ih => exact fun hp hl => .pass h0 hj (ih hp hl) ⟨h6, fun h => h4 h.1⟩
  refine Prod.ext (h.keep p hp) (eq_m6 (h.tab.2 p).2 fun l hl => ⟨fun hb hn => ?_, fun hn => bit_of_not fun hb => hn (h.snd p l hp hl hb)⟩)
  have := (asked_bit hc hp hl).2 (key hn hp hl)
  rw [hs p hp] at this
  rw [this] at hb; cases hb
def gsum (T : Tab) : Nat := (T.map (·.2)).sum
theorem gsum_set {T : Tab} {p : Nat} {v : Nat × Nat} (hp : p < T.length) : gsum (T.set p v) + (tbl T p).2 = gsum T + v.2 := by
  unfold gsum
  rw [List.map_set]
  have := sum_set (l := T.map (·.2)) (i := p) (v := v.2) (by simpa using hp)
  rw [← nat0_get (by simpa using hp)] at this
  rw [← tbl_get hp]
  simpa using this
/-- with which procedures threads begin -/
def mainN (c : DCode) : Nat := (plc mainS c.procs).toNat
inductive RootP (c : DCode) : Nat → Prop
  | main : RootP c (mainN c)
  | spawn {r p q : Nat} (h0 : RootP c r) (h1 : FromP c r p) (h2 : OpsP c p 5 q) (hq : q < c.procs.length) : RootP c q
def UsedP (c : DCode) (p : Nat) : Prop := ∃ r, RootP c r ∧ FromP c r p
theorem main_lt' {c : DCode} (hc : CodeR c) : plc mainS c.procs = (mainN c : Int) ∧ mainN c < c.procs.length := by
  have h := main_lt hc
  have h2 := hc.2.1.1
  unfold mainN
  omega
theorem RootP.lt {c : DCode} (hc : CodeR c) {r : Nat} (h : RootP c r) : r < c.procs.length := by
  cases h with
  | main => exact (main_lt' hc).2
  | spawn _ _ _ hq => exact hq
theorem UsedP.lt {c : DCode} (hc : CodeR c) {p : Nat} (h : UsedP c p) : p < c.procs.length := by
  obtain ⟨r, h1, h2⟩ := h
  exact h2.lt (h1.lt hc)
theorem RootP.used {c : DCode} {r : Nat} (h : RootP c r) : UsedP c r := ⟨r, h, .inl rfl⟩
theorem UsedP.call {c : DCode} {p q : Nat} (h : UsedP c p) (hq : q < c.procs.length) (k : OpsP c p 4 q) : UsedP c q := by
  obtain ⟨r, h1, h2⟩ := h
  exact ⟨r, h1, h2.call hq k⟩
/-- what may be lost at a place (none: where a procedure begins) -/
inductive LostM (c : DCode) (K G : Nat → Nat → Prop) : Nat → Option Nat → Nat → Prop
  | root {p l : Nat} (h : RootP c p) : LostM c K G p none l
  | call {p i l : Nat} (hu : UsedP c p) (h0 : LiveP c p i) (ho : (insAt c i).op = 4) (h : LostM c K G p (some i) l) : LostM c K G (agN c i) none l
  | ent {p l : Nat} (h : LostM c K G p none l) : LostM c K G p (some (eN c p)) l
  | gen {p i j l : Nat} (h0 : LiveP c p i) (hj : j ∈ nextN c i) (h1 : genX c K G i l) : LostM c K G p (some j) l
  | pass {p i j l : Nat} (h0 : LiveP c p i) (hj : j ∈ nextN c i) (h1 : LostM c K G p (some i) l) (h2 : passX c G i l) : LostM c K G p (some j) l
/-- what is held for sure where a procedure begins -/
noncomputable def begN (c : DCode) (p : Nat) : Nat := m6 fun l => ¬ LostM c (tK (effN c)) (tG (effN c)) p none l
noncomputable def begs (c : DCode) : List Nat := (List.range c.procs.length).map (begN c)
theorem begs_len (c : DCode) : (begs c).length = c.procs.length := by simp [begs]
theorem begs_at {c : DCode} {p : Nat} (hp : p < c.procs.length) : nat0 (begs c) p = begN c p := by rw [← nat0_get (by rw [begs_len]; exact hp)]; simp [begs]
structure BI (c : DCode) (out : List Nat) : Prop where
  len : out.length = c.procs.length
  lt : ∀ x ∈ out, x < 64
  snd : ∀ p l, p < c.procs.length → l < 6 → (nat0 out p).testBit l = false → LostM c (tK (effN c)) (tG (effN c)) p none l
  root : ∀ p l, RootP c p → l < 6 → (nat0 out p).testBit l = false
theorem BI.lt0 {c : DCode} {out : List Nat} (h : BI c out) (i : Nat) : nat0 out i < 64 := by
  rcases Nat.lt_or_ge i out.length with hi | hi
  · exact h.lt _ (nat0_mem hi)
  · unfold nat0; rw [List.getD_eq_getElem?_getD, List.getElem?_eq_none hi]; simp
theorem flow_bit {c : DCode} {T : Tab} {p h i l : Nat} (hi : i < c.ins.length) (hl : l < 6) : (nat0 (flowN c T p h) i).testBit l = false ↔ LostP c (tK T) (tG T) p (fun l => h.testBit l = true) i l := by
  rw [flowN_at hi]
  constructor
  · intro h
    refine Classical.byContradiction fun hn => ?_
    rw [m6_bit.2 ⟨hl, hn⟩] at h; cases h
  · intro k
    cases e : (m6 fun l => ¬ LostP c (tK T) (tG T) p (fun l => h.testBit l = true) i l).testBit l
    · rfl
    · exact absurd k (m6_bit.1 e).2
theorem BI.start {c : DCode} (hc : CodeR c) (out : List Nat) (hl : out.length = c.procs.length) (h : ∀ p, p < c.procs.length → (RootP c p → nat0 out p = 0) ∧ (¬ RootP c p → nat0 out p = 63)) : BI c out := by
  refine ⟨hl, fun x hx => ?_, fun p l hp h6 hb => ?_, fun p l hr h6 => ?_⟩
  · obtain ⟨i, hi, rfl⟩ := List.getElem_of_mem hx
    rw [nat0_get hi]
    have := h i (by omega)
    by_cases hr : RootP c i
    · rw [this.1 hr]; omega
    · rw [this.2 hr]; omega
  · by_cases hr : RootP c p
    · exact .root hr
    · rw [(h p hp).2 hr, full_bit h6] at hb; cases hb
  · rw [(h p (hr.lt hc)).1 hr]; simp
theorem BI.lost {c : DCode} {out : List Nat} (h : BI c out) {p i l : Nat} (hp : p < c.procs.length) (hl : l < 6) (k : LostP c (tK (effN c)) (tG (effN c)) p (fun l => (nat0 out p).testBit l = true) i l) : LostM c (tK (effN c)) (tG (effN c)) p (some i) l := by
  induction k with
  | ent h0 => exact .ent (h.snd p _ hp hl (by simpa using h0))
  | gen h0 hj h1 => exact .gen h0 hj h1
  | pass h0 hj _ h2 ih => exact .pass h0 hj (ih hl) h2
theorem BI.upd {c : DCode} (hc : CodeR c) {out : List Nat} (h : BI c out) {p i : Nat} (hu : UsedP c p) (hi : LiveP c p i) (ho : (insAt c i).op = 4) :
    BI c (out.set (agN c i) (nat0 out (agN c i) &&& nat0 (flowN c (effN c) p (nat0 out p)) i)) := by
  have hp := hu.lt hc
  have hil := (live_lt hc (by rw [hc.2.1.1]; exact hp) hi).1
  have hq := (ag_proc hc hil (.inl ho)).2
  refine ⟨by simp [h.len], fun x hx => ?_, fun r l hr hl hb => ?_, fun r l hr hl => ?_⟩
  · rcases mem_set hx with rfl | hx
    · exact Nat.lt_of_le_of_lt Nat.and_le_left (h.lt0 _)
    · exact h.lt x hx
  · rw [nat0_set (by rw [h.len]; exact hq)] at hb
    split at hb
    · rename_i e
      subst e
      rw [Nat.testBit_and, Bool.and_eq_false_iff] at hb
      rcases hb with hb | hb
      · exact h.snd _ l hr hl hb
      · refine .call hu hi ho ?_
        exact h.lost hp hl ((flow_bit hil hl).1 hb)
    · exact h.snd r l hr hl hb
  · rw [nat0_set (by rw [h.len]; exact hq)]
    split
    · rename_i e
      rw [Nat.testBit_and, e, h.root r l hr hl]; rfl
    · exact h.root r l hr hl
theorem BI.fin {c : DCode} (hc : CodeR c) {out : List Nat} (h : BI c out) (hs : ∀ p i, UsedP c p → LiveP c p i → (insAt c i).op = 4 → nat0 out (agN c i) &&& nat0 (flowN c (effN c) p (nat0 out p)) i = nat0 out (agN c i)) : out = begs c := by
  refine List.ext_getElem (by rw [h.len, begs_len]) fun p h1 h2 => ?_
  have hp : p < c.procs.length := by rw [← h.len]; exact h1
  rw [nat0_get h1, nat0_get h2, begs_at hp]
  have key : ∀ {p : Nat} {o : Option Nat} {l : Nat}, LostM c (tK (effN c)) (tG (effN c)) p o l → l < 6 → match o with
      | none => (nat0 out p).testBit l = false
      | some i => LostP c (tK (effN c)) (tG (effN c)) p (fun l => (nat0 out p).testBit l = true) i l := fun {p o l} k => by
    induction k with
    | root hr => exact fun hl => h.root _ _ hr hl
    | @call p i l hu h0 ho _ ih =>
      intro hl
      have hil := (live_lt hc (by rw [hc.2.1.1]; exact hu.lt hc) h0).1
      simp only
      rw [← hs p i hu h0 ho, Nat.testBit_and, (flow_bit hil hl).2 (ih hl), Bool.and_false]
    | ent _ ih => exact fun hl => .ent (by have := ih hl; simp only at this; rw [this]; simp)
    | gen h0 hj h1 => exact fun hl => .gen h0 hj h1
    | pass h0 hj _ h2 ih => exact fun hl => .pass h0 hj (ih hl) h2
  refine eq_m6 (h.lt0 p) fun l hl => ⟨fun hb hn => ?_, fun hn => bit_of_not fun hb => hn (h.snd p l hp hl hb)⟩
  have := key hn hl
  simp only at this
  rw [this] at hb; cases hb
/-- what is held for sure at each place -/
noncomputable def mustAt (c : DCode) (i : Nat) : Nat := @ite _ (UsedP c (procOf c i).toNat) (Classical.propDecidable _) (nat0 (flowN c (effN c) (procOf c i).toNat (begN c (procOf c i).toNat)) i) 63
noncomputable def mustN (c : DCode) : List Nat := (List.range c.ins.length).map (mustAt c)
theorem mustN_len (c : DCode) : (mustN c).length = c.ins.length := by simp [mustN]
theorem mustN_at {c : DCode} {i : Nat} (hi : i < c.ins.length) : nat0 (mustN c) i = mustAt c i := by rw [← nat0_get (by rw [mustN_len]; exact hi)]; simp [mustN]
theorem nat0_lt {l : List Nat} (h : ∀ x ∈ l, x < 64) (i : Nat) : nat0 l i < 64 := by
  rcases Nat.lt_or_ge i l.length with hi | hi
  · exact h _ (nat0_mem hi)
  · unfold nat0; rw [List.getD_eq_getElem?_getD, List.getElem?_eq_none hi]; simp
theorem mustAt_lt (c : DCode) (i : Nat) : mustAt c i < 64 := by
  unfold mustAt
  split
  · exact nat0_lt flowN_lt i
  · omega
theorem mustN_lt (c : DCode) : ∀ x ∈ mustN c, x < 64 := fun x hx => by
  obtain ⟨i, _, rfl⟩ := List.mem_map.1 hx
  exact mustAt_lt c i
theorem mustAt_used {c : DCode} {i p : Nat} (hp : procOf c i = p) (hu : UsedP c p) : mustAt c i = nat0 (flowN c (effN c) p (begN c p)) i := by
  unfold mustAt
  rw [hp, Int.toNat_natCast, if_pos hu]
theorem mustAt_not {c : DCode} {i p : Nat} (hp : procOf c i = p) (hu : ¬ UsedP c p) : mustAt c i = 63 := by
  unfold mustAt
  rw [hp, Int.toNat_natCast, if_neg hu]
/-- where a thread may come to -/
inductive MetP (c : DCode) : Nat → Prop
  | root {p : Nat} (h : RootP c p) : MetP c (eN c p)
  | call {i : Nat} (h : MetP c i) (ho : (insAt c i).op = 4) : MetP c (eN c (agN c i))
  | next {i j : Nat} (h : MetP c i) (ho : ¬ (insAt c i).op = 4) (hj : j ∈ nextN c i) : MetP c j
  | back {i j : Nat} (h : MetP c i) (ho : (insAt c i).op = 4) (hz : MetP c (zN c (agN c i))) (hj : j ∈ nextN c i) : MetP c j
theorem MetP.lt {c : DCode} (hc : CodeR c) {i : Nat} (h : MetP c i) : i < c.ins.length := by
  induction h with
  | root h => exact (eN_eq hc (by rw [hc.2.1.1]; exact h.lt hc)).2.1
  | call _ ho ih => exact (eN_eq hc (by rw [hc.2.1.1]; exact (ag_proc hc ih (.inl ho)).2)).2.1
  | next _ _ hj ih => exact (nextN_lt hc ih hj).1
  | back _ _ _ hj ih _ => exact (nextN_lt hc ih hj).1
/-- which lock may be held there -/
inductive MayP (c : DCode) : Nat → Nat → Prop
  | lock {i j l : Nat} (h : MetP c i) (ho : (insAt c i).op = 6) (ha : agN c i = l) (hj : j ∈ nextN c i) : MayP c j l
  | pass {i j l : Nat} (h : MetP c i) (ho : ¬ (insAt c i).op = 4) (ha : ¬ ((insAt c i).op = 7 ∧ agN c i = l)) (hm : MayP c i l) (hj : j ∈ nextN c i) : MayP c j l
  | call {i l : Nat} (h : MetP c i) (ho : (insAt c i).op = 4) (hm : MayP c i l) : MayP c (eN c (agN c i)) l
  | back {i j l : Nat} (h : MetP c i) (ho : (insAt c i).op = 4) (hz : MetP c (zN c (agN c i))) (hm : MayP c (zN c (agN c i)) l) (hj : j ∈ nextN c i) : MayP c j l
noncomputable def metN (c : DCode) : List Bool := setB c.ins.length (MetP c)
noncomputable def mayN (c : DCode) : List Nat := (List.range c.ins.length).map fun i => m6 (MayP c i)
theorem mayN_len (c : DCode) : (mayN c).length = c.ins.length := by simp [mayN]
theorem mayN_at {c : DCode} {i : Nat} (hi : i < c.ins.length) : nat0 (mayN c) i = m6 (MayP c i) := by rw [← nat0_get (by rw [mayN_len]; exact hi)]; simp [mayN]
theorem mayN_lt (c : DCode) : ∀ x ∈ mayN c, x < 64 := fun x hx => by
  obtain ⟨i, _, rfl⟩ := List.mem_map.1 hx
  exact m6_lt
/-- closed under steps -/
structure MetC (c : DCode) (M : Nat → Prop) : Prop where
  root : ∀ p, RootP c p → M (eN c p)
  call : ∀ i, M i → (insAt c i).op = 4 → M (eN c (agN c i))
  next : ∀ i j, M i → ¬ (insAt c i).op = 4 → j ∈ nextN c i → M j
  back : ∀ i j, M i → (insAt c i).op = 4 → M (zN c (agN c i)) → j ∈ nextN c i → M j
theorem MetC.all {c : DCode} {M : Nat → Prop} (h : MetC c M) {i : Nat} (k : MetP c i) : M i := by
  induction k with
  | root h1 => exact h.root _ h1
  | call _ ho ih => exact h.call _ ih ho
  | next _ ho hj ih => exact h.next _ _ ih ho hj
  | back _ ho _ hj ih1 ih2 => exact h.back _ _ ih1 ho ih2 hj
structure MayC (c : DCode) (H : Nat → Nat → Prop) : Prop where
  lock : ∀ i j, MetP c i → (insAt c i).op = 6 → j ∈ nextN c i → H j (agN c i)
  pass : ∀ i j l, MetP c i → l < 6 → ¬ (insAt c i).op = 4 → ¬ ((insAt c i).op = 7 ∧ agN c i = l) → H i l → j ∈ nextN c i → H j l
  call : ∀ i l, MetP c i → l < 6 → (insAt c i).op = 4 → H i l → H (eN c (agN c i)) l
  back : ∀ i j l, MetP c i → l < 6 → (insAt c i).op = 4 → MetP c (zN c (agN c i)) → H (zN c (agN c i)) l → j ∈ nextN c i → H j l
theorem MayC.all {c : DCode} {H : Nat → Nat → Prop} (h : MayC c H) {i l : Nat} (hl : l < 6) (k : MayP c i l) : H i l := by
  induction k with
  | lock hm ho ha hj => exact ha ▸ h.lock _ _ hm ho hj
  | pass hm ho ha _ hj ih => exact h.pass _ _ _ hm hl ho ha (ih hl) hj
  | call hm ho _ ih => exact h.call _ _ hm hl ho (ih hl)
  | back hm ho hz _ hj ih => exact h.back _ _ _ hm hl ho hz (ih hl) hj
end Go.Proofs.YtjgfldfbljmhhaaGreat
namespace Go.Proofs.YtjgfldfbljmhhaaGreat
open Go Go.Sh Go.Proofs
set_option linter.unusedVariables false
/-- impl.behind -/
def F200 (a0 a1 a2 : Value) (w : World) (R : Value → World → Prop) : Prop :=
  OP Tryz.prog (Instr.box 136 a0) w fun x3 w =>
  RD Tryz.prog (Instr.fieldAt 136 x3 0) w fun x7 =>
  RD Tryz.prog (Instr.loadAt 3 x7) w fun x8 =>
  RD Tryz.prog (bin .eql 3 (.tmp 0) (.const undef) x8 (Value.int .i64 6)) w fun x10 =>
  BR x10
   (RD Tryz.prog (Instr.fieldAt 136 x3 1) w fun x12 =>
   RD Tryz.prog (Instr.loadAt 3 x12) w fun x13 =>
   RD Tryz.prog (convert 3 77 x13) w fun x14 =>
   RD Tryz.prog (bin .shl 3 (.const undef) (.tmp 0) (Value.int .i64 1) x14) w fun x15 =>
   RD Tryz.prog (bin .or 3 (.tmp 0) (.tmp 0) a2 x15) w fun x16 =>
   R x16 w)
   (RD Tryz.prog (bin .eql 3 (.tmp 0) (.const undef) x8 (Value.int .i64 7)) w fun x18 =>
   BR x18
    (RD Tryz.prog (Instr.fieldAt 136 x3 1) w fun x20 =>
    RD Tryz.prog (Instr.loadAt 3 x20) w fun x21 =>
    RD Tryz.prog (convert 3 77 x21) w fun x22 =>
    RD Tryz.prog (bin .shl 3 (.const undef) (.tmp 0) (Value.int .i64 1) x22) w fun x23 =>
    RD Tryz.prog (bin .andNot 3 (.tmp 0) (.tmp 0) a2 x23) w fun x24 =>
    R x24 w)
    (RD Tryz.prog (bin .eql 3 (.tmp 0) (.const undef) x8 (Value.int .i64 4)) w fun x26 =>
    BR x26
     ((fun w => RD Tryz.prog (Instr.fieldAt 136 x3 1) w fun x29 =>
     RD Tryz.prog (Instr.loadAt 3 x29) w fun x30 =>
     RD Tryz.prog (Instr.indexAt 126 a1 x30) w fun x31 =>
     RD Tryz.prog (Instr.fieldAt 195 x31 0) w fun x32 =>
     RD Tryz.prog (Instr.loadAt 3 x32) w fun x33 =>
     RD Tryz.prog (bin .and 3 (.tmp 0) (.tmp 0) a2 x33) w fun x34 =>
     RD Tryz.prog (Instr.fieldAt 136 x3 1) w fun x36 =>
     RD Tryz.prog (Instr.loadAt 3 x36) w fun x37 =>
     RD Tryz.prog (Instr.indexAt 126 a1 x37) w fun x38 =>
     RD Tryz.prog (Instr.fieldAt 195 x38 1) w fun x39 =>
     RD Tryz.prog (Instr.loadAt 3 x39) w fun x40 =>
     RD Tryz.prog (bin .or 3 (.tmp 0) (.tmp 0) x34 x40) w fun x41 =>
     R x41 w) (World.drew1 w))
     (R a2 w)))
def cfg200 : Cfg := { ext := extL, joins := [], loops := [], draws := [(7, [0, 1, 2, 3, 4, 5, 6, 7, 8, 9, 10, 11, 12, 13, 14, 15], 0)], pars := [] }
theorem F200_eq (a0 a1 a2 : Value) (w : World) (R : Value → World → Prop) : vcF Tryz.prog cfg200 Tryz.f200 [a0, a1, a2] w R = F200 a0 a1 a2 w R := by kernel_rfl
theorem F200_call {a0 a1 a2 : Value} {w : World} {R : Value → World → Prop} (h : F200 a0 a1 a2 w R) : CALL Tryz.prog 200 [a0, a1, a2] w R :=
  call_of (g := cfg200) ent mixed Tryz.func200 (Nat.le_of_ble_eq_true (by kernel_rfl)) (by kernel_rfl) (F200_eq a0 a1 a2 w R ▸ h)
/-- spec.l13Moved -/
def F187 (a0 a1 a2 : Value) (w : World) (R : Value → World → Prop) : Prop :=
  OP Tryz.prog (Instr.box 136 a0) w fun x3 w =>
  RD Tryz.prog (Instr.fieldAt 136 x3 0) w fun x7 =>
  RD Tryz.prog (Instr.loadAt 3 x7) w fun x8 =>
  RD Tryz.prog (bin .eql 3 (.tmp 0) (.const undef) x8 (Value.int .i64 6)) w fun x10 =>
  BR x10
   (RD Tryz.prog (Instr.fieldAt 136 x3 1) w fun x12 =>
   RD Tryz.prog (Instr.loadAt 3 x12) w fun x13 =>
   CALL Tryz.prog 119 [x13] w fun x14 w =>
   RD Tryz.prog (bin .or 3 (.tmp 0) (.tmp 0) a2 x14) w fun x15 =>
   R x15 w)
   (RD Tryz.prog (bin .eql 3 (.tmp 0) (.const undef) x8 (Value.int .i64 7)) w fun x17 =>
   BR x17
    (RD Tryz.prog (Instr.fieldAt 136 x3 1) w fun x19 =>
    RD Tryz.prog (Instr.loadAt 3 x19) w fun x20 =>
    CALL Tryz.prog 119 [x20] w fun x21 w =>
    CALL Tryz.prog 120 [a2, x21] w fun x22 w =>
    R x22 w)
    (RD Tryz.prog (bin .eql 3 (.tmp 0) (.const undef) x8 (Value.int .i64 4)) w fun x24 =>
    BR x24
     ((fun w => RD Tryz.prog (Instr.fieldAt 136 x3 1) w fun x27 =>
     RD Tryz.prog (Instr.loadAt 3 x27) w fun x28 =>
     RD Tryz.prog (Instr.indexAt 126 a1 x28) w fun x29 =>
     RD Tryz.prog (Instr.fieldAt 195 x29 0) w fun x30 =>
     RD Tryz.prog (Instr.loadAt 3 x30) w fun x31 =>
     RD Tryz.prog (bin .and 3 (.tmp 0) (.tmp 0) a2 x31) w fun x32 =>
     RD Tryz.prog (Instr.fieldAt 136 x3 1) w fun x34 =>
     RD Tryz.prog (Instr.loadAt 3 x34) w fun x35 =>
     RD Tryz.prog (Instr.indexAt 126 a1 x35) w fun x36 =>
     RD Tryz.prog (Instr.fieldAt 195 x36 1) w fun x37 =>
     RD Tryz.prog (Instr.loadAt 3 x37) w fun x38 =>
     RD Tryz.prog (bin .or 3 (.tmp 0) (.tmp 0) x32 x38) w fun x39 =>
     R x39 w) (World.drew1 w))
     (R a2 w)))
def cfg187 : Cfg := { ext := extL, joins := [], loops := [], draws := [(7, [0, 1, 2, 3, 4, 5, 6, 7, 8, 9, 10, 11, 12, 13, 14, 15], 0)], pars := [] }
theorem F187_eq (a0 a1 a2 : Value) (w : World) (R : Value → World → Prop) : vcF Tryz.prog cfg187 Tryz.f187 [a0, a1, a2] w R = F187 a0 a1 a2 w R := by kernel_rfl
theorem F187_call {a0 a1 a2 : Value} {w : World} {R : Value → World → Prop} (h : F187 a0 a1 a2 w R) : CALL Tryz.prog 187 [a0, a1, a2] w R :=
  call_of (g := cfg187) ent mixed Tryz.func187 (Nat.le_of_ble_eq_true (by kernel_rfl)) (by kernel_rfl) (F187_eq a0 a1 a2 w R ▸ h)
set_option linter.unusedVariables false
set_option linter.unusedSimpArgs false
open Rep (rep)
structure DEffect where
  keep : Int
  gen : Int
theorem DEffect.ext_iff {x y : DEffect} : x = y ↔ (x.keep = y.keep ∧ x.gen = y.gen) := ⟨fun h => by rw [h]; exact ⟨rfl, rfl⟩, fun h => by obtain ⟨h0, h1⟩ := h; cases x; cases y; simp only at h0 h1; simp only [h0, h1]⟩
instance : DecidableEq DEffect := fun x y => decidable_of_iff (x.keep = y.keep ∧ x.gen = y.gen) DEffect.ext_iff.symm
instance : Rep DEffect := Rep.via fun x => (x.keep, x.gen)
theorem at_DEffect_0 {w : World} {b o : Nat} {x : DEffect} (h : At w b o x) : At w b (o + 0) x.keep := at_fst (α := Int) (β := Int) (p := (x.keep, x.gen)) h
theorem at_DEffect_1 {w : World} {b o : Nat} {x : DEffect} (h : At w b o x) : At w b (o + 1) x.gen := at_snd (α := Int) (β := Int) (p := (x.keep, x.gen)) h
instance : RepZ DEffect := ⟨⟨(RepZ.zv : Int), (RepZ.zv : Int)⟩, RepZ.zc (Int × Int), fun w => RepZ.zr (α := Int × Int) w⟩
theorem lens_DEffect_1 {γ : Type} {H : List Nat → World → γ → Prop} {F : List Nat} {w : World} {b o : Nat} {G : List Nat} {x : DEffect} {upd : DEffect → γ} (h : Lens H F w b o G x upd) :
    ∃ G1, Lens H F w b (o + 1) G1 x.gen (fun y => upd ⟨x.keep, y⟩) := by
  have h' : Lens H F w b o G (x.keep, x.gen) (fun p : Int × Int => upd ⟨p.1, p.2⟩) := ⟨h.here, h.sub, fun w' G' y' hc hO hs => h.back w' G' _ hc hO hs⟩
  obtain ⟨G0, h'⟩ := h'.snd
  exact ⟨_, h'⟩
theorem mk_DEffect {w : World} {x : DEffect} (h_keep : I64 x.keep) (h_gen : I64 x.gen) : Mine [] w (.agg #[.int .i64 x.keep, .int .i64 x.gen]) x := ⟨⟨[.int .i64 x.keep, .int .i64 x.gen], ⟨[], [], [.int .i64 x.keep], [.int .i64 x.gen], rfl, rfl, ⟨rfl, rfl, h_keep⟩, ⟨rfl, rfl, h_gen⟩⟩, rfl⟩, List.nodup_nil, Wr.nil w⟩
instance : Flat DEffect := ⟨fun h => Flat.flat (α := Int × Int) h⟩
def eff1 (x : Nat × Nat) : DEffect := ⟨(x.1 : Int), (x.2 : Int)⟩
def effs (T : Tab) : List DEffect := T.map eff1
theorem effs_len (T : Tab) : (effs T).length = T.length := by simp [effs]
theorem effs_get {T : Tab} {q : Nat} (h : q < (effs T).length) : (effs T)[q] = eff1 (tbl T q) := by
  have h' : q < T.length := by rw [← effs_len]; exact h
  rw [← tbl_get h']; simp [effs]
theorem effs_set (T : Tab) (q : Nat) (v : Nat × Nat) : effs (T.set q v) = (effs T).set q (eff1 v) := by simp [effs, List.map_set]
theorem pow_lt6 {n : Nat} (h : n < 6) : 2 ^ n < 64 := Nat.pow_lt_pow_right (n := 6) (by omega) h
theorem FL.updM {c : DCode} {T : Tab} {p h m : Nat} {out : List Nat} (hF : FL c T p h out) (hc : CodeR c) (hp : p < c.entry.length) {i j : Nat} (hi : LiveP c p i) (hj : j ∈ nextN c i)
    (hm : ∀ l, l < 6 → m.testBit l = false → LostP c (tK T) (tG T) p (fun l => h.testBit l = true) i l) : FL c T p h (out.set j (nat0 out j &&& aft c T i m)) := by
  have hil := (live_lt hc hp hi).1
  have hjl := (nextN_lt hc hil hj).1
  refine ⟨by simp [hF.len], fun x hx => ?_, fun k l hk hl hb => ?_, fun l hl hb => ?_⟩
  · rcases mem_set hx with rfl | hx
    · exact Nat.lt_of_le_of_lt Nat.and_le_left (hF.lt0 j)
    · exact hF.lt x hx
  · rw [nat0_set (by rw [hF.len]; exact hjl)] at hb
    split at hb
    · rename_i e
      subst e
      rw [Nat.testBit_and, Bool.and_eq_false_iff] at hb
      rcases hb with hb | hb
      · exact hF.snd j l hk hl hb
      · rcases aft_bit.1 hb with h1 | ⟨h1, h2⟩
        · exact .gen hi hj h1
        · exact .pass hi hj (hm l hl h2) h1
    · exact hF.snd k l hk hl hb
  · rw [nat0_set (by rw [hF.len]; exact hjl)]
    split
    · rename_i e
      rw [Nat.testBit_and, e, hF.ent l hl hb]; rfl
    · exact hF.ent l hl hb
theorem behind_ok {w W0 W1 : World} {v0 v1 : Value} {c : DCode} {T : Tab} {i m : Nat} (h0 : Is W0 v0 (insAt c i)) (e0 : Ext W0 w) (h1 : Is W1 v1 (effs T)) (e1 : Ext W1 w) (hc : CodeR c) (hT : TabR c T) (hi : i < c.ins.length) (hm : m < 64) :
    CALL Tryz.prog 200 [v0, v1, .int .i64 (m : Int)] w fun r w' => Ext w w' ∧ r = .int .i64 (aft c T i m : Nat) := by
  refine F200_call ?_
  unfold F200
  refine op_box h0 e0 fun w1 hx1 hA => ?_
  have hag4 := fun h => ag_proc hc hi (.inl h)
  have hag6 := fun h => ag_lock hc hi h
  have h8 := hc.1.procs8
  have haft : aft c T i m = if (insAt c i).op = 6 then m ||| 2 ^ agN c i else if (insAt c i).op = 7 then andN m (2 ^ agN c i) else if (insAt c i).op = 4 then (m &&& (tbl T (agN c i)).1) ||| (tbl T (agN c i)).2 else m := rfl
  rw [haft]
  clear haft
  generalize agN c i = q at *
  generalize insAt c i = I at *
  refine rd_fld fd136_0 ?_
  refine rd_loadI ty3 (at_DIns_0 hA) (Ext.refl _) fun _ => ?_
  refine rd_eql ?_
  refine br (fun c6 => ?_) (fun c6 => ?_)
  · obtain ⟨ha, _, hq⟩ := hag6 (.inl c6)
    have hp := pow_lt6 hq
    rw [if_pos c6]
    refine rd_fld fd136_1 ?_
    refine rd_loadI ty3 (at_DIns_1 hA) (Ext.refl _) fun _ => ?_
    rw [ha]
    refine rd_uint (by kernel_rfl) u77 (by omega) ?_
    refine rd_shl1 (by omega) ?_
    refine rd_or (by omega) (by omega) ?_
    exact ⟨hx1, rfl⟩
  rw [if_neg c6]
  refine rd_eql ?_
  refine br (fun c7 => ?_) (fun c7 => ?_)
  · obtain ⟨ha, _, hq⟩ := hag6 (.inr c7)
    have hp := pow_lt6 hq
    rw [if_pos c7]
    refine rd_fld fd136_1 ?_
    refine rd_loadI ty3 (at_DIns_1 hA) (Ext.refl _) fun _ => ?_
    rw [ha]
    refine rd_uint (by kernel_rfl) u77 (by omega) ?_
    refine rd_shl1 (by omega) ?_
    refine rd_andNot (by omega) (by omega) ?_
    exact ⟨hx1, rfl⟩
  rw [if_neg c7]
  refine rd_eql ?_
  refine br (fun c4 => ?_) (fun c4 => ?_)
  · obtain ⟨ha, hq⟩ := hag4 c4
    rw [if_pos c4]
    have hx2 := ext_drew w1
    generalize World.drew1 w1 = w2 at *
    have hql : q < (effs T).length := by rw [effs_len, hT.1]; exact hq
    have hr := hT.2 q
    have hx12 := hx1.trans hx2
    refine rd_fld fd136_1 ?_
    refine rd_loadI ty3 (at_DIns_1 hA) hx2 fun _ => ?_
    rw [ha]
    refine rd_indexN u126 ty195 h1 hql fun b1 o1 hE => ?_
    rw [effs_get] at hE
    refine rd_fld fd195_0 ?_
    refine rd_loadI ty3 (at_DEffect_0 hE) (e1.trans hx12) fun _ => ?_
    refine rd_and (n := (tbl T q).1) (by omega) (by omega) ?_
    refine rd_fld fd136_1 ?_
    refine rd_loadI ty3 (at_DIns_1 hA) hx2 fun _ => ?_
    rw [ha]
    refine rd_indexN u126 ty195 h1 hql fun b2 o2 hE2 => ?_
    rw [effs_get] at hE2
    refine rd_fld fd195_1 ?_
    refine rd_loadI ty3 (at_DEffect_1 hE2) (e1.trans hx12) fun _ => ?_
    have := Nat.and_le_left (n := m) (m := (tbl T q).1)
    refine rd_or (n := (tbl T q).2) (by omega) (by omega) ?_
    exact ⟨hx12, rfl⟩
  · rw [if_neg c4]
    exact ⟨hx1, rfl⟩
/-- spec.Without -/
def F120 (a0 a1 : Value) (w : World) (R : Value → World → Prop) : Prop :=
  CALL Tryz.prog 123 [a0] w fun x6 w =>
  RD Tryz.prog (Op.unary .not x6) w fun x7 =>
  BR x7
  (R (Value.int .i64 0) w)
  (CALL Tryz.prog 123 [a1] w fun x10 w =>
  RD Tryz.prog (Op.unary .not x10) w fun x11 =>
  BR x11
   (R (Value.int .i64 0) w)
   (RD Tryz.prog (bin .sub 3 (.const undef) (.tmp 0) (Value.int .i64 63) a1) w fun x15 =>
   RD Tryz.prog (bin .and 3 (.tmp 0) (.tmp 0) a0 x15) w fun x16 =>
   R x16 w))
def cfg120 : Cfg := { ext := extL, joins := [], loops := [], draws := [], pars := [] }
theorem F120_eq (a0 a1 : Value) (w : World) (R : Value → World → Prop) : vcF Tryz.prog cfg120 Tryz.f120 [a0, a1] w R = F120 a0 a1 w R := by kernel_rfl
theorem F120_call {a0 a1 : Value} {w : World} {R : Value → World → Prop} (h : F120 a0 a1 w R) : CALL Tryz.prog 120 [a0, a1] w R :=
  call_of (g := cfg120) ent mixed Tryz.func120 (Nat.le_of_ble_eq_true (by kernel_rfl)) (by kernel_rfl) (F120_eq a0 a1 w R ▸ h)
theorem without_ok {w : World} {a : Nat} {b : Nat}   (ha : a < 64) (hb : b < 64) :
    CALL Tryz.prog 120 [.int .i64 (a : Int), .int .i64 (b : Int)] w fun r w' => Ext w w' ∧ (r = .int .i64 ((a &&& (63 - b) : Nat) : Int)) := by
  refine F120_call ?_
  unfold F120
  refine (l12Ok_ok ).mono ?_
  rintro _ w1_ ⟨hx1_, rfl⟩
  refine rd_nodec ?_
  refine br (fun c1 => ?_) (fun c1 => ?_)
  · refine ⟨hx1_, ?_⟩
    first | rfl | (exfalso; omega)
  · refine (l12Ok_ok ).mono ?_
    rintro _ w2_ ⟨hx2_, rfl⟩
    refine rd_nodec ?_
    refine br (fun c2 => ?_) (fun c2 => ?_)
    · refine ⟨(hx1_.trans hx2_), ?_⟩
      first | rfl | (exfalso; omega)
    · have e63 : (63 : Int) - (b : Int) = ((63 - b : Nat) : Int) := by omega
      refine rd_sub (by unfold I64; omega) ?_
      rw [e63]
      refine rd_and (by omega) (by omega) ?_
      refine ⟨(hx1_.trans hx2_), ?_⟩
      first | rfl | (exfalso; omega)
theorem without_and {a b : Nat} (ha : a < 64) (hb : b < 64) : a &&& (63 - b) = andN a b := by
  refine Nat.eq_of_testBit_eq fun l => ?_
  rw [Nat.testBit_and, andN_bit]
  cases h : a.testBit l
  · rfl
  have hl := bit_lt6 ha h
  have := Nat.testBit_two_pow_sub_succ (n := 6) (x := b) hb l
  rw [show 2 ^ 6 - (b + 1) = 63 - b by omega] at this
  rw [this, decide_eq_true hl, Bool.true_and]
theorem l13Moved_ok {w W0 W1 : World} {v0 v1 : Value} {c : DCode} {T : Tab} {i m : Nat} (h0 : Is W0 v0 (insAt c i)) (e0 : Ext W0 w) (h1 : Is W1 v1 (effs T)) (e1 : Ext W1 w) (hc : CodeR c) (hT : TabR c T) (hi : i < c.ins.length) (hm : m < 64) :
    CALL Tryz.prog 187 [v0, v1, .int .i64 (m : Int)] w fun r w' => Ext w w' ∧ r = .int .i64 (aft c T i m : Nat) := by
  refine F187_call ?_
  unfold F187
  refine op_box h0 e0 fun w1 hx1 hA => ?_
  have hag4 := fun h => ag_proc hc hi (.inl h)
  have hag6 := fun h => ag_lock hc hi h
  have h8 := hc.1.procs8
  have haft : aft c T i m = if (insAt c i).op = 6 then m ||| 2 ^ agN c i else if (insAt c i).op = 7 then andN m (2 ^ agN c i) else if (insAt c i).op = 4 then (m &&& (tbl T (agN c i)).1) ||| (tbl T (agN c i)).2 else m := rfl
  rw [haft]
  clear haft
  generalize agN c i = q at *
  generalize insAt c i = I at *
  refine rd_fld fd136_0 ?_
  refine rd_loadI ty3 (at_DIns_0 hA) (Ext.refl _) fun _ => ?_
  refine rd_eql ?_
  refine br (fun c6 => ?_) (fun c6 => ?_)
  · obtain ⟨ha, _, hq⟩ := hag6 (.inl c6)
    have hp := pow_lt6 hq
    rw [if_pos c6]
    refine rd_fld fd136_1 ?_
    refine rd_loadI ty3 (at_DIns_1 hA) (Ext.refl _) fun _ => ?_
    rw [ha]
    refine (l12Bit_ok (by omega)).mono ?_
    rintro _ w2 ⟨hx2, rfl⟩
    refine rd_or (by omega) (by omega) ?_
    exact ⟨hx1.trans hx2, rfl⟩
  rw [if_neg c6]
  refine rd_eql ?_
  refine br (fun c7 => ?_) (fun c7 => ?_)
  · obtain ⟨ha, _, hq⟩ := hag6 (.inr c7)
    have hp := pow_lt6 hq
    rw [if_pos c7]
    refine rd_fld fd136_1 ?_
    refine rd_loadI ty3 (at_DIns_1 hA) (Ext.refl _) fun _ => ?_
    rw [ha]
    refine (l12Bit_ok (by omega)).mono ?_
    rintro _ w2 ⟨hx2, rfl⟩
    refine (without_ok hm hp).mono ?_
    rintro _ w3 ⟨hx3, rfl⟩
    exact ⟨(hx1.trans hx2).trans hx3, by rw [without_and hm hp]⟩
  rw [if_neg c7]
  refine rd_eql ?_
  refine br (fun c4 => ?_) (fun c4 => ?_)
  · obtain ⟨ha, hq⟩ := hag4 c4
    rw [if_pos c4]
    have hx2 := ext_drew w1
    generalize World.drew1 w1 = w2 at *
    have hql : q < (effs T).length := by rw [effs_len, hT.1]; exact hq
    have hr := hT.2 q
    have hx12 := hx1.trans hx2
    refine rd_fld fd136_1 ?_
    refine rd_loadI ty3 (at_DIns_1 hA) hx2 fun _ => ?_
    rw [ha]
    refine rd_indexN u126 ty195 h1 hql fun b1 o1 hE => ?_
    rw [effs_get] at hE
    refine rd_fld fd195_0 ?_
    refine rd_loadI ty3 (at_DEffect_0 hE) (e1.trans hx12) fun _ => ?_
    refine rd_and (n := (tbl T q).1) (by omega) (by omega) ?_
    refine rd_fld fd136_1 ?_
    refine rd_loadI ty3 (at_DIns_1 hA) hx2 fun _ => ?_
    rw [ha]
    refine rd_indexN u126 ty195 h1 hql fun b2 o2 hE2 => ?_
    rw [effs_get] at hE2
    refine rd_fld fd195_1 ?_
    refine rd_loadI ty3 (at_DEffect_1 hE2) (e1.trans hx12) fun _ => ?_
    have := Nat.and_le_left (n := m) (m := (tbl T q).1)
    refine rd_or (n := (tbl T q).2) (by omega) (by omega) ?_
    exact ⟨hx12, rfl⟩
  · rw [if_neg c4]
    exact ⟨hx1, rfl⟩
end Go.Proofs.YtjgfldfbljmhhaaGreat
namespace Go.Proofs.YtjgfldfbljmhhaaGreat
open Go Go.Sh Go.Proofs
set_option linter.unusedVariables false
/-- (*impl.world).liveOf -/
def F194 (a0 a1 : Value) (w : World) (R : Value → World → Prop) : Prop :=
  NIL a0 <|
  RD Tryz.prog (Instr.fieldAt 144 a0 0) w fun x9 =>
  RD Tryz.prog (Instr.fieldAt 35 x9 3) w fun x10 =>
  RD Tryz.prog (Instr.loadAt 23 x10) w fun x11 =>
  RD Tryz.prog (Instr.indexAt 23 x11 a1) w fun x13 =>
  RD Tryz.prog (Instr.loadAt 3 x13) w fun x14 =>
  LOOPI [5, 6] [(Value.slice none 0 0), x14] w fun u3 w next3 =>
   NIL a0 <|
   RD Tryz.prog (Instr.fieldAt 144 a0 0) w fun x18 =>
   RD Tryz.prog (Instr.loadAt 35 x18) w fun x19 =>
   CALL Tryz.prog 133 [x19, a1] w fun x21 w =>
   RD Tryz.prog (bin .lss 3 (.tmp 0) (.tmp 0) (u3 6) x21) w fun x22 =>
   BR x22
    (NIL a0 <|
    RD Tryz.prog (Instr.fieldAt 144 a0 1) w fun x27 =>
    RD Tryz.prog (Instr.loadAt 72 x27) w fun x28 =>
    RD Tryz.prog (Instr.indexAt 72 x28 (u3 6)) w fun x30 =>
    RD Tryz.prog (Instr.loadAt 4 x30) w fun x31 =>
    BR x31
     (OP Tryz.prog (Instr.buildSlice 23 1 #[(0, (u3 6))]) w fun x34 w =>
     OP Tryz.prog (Builtin.append_ #[23, 23] 23 [(u3 5), x34].toArray) w fun x35 w =>
     RD Tryz.prog (bin .add 3 (.tmp 0) (.const undef) (u3 6) (Value.int .i64 1)) w fun x24 =>
     next3 [x35, x24] w)
     (RD Tryz.prog (bin .add 3 (.tmp 0) (.const undef) (u3 6) (Value.int .i64 1)) w fun x24 =>
     next3 [(u3 5), x24] w))
    (R (u3 5) w)
def cfg194 : Cfg := { ext := extL, joins := [], loops := [(3, 68719444064, [5, 6])], draws := [], pars := [] }
theorem F194_eq (a0 a1 : Value) (w : World) (R : Value → World → Prop) : vcF Tryz.prog cfg194 Tryz.f194 [a0, a1] w R = F194 a0 a1 w R := by kernel_rfl
theorem F194_call {a0 a1 : Value} {w : World} {R : Value → World → Prop} (h : F194 a0 a1 w R) : CALL Tryz.prog 194 [a0, a1] w R :=
  call_of (g := cfg194) ent mixed Tryz.func194 (Nat.le_of_ble_eq_true (by kernel_rfl)) (by kernel_rfl) (F194_eq a0 a1 w R ▸ h)
/-- (*impl.world).flow -/
def F132 (a0 a1 a2 a3 : Value) (w : World) (R : Value → World → Prop) : Prop :=
  NIL a0 <|
  RD Tryz.prog (Instr.fieldAt 144 a0 0) w fun x20 =>
  RD Tryz.prog (Instr.fieldAt 35 x20 4) w fun x21 =>
  RD Tryz.prog (Instr.loadAt 33 x21) w fun x22 =>
  RD Tryz.prog (Builtin.len_ #[33] 3 [x22].toArray) w fun x23 =>
  OP Tryz.prog (Instr.makeSlice 23 x23 x23) w fun x24 w =>
  RD Tryz.prog (Builtin.len_ #[23] 3 [x24].toArray) w fun x26 =>
  LOOPI [27] [(Value.int .i64 0)] w fun u3 w next3 =>
   RD Tryz.prog (bin .lss 3 (.tmp 0) (.tmp 0) (u3 27) x26) w fun x28 =>
   BR x28
    (RD Tryz.prog (Instr.indexAt 23 x24 (u3 27)) w fun x32 =>
    OPU Tryz.prog (Instr.storeAt 3 x32 (Value.int .i64 63)) w fun w =>
    RD Tryz.prog (bin .add 3 (.tmp 0) (.const undef) (u3 27) (Value.int .i64 1)) w fun x33 =>
    next3 [x33] w)
    (NIL a0 <|
    RD Tryz.prog (Instr.fieldAt 144 a0 0) w fun x37 =>
    RD Tryz.prog (Instr.fieldAt 35 x37 3) w fun x38 =>
    RD Tryz.prog (Instr.loadAt 23 x38) w fun x39 =>
    RD Tryz.prog (Instr.indexAt 23 x39 a2) w fun x41 =>
    RD Tryz.prog (Instr.loadAt 3 x41) w fun x42 =>
    RD Tryz.prog (Instr.indexAt 23 x24 x42) w fun x44 =>
    OPU Tryz.prog (Instr.storeAt 3 x44 a3) w fun w =>
    CALL Tryz.prog 194 [a0, a2] w fun x47 w =>
    LOOPI [12] [(Value.bool true)] w fun u10 w next10 =>
     BR (u10 12)
      (RD Tryz.prog (Builtin.len_ #[23] 3 [x47].toArray) w fun x50 =>
      LOOPI [12, 51] [(Value.bool false), (Value.int .i64 0)] w fun u13 w next13 =>
       RD Tryz.prog (bin .lss 3 (.tmp 0) (.tmp 0) (u13 51) x50) w fun x52 =>
       BR x52
        (RD Tryz.prog (Instr.indexAt 23 x47 (u13 51)) w fun x53 =>
        RD Tryz.prog (Instr.loadAt 3 x53) w fun x54 =>
        (fun w => NIL a0 <|
        RD Tryz.prog (Instr.fieldAt 144 a0 0) w fun x57 =>
        RD Tryz.prog (Instr.fieldAt 35 x57 4) w fun x58 =>
        RD Tryz.prog (Instr.loadAt 33 x58) w fun x59 =>
        RD Tryz.prog (Instr.indexAt 33 x59 x54) w fun x61 =>
        RD Tryz.prog (Instr.loadAt 136 x61) w fun x62 =>
        RD Tryz.prog (Instr.indexAt 23 x24 x54) w fun x66 =>
        RD Tryz.prog (Instr.loadAt 3 x66) w fun x67 =>
        CALL Tryz.prog 200 [x62, a1, x67] w fun x68 w =>
        CALL Tryz.prog 135 [a0, x54] w fun x71 w =>
        RD Tryz.prog (Builtin.len_ #[23] 3 [x71].toArray) w fun x72 =>
        LOOPI [12, 73] [(u13 12), (Value.int .i64 0)] w fun u17 w next17 =>
         RD Tryz.prog (bin .lss 3 (.tmp 0) (.tmp 0) (u17 73) x72) w fun x74 =>
         BR x74
          (RD Tryz.prog (Instr.indexAt 23 x71 (u17 73)) w fun x75 =>
          RD Tryz.prog (Instr.loadAt 3 x75) w fun x76 =>
          (fun w => RD Tryz.prog (Instr.indexAt 23 x24 x76) w fun x79 =>
          RD Tryz.prog (Instr.loadAt 3 x79) w fun x80 =>
          RD Tryz.prog (bin .and 3 (.tmp 0) (.tmp 0) x80 x68) w fun x82 =>
          RD Tryz.prog (Instr.indexAt 23 x24 x76) w fun x85 =>
          RD Tryz.prog (Instr.loadAt 3 x85) w fun x86 =>
          RD Tryz.prog (bin .neq 3 (.tmp 0) (.tmp 0) x82 x86) w fun x87 =>
          BR x87
           (RD Tryz.prog (Instr.indexAt 23 x24 x76) w fun x90 =>
           RD Tryz.prog (Instr.loadAt 3 x90) w fun x91 =>
           RD Tryz.prog (bin .and 3 (.tmp 0) (.tmp 0) x91 x68) w fun x93 =>
           RD Tryz.prog (Instr.indexAt 23 x24 x76) w fun x94 =>
           OPU Tryz.prog (Instr.storeAt 3 x94 x93) w fun w =>
           RD Tryz.prog (bin .add 3 (.tmp 0) (.const undef) (u17 73) (Value.int .i64 1)) w fun x95 =>
           next17 [(Value.bool true), x95] w)
           (RD Tryz.prog (bin .add 3 (.tmp 0) (.const undef) (u17 73) (Value.int .i64 1)) w fun x95 =>
           next17 [(u17 12), x95] w)) (World.drew1 w))
          (RD Tryz.prog (bin .add 3 (.tmp 0) (.const undef) (u13 51) (Value.int .i64 1)) w fun x96 =>
          next13 [(u17 12), x96] w)) (World.drew1 w))
        (next10 [(u13 12)] w))
      (R x24 w))
def cfg132 : Cfg := { ext := extL, joins := [], loops := [(3, 17045652480, [27]), (10, 158456325028528393712111374336, [12]), (13, 158456325028526423387274399744, [12, 51]), (17, 79228153069531371854253658112, [12, 73])], draws := [(15, [0, 1, 2, 3, 4, 5, 6, 7, 8, 9, 10, 11, 12, 13, 14], 0), (19, [0, 1, 2, 3, 4, 5, 6, 7, 8, 9, 10], 0)], pars := [] }
theorem F132_eq (a0 a1 a2 a3 : Value) (w : World) (R : Value → World → Prop) : vcF Tryz.prog cfg132 Tryz.f132 [a0, a1, a2, a3] w R = F132 a0 a1 a2 a3 w R := by kernel_rfl
theorem F132_call {a0 a1 a2 a3 : Value} {w : World} {R : Value → World → Prop} (h : F132 a0 a1 a2 a3 w R) : CALL Tryz.prog 132 [a0, a1, a2, a3] w R :=
  call_of (g := cfg132) ent mixed Tryz.func132 (Nat.le_of_ble_eq_true (by kernel_rfl)) (by kernel_rfl) (F132_eq a0 a1 a2 a3 w R ▸ h)
set_option linter.unusedVariables false
set_option linter.unusedSimpArgs false
open Rep (rep)
/-- what is met of whatever procedure -/
def AllLive (c : DCode) (i : Nat) : Prop := ∃ p, p < c.procs.length ∧ LiveP c p i
/-- the program's world of a code, as far as it is known at once -/
structure WL (W0 : World) (b : Nat) (c : DCode) : Prop where
  code : At W0 b 0 c
  live : At W0 b (0 + 5) (setB c.ins.length (AllLive c))
theorem setL_more {n m : Nat} {p : Nat → Prop} (h : n ≤ m) (hp : ∀ i, n ≤ i → i < m → ¬ p i) : setL m p = setL n p := by
  induction m with
  | zero => have : n = 0 := by omega
            subst this; rfl
  | succ m ih =>
    by_cases e : n = m + 1
    · rw [e]
    · rw [setL_no (hp m (by omega) (by omega)), ih (by omega) fun i h1 h2 => hp i h1 (by omega)]
theorem liveOf_ok {w W0 : World} {b p : Nat} {c : DCode} (hW : WL W0 b c) (e0 : Ext W0 w) (hc : CodeR c) (hp : p < c.procs.length) :
    CALL Tryz.prog 194 [.pointer (some ⟨b, 0, none⟩), .int .i64 (p : Int)] w fun r w' => Ext w w' ∧ Own w.heap.size w' r (ints (setL c.ins.length (LiveP c p))) := by
  refine F194_call ?_
  unfold F194
  have hpe : p < c.entry.length := by rw [hc.2.1.1]; exact hp
  have hil := hc.f.ins
  have h8 := hc.1.procs8
  obtain ⟨he1, he2, he3⟩ := eN_eq hc hpe
  obtain ⟨hz1, hz2, hz3⟩ := zN_eq hc hpe
  have hlv : ∀ i, LiveP c p i → eN c p ≤ i ∧ i ≤ zN c p := fun i h => by
    have := live_lt hc hpe h
    exact in_proc hc this.1 hpe this.2
  refine NIL.mk rfl ?_
  refine rd_fld fd144_0 ?_
  refine rd_fld fd35_3 ?_
  refine rd_load ty23 (at_DCode_3 hW.code) e0 fun v11 h11 => ?_
  refine rd_indexN u23 ty3 h11 hpe fun b1 o1 hA1 => ?_
  rw [en_get hpe, he1] at hA1
  refine rd_loadI ty3 hA1 e0 fun _ => ?_
  generalize hE : eN c p = E at *
  generalize hZ : zN c p = Z at *
  have h0 : setL E (LiveP c p) = [] := by
    rw [setL_more (n := 0) (Nat.zero_le _) fun i _ h2 h3 => by have := hlv i h3; omega]; rfl
  refine loopC (Z + 1 - E) (fun k us w' => ∃ (v : Value), us = [v, .int .i64 ((E + k : Nat) : Int)] ∧ E + k ≤ Z + 1 ∧ Ext w w' ∧ RowI w.heap.size w'.heap.size 3 w' v (ints (setL (E + k) (LiveP c p)))) 0 (Nat.zero_le _) ⟨_, rfl, by omega, Ext.refl _, by rw [Nat.add_zero, h0]; exact rowI_nil _ _ _ _⟩ ?_
  rintro k mk u w2 hkm ⟨v, hu, hkl, hx2, hr2⟩
  simp only [List.map_cons, List.map_nil, List.cons.injEq, and_true] at hu
  obtain ⟨hu1, hu2⟩ := hu
  rw [hu1, hu2]
  have hx02 := e0.trans hx2
  have hs2 := hx2.size
  refine NIL.mk rfl ?_
  refine rd_fld fd144_0 ?_
  refine rd_load ty35 hW.code hx02 fun v19 h19 => ?_
  refine (endOfProc_ok h19 hx02 (by omega)).mono ?_
  rintro _ w3 ⟨hx3, rfl⟩
  rw [hz1]
  have hx03 := hx02.trans hx3
  refine rd_lss ?_
  refine br (fun hlt => ?_) (fun hge => ?_)
  case refine_2 =>
    have hk : E + k = Z + 1 := by omega
    refine ⟨hx2.trans hx3, ?_⟩
    rw [setL_more (n := Z + 1) (by omega) fun i h1 _ h3 => by have := hlv i h3; omega, ← hk]
    exact (hr2.ext hx3).own.own
  have hk : E + k < c.ins.length := by omega
  refine NIL.mk rfl ?_
  refine rd_fld fd144_1 ?_
  refine rd_load ty72 hW.live hx03 fun v28 h28 => ?_
  refine rd_indexN u72 ty4 (i := E + k) h28 (by rw [setB_len]; exact hk) fun b2 o2 hA2 => ?_
  refine rd_loadB ty4 hA2 hx03 ?_
  have hmk := mkd_setB (n := c.ins.length) (p := AllLive c) (i := E + k)
  rw [mkd_get (by rw [setB_len]; exact hk)] at hmk
  have hiff : AllLive c (E + k) ↔ LiveP c p (E + k) := by
    constructor
    · rintro ⟨q, hq, hl⟩
      have h1 := live_lt hc (by rw [hc.2.1.1]; exact hq) hl
      have h2 := proc_in hc (p := p) (i := E + k) hpe (by omega) (by omega)
      have : q = p := by omega
      rwa [this] at hl
    · exact fun h => ⟨p, hp, h⟩
  have hsl := setL_len (n := E + k) (p := LiveP c p)
  refine br_b (fun hf => ?_) (fun hf => ?_)
  · refine op_push (lo2 := w3.heap.size) (hi2 := w3.heap.size) (x := ((E + k : Nat) : Int)) u23 ty3 z3 zc3 (by decide) (hr2.ext hx3) (by have := hx3.size; omega) (ownI_int _ _ (by unfold I64; omega)) (by have := hx3.size; omega) (by have := hx3.size; omega) (by rw [maxLen_eq, ints_len]; omega) (by rw [ints_len]; omega) fun v54 w9 hc9 hr9 => ?_
    refine rd_inc (by omega) ?_
    refine ⟨mk - 1, by omega, k + 1, by omega, v54, rfl, by omega, (hx2.trans hx3).chgI hc9 (by omega), ?_⟩
    rw [← Nat.add_assoc, setL_yes (hiff.1 (hmk.1 hf).2), ints_append]
    exact hr9
  · refine rd_inc (by omega) ?_
    refine ⟨mk - 1, by omega, k + 1, by omega, v, rfl, by omega, hx2.trans hx3, ?_⟩
    rw [← Nat.add_assoc, setL_no fun h => by rw [hmk.2 ⟨hk, hiff.2 h⟩] at hf; cases hf]
    exact (hr2.ext hx3).mono (Nat.le_refl _) hx3.size
/-- a new list of numbers -/
theorem op_makeI {w : World} {n : Nat} {K : Value → World → Prop} (h0 : 0 < n) (hn : n ≤ 1000000)
    (k : ∀ w', Ext w w' → Mine [w.heap.size] w' (.slice (some ⟨w.heap.size, 0, none⟩) n n) (ints (List.replicate n 0)) → K (.slice (some ⟨w.heap.size, 0, none⟩) n n) w') : OP Tryz.prog (Instr.makeSlice 23 (.int .i64 (n : Int)) (.int .i64 (n : Int))) w K :=
  op_makeZ (α := Int) u23 ty3 rfl rfl zlIf (by omega) (by omega) fun w2 hx2 hr2 => by
    refine k w2 hx2 ?_
    obtain ⟨F, hM, hF⟩ := hr2.own
    obtain ⟨b, o, cap, hv, hF2⟩ := flat_one hM (by intro e; have := congrArg List.length e; simp at this; omega)
    simp only [Value.slice.injEq, Option.some.injEq, Addr.mk.injEq, List.cons.injEq, and_true] at hv
    obtain ⟨⟨hb, ho⟩, _⟩ := hv
    rw [← hb] at hF2
    rw [hF2] at hM
    have e : ints (List.replicate n 0) = List.replicate n (RepZ.zv : Int) := by simp only [ints, List.map_replicate]; rfl
    rw [e]; exact hM
theorem rd_lenX {P : Program} {w : World} {K : Value → Prop} {t ty e : TypeId} {a : Option Addr} {n c : Nat} (ht : P.underlying t = some (.slice e)) (k : K (.int .i64 (n : Int))) :
    RD P (Builtin.len_ #[t] ty [Value.slice a n c].toArray) w K := rd_of (fun w' _ => by simp [Builtin.len_, run_underlying ht]; rfl) k
/-- a list of numbers of one's own in block g -/
structure FW (w1 w : World) (g n : Nat) (out : List Nat) : Prop where
  ext : Ext w1 w
  mine : Mine [g] w (.slice (some ⟨g, 0, none⟩) n n) (ints out)
  g0 : w1.heap.size ≤ g
section
variable {w1 w w' : World} {g n : Nat} {out : List Nat}
theorem FW.step (h : FW w1 w g n out) (hx : Ext w w') : FW w1 w' g n out := ⟨h.ext.trans hx, h.mine.ext hx, h.g0⟩
theorem chg_one (hc : Chg [g] w w') : ChgI g (g + 1) w w' := hc.toI fun b hb => by simp only [List.mem_cons, List.not_mem_nil, or_false] at hb; omega
theorem FW.set {i v : Nat} (h : FW w1 w g n out) (hc : Chg [g] w w') (hm : Mine [g] w' (.slice (some ⟨g, 0, none⟩) n n) ((ints out).set i (v : Int))) : FW w1 w' g n (out.set i v) :=
  ⟨h.ext.chgI (chg_one hc) h.g0, by rw [ints_set]; exact hm, h.g0⟩
theorem FW.lt (h : FW w1 w g n out) : g < w.heap.size := h.mine.lt g (by simp)
theorem FW.own (h : FW w1 w g n out) : Own w1.heap.size w (.slice (some ⟨g, 0, none⟩) n n) (ints out) := ⟨[g], h.mine, fun b hb => by simp only [List.mem_cons, List.not_mem_nil, or_false] at hb; have := h.g0; omega⟩
end
theorem mine_nat {w : World} {v : Nat} (h : v < 9223372036854775808) : Mine [] w (.int .i64 (v : Int)) (v : Int) := mine_int (by unfold I64; omega)
/-- filled up to k -/
def fil (n k : Nat) : List Nat := List.replicate k 63 ++ List.replicate (n - k) 0
theorem fil_len {n k : Nat} (h : k ≤ n) : (fil n k).length = n := by simp [fil]; omega
theorem fil_set {n k : Nat} (h : k < n) : (fil n k).set k 63 = fil n (k + 1) := by
  obtain ⟨m, hm⟩ : ∃ m, n - k = m + 1 := ⟨n - k - 1, by omega⟩
  unfold fil
  rw [List.set_append_right _ _ (by simp), hm, List.length_replicate, Nat.sub_self, List.replicate_succ, List.set_cons_zero, List.replicate_succ', show n - (k + 1) = m by omega]
  simp
theorem fil_full (n : Nat) : fil n n = List.replicate n 63 := by simp [fil]
/-- a round under way: k of the places are done -/
structure FP (c : DCode) (T : Tab) (p h : Nat) (out0 L : List Nat) (k : Nat) (ag : Bool) (out : List Nat) : Prop where
  fl : FL c T p h out
  yes : ag = true → out.sum < out0.sum
  no : ag = false → out = out0 ∧ ∀ i ∈ L.take k, Shut c T out0 i
structure FQ (c : DCode) (T : Tab) (p h : Nat) (out0 L : List Nat) (k i q : Nat) (ag : Bool) (out : List Nat) : Prop where
  fl : FL c T p h out
  yes : ag = true → out.sum < out0.sum
  no : ag = false → out = out0 ∧ (∀ i ∈ L.take k, Shut c T out0 i) ∧ ∀ j ∈ (nextN c i).take q, nat0 out0 j &&& aft c T i (nat0 out0 i) = nat0 out0 j
section
variable {c : DCode} {T : Tab} {p h k i q m : Nat} {out0 L out : List Nat} {ag : Bool}
theorem FP.enter (H : FP c T p h out0 L k ag out) (i : Nat) : FQ c T p h out0 L k i 0 ag out := ⟨H.fl, H.yes, fun e => ⟨(H.no e).1, (H.no e).2, by simp⟩⟩
theorem FQ.set (H : FQ c T p h out0 L k i q ag out) (hc : CodeR c) (hp : p < c.entry.length) (hi : LiveP c p i) (hq : q < (nextN c i).length) (hm : ∀ l, l < 6 → m.testBit l = false → LostP c (tK T) (tG T) p (fun l => h.testBit l = true) i l)
    (hne : nat0 out (nextN c i)[q] &&& aft c T i m ≠ nat0 out (nextN c i)[q]) : FQ c T p h out0 L k i (q + 1) true (out.set (nextN c i)[q] (nat0 out (nextN c i)[q] &&& aft c T i m)) := by
  have hj := List.getElem_mem hq
  have hjl := (nextN_lt hc (live_lt hc hp hi).1 hj).1
  refine ⟨H.fl.updM hc hp hi hj hm, fun _ => ?_, fun e => by cases e⟩
  have h1 := sum_set (l := out) (i := (nextN c i)[q]) (v := nat0 out (nextN c i)[q] &&& aft c T i m) (by rw [H.fl.len]; exact hjl)
  have h2 := and_lt hne
  cases ag with
  | true => have := H.yes rfl; omega
  | false => rw [(H.no rfl).1] at h1 h2 ⊢; omega
theorem FQ.skip (H : FQ c T p h out0 L k i q ag out) (hq : q < (nextN c i).length) (hz : ag = false → m = nat0 out0 i) (he : nat0 out (nextN c i)[q] &&& aft c T i m = nat0 out (nextN c i)[q]) : FQ c T p h out0 L k i (q + 1) ag out := by
  refine ⟨H.fl, H.yes, fun e => ⟨(H.no e).1, (H.no e).2.1, fun j hj => ?_⟩⟩
  rw [List.take_succ_eq_append_getElem hq] at hj
  rcases List.mem_append.1 hj with hj | hj
  · exact (H.no e).2.2 j hj
  · simp only [List.mem_cons, List.not_mem_nil, or_false] at hj
    rw [(H.no e).1, hz e] at he
    rw [hj]; exact he
theorem FQ.done (H : FQ c T p h out0 L k i q ag out) (hk : k < L.length) (hi : L[k] = i) (hq : (nextN c i).length ≤ q) : FP c T p h out0 L (k + 1) ag out := by
  refine ⟨H.fl, H.yes, fun e => ⟨(H.no e).1, fun i' hi' => ?_⟩⟩
  rw [List.take_succ_eq_append_getElem hk] at hi'
  rcases List.mem_append.1 hi' with h1 | h1
  · exact (H.no e).2.1 i' h1
  · simp only [List.mem_cons, List.not_mem_nil, or_false] at h1
    rw [h1, hi]
    have := (H.no e).2.2
    rw [List.take_of_length_le hq] at this
    exact this
end
theorem flow_ok {w W0 W1 : World} {b p h : Nat} {v1 : Value} {c : DCode} {T : Tab} (hW : WL W0 b c) (e0 : Ext W0 w) (h1 : Is W1 v1 (effs T)) (e1 : Ext W1 w) (hc : CodeR c) (hT : TabR c T) (hp : p < c.procs.length) (hh : h < 64) :
    CALL Tryz.prog 132 [.pointer (some ⟨b, 0, none⟩), v1, .int .i64 (p : Int), .int .i64 (h : Int)] w fun r w' => Ext w w' ∧ Own w.heap.size w' r (ints (flowN c T p h)) := by
  refine F132_call ?_
  unfold F132
  have hpe : p < c.entry.length := by rw [hc.2.1.1]; exact hp
  have hil := hc.f.ins
  obtain ⟨he1, he2, he3⟩ := eN_eq hc hpe
  have hst := FL.start (T := T) hc hpe hh
  have hfin := fun {out} => FL.fin (c := c) (T := T) (p := p) (h := h) (out := out)
  refine NIL.mk rfl ?_
  refine rd_fld fd144_0 ?_
  refine rd_fld fd35_4 ?_
  refine rd_load ty33 (at_DCode_4 hW.code) e0 fun v22 h22 => ?_
  refine rd_len u33 h22 ?_
  have hn : c.ins.length = c.ins.length := rfl
  generalize hnn : c.ins.length = n at hn
  rw [hnn] at he2 hst hil
  refine op_makeI (by omega) (by omega) fun w2 hx2 hM2 => ?_
  have hs2 := hx2.size
  generalize hg : w.heap.size = g at *
  have hF2 : FW w w2 g n (fil n 0) := ⟨hx2, by simpa [fil] using hM2, by omega⟩
  refine rd_lenX u23 ?_
  refine loopC n (fun k us w' => us = [.int .i64 (k : Int)] ∧ k ≤ n ∧ FW w w' g n (fil n k)) 0 (Nat.zero_le _) ⟨rfl, Nat.zero_le _, hF2⟩ ?_
  rintro k mk u w3 hkm ⟨hu, hkl, hF3⟩
  simp only [List.map_cons, List.map_nil, List.cons.injEq, and_true] at hu
  rw [hu]
  refine rd_lss ?_
  refine br (fun hlt => ?_) (fun hge => ?_)
  · have hk : k < n := by omega
    refine rd_elt (α := Int) rfl u23 ty3 hk ?_
    refine opu_elt (α := Int) rfl ty3 hF3.mine (by rw [ints_len, fil_len hkl]) hk (mine_nat (v := 63) (by omega)) fun w4 hc4 hm4 => ?_
    have hF4 := hF3.set (v := 63) hc4 hm4
    rw [fil_set hk] at hF4
    refine rd_inc (by omega) ?_
    exact ⟨mk - 1, by omega, k + 1, by omega, rfl, by omega, hF4⟩
  have hk : k = n := by omega
  rw [hk, fil_full] at hF3
  clear hF2 hM2 hu hkm
  refine NIL.mk rfl ?_
  refine rd_fld fd144_0 ?_
  refine rd_fld fd35_3 ?_
  refine rd_load ty23 (at_DCode_3 hW.code) (e0.trans hF3.ext) fun v39 h39 => ?_
  refine rd_indexN u23 ty3 h39 hpe fun b1 o1 hA1 => ?_
  rw [en_get hpe, he1] at hA1
  refine rd_loadI ty3 hA1 (e0.trans hF3.ext) fun _ => ?_
  refine rd_elt (α := Int) rfl u23 ty3 he2 ?_
  refine opu_elt (α := Int) rfl ty3 hF3.mine (by rw [ints_len]; simp) he2 (mine_nat (v := h) (by omega)) fun w4 hc4 hm4 => ?_
  have hF4 := hF3.set (v := h) hc4 hm4
  refine (liveOf_ok hW (e0.trans hF4.ext) hc hp).mono ?_
  rintro v47 w5 ⟨hx5, ho5⟩
  have hF5 := hF4.step hx5
  have hg4 := hF4.lt
  have hL : ∀ i ∈ setL c.ins.length (LiveP c p), LiveP c p i := fun i hi => (mem_setL.1 hi).2
  have hL2 : ∀ i, LiveP c p i → i ∈ setL c.ins.length (LiveP c p) := fun i hi => mem_setL.2 ⟨(live_lt hc hpe hi).1, hi⟩
  have hLl : (setL c.ins.length (LiveP c p)).length ≤ 1500 := Nat.le_trans setL_len (by rw [hnn]; omega)
  generalize setL c.ins.length (LiveP c p) = L at *
  generalize (List.replicate n 63).set (eN c p) h = out at hst hF5
  have hO5 := ho5.toI
  generalize hlo : w4.heap.size = lo at *
  generalize hhi : w5.heap.size = hi at *
  refine LOOPI.mk (fun m us w' => ∃ (ag : Bool) (out : List Nat), us = [.bool ag] ∧ m = out.sum + (if ag then 1 else 0) ∧ FW w w' g n out ∧ OwnI lo hi w' v47 (ints L) ∧ FL c T p h out ∧ (ag = false → ∀ i, LiveP c p i → Shut c T out i)) (out.sum + 1) ⟨true, out, rfl, rfl, hF5, hO5, hst, fun e => by cases e⟩ ?_
  rintro m u w6 ⟨ag, out, hu, hm, hF6, hO6, hfl, hsh⟩
  simp only [List.map_cons, List.map_nil, List.cons.injEq, and_true] at hu
  rw [hu]
  refine br_b (fun hag => ?_) (fun hag => ?_)
  case refine_2 =>
    have := hfin hfl hc hpe (hsh hag)
    rw [← this]
    have hoo := hF6.own
    rw [hg] at hoo
    exact ⟨hF6.ext, hoo⟩
  rw [hag, if_pos rfl] at hm
  refine rd_len u23 hO6.is ?_
  rw [ints_len]
  refine loopC L.length (fun k us w' => ∃ (ag : Bool) (out' : List Nat), us = [.bool ag, .int .i64 (k : Int)] ∧ k ≤ L.length ∧ FW w w' g n out' ∧ OwnI lo hi w' v47 (ints L) ∧ FP c T p h out L k ag out') 0 (Nat.zero_le _) ⟨false, out, rfl, Nat.zero_le _, hF6, hO6, hfl, fun e => (by cases e), fun _ => ⟨rfl, by simp⟩⟩ ?_
  rintro k mk u w7 hkm ⟨ag7, out7, hu, hkl, hF7, hO7, hP7⟩
  simp only [List.map_cons, List.map_nil, List.cons.injEq, and_true] at hu
  obtain ⟨hu1, hu2⟩ := hu
  rw [hu1, hu2]
  refine rd_lss ?_
  refine br (fun hlt => ?_) (fun hge => ?_)
  case refine_2 =>
    refine ⟨out7.sum + (if ag7 then 1 else 0), ?_, ag7, out7, rfl, rfl, hF7, hO7, hP7.fl, fun e i hi => ?_⟩
    · cases ag7 with
      | true => have := hP7.yes rfl; simp; omega
      | false => rw [(hP7.no rfl).1]; simp; omega
    · have := hP7.no e
      rw [this.1]
      exact this.2 i (by rw [List.take_of_length_le (by omega)]; exact hL2 i hi)
  have hk : k < L.length := by omega
  refine rd_indexN u23 ty3 (i := k) hO7.is (by rw [ints_len]; exact hk) fun b2 o2 hA2 => ?_
  rw [ints_get] at hA2
  refine rd_loadI ty3 hA2 (Ext.refl _) fun _ => ?_
  generalize hix : L[k] = i at *
  have hiv : LiveP c p i := hL i (by rw [← hix]; exact List.getElem_mem hk)
  have hin := (live_lt hc hpe hiv).1
  have hx8 := ext_drew w7
  have hF8 := hF7.step hx8
  have hO8 := hO7.ext hx8
  generalize World.drew1 w7 = w8 at *
  refine NIL.mk rfl ?_
  refine rd_fld fd144_0 ?_
  refine rd_fld fd35_4 ?_
  refine rd_load ty33 (at_DCode_4 hW.code) (e0.trans hF8.ext) fun v59 h59 => ?_
  refine rd_indexN u33 ty136 h59 hin fun b3 o3 hA3 => ?_
  rw [insAt_get] at hA3
  refine rd_load ty136 hA3 (e0.trans hF8.ext) fun v62 h62 => ?_
  have hl7 := hP7.fl.len
  refine rd_indexN u23 ty3 (i := i) hF8.mine.is (by rw [ints_len, hl7]; exact hin) fun b4 o4 hA4 => ?_
  rw [ints_nat0] at hA4
  refine rd_loadI ty3 hA4 (Ext.refl _) fun _ => ?_
  have hm64 := hP7.fl.lt0 i
  have hmb : ∀ l, l < 6 → (nat0 out7 i).testBit l = false → LostP c (tK T) (tG T) p (fun l => h.testBit l = true) i l := fun l hl hb => hP7.fl.snd i l hin hl hb
  have hmz : ag7 = false → nat0 out7 i = nat0 out i := fun e => by rw [(hP7.no e).1]
  generalize nat0 out7 i = mm at *
  refine (behind_ok h62 (e0.trans hF8.ext) h1 (e1.trans hF8.ext) hc hT hin hm64).mono ?_
  rintro _ w9 ⟨hx9, rfl⟩
  have hF9 := hF8.step hx9
  have hO9 := hO8.ext hx9
  have haf := aft_lt hc hT hin hm64
  refine (nextIn_ok hW.code (e0.trans hF9.ext) hc hin).mono ?_
  rintro v71 w10 ⟨hx10, ho10⟩
  have hF10 := hF9.step hx10
  have hO10 := hO9.ext hx10
  have hg9 := hF9.lt
  have hN10 := ho10.toI
  have hl2 := nextN_len c i
  refine rd_len u23 ho10.is ?_
  rw [ints_len]
  have hQ10 := hP7.enter i
  refine loopC (nextN c i).length (fun q us w' => ∃ (ag : Bool) (out' : List Nat), us = [.bool ag, .int .i64 (q : Int)] ∧ q ≤ (nextN c i).length ∧ FW w w' g n out' ∧ OwnI lo hi w' v47 (ints L) ∧ OwnI w9.heap.size w10.heap.size w' v71 (ints (nextN c i)) ∧ FQ c T p h out L k i q ag out' ∧ (ag = false → mm = nat0 out i)) 0 (Nat.zero_le _) ⟨ag7, out7, rfl, Nat.zero_le _, hF10, hO10, hN10, hQ10, hmz⟩ ?_
  rintro q mq u w11 hqm ⟨ag11, out11, hu, hql, hF11, hO11, hN11, hQ11, hz11⟩
  simp only [List.map_cons, List.map_nil, List.cons.injEq, and_true] at hu
  obtain ⟨hu1, hu2⟩ := hu
  rw [hu1, hu2]
  refine rd_lss ?_
  refine br (fun hlt => ?_) (fun hge => ?_)
  case refine_2 =>
    refine rd_inc (by omega) ?_
    exact ⟨mk - 1, by omega, k + 1, by omega, ag11, out11, rfl, by omega, hF11, hO11, hQ11.done hk hix (by omega)⟩
  have hq : q < (nextN c i).length := by omega
  refine rd_indexN u23 ty3 (i := q) hN11.is (by rw [ints_len]; exact hq) fun b5 o5 hA5 => ?_
  rw [ints_get] at hA5
  refine rd_loadI ty3 hA5 (Ext.refl _) fun _ => ?_
  have hx12 := ext_drew w11
  have hF12 := hF11.step hx12
  have hO12 := hO11.ext hx12
  have hN12 := hN11.ext hx12
  generalize World.drew1 w11 = w12 at *
  have hj := nextN_lt hc hin (List.getElem_mem hq)
  have hl11 := hQ11.fl.len
  have hset := hQ11.set (m := mm) hc hpe hiv hq hmb
  have hskip := hQ11.skip (m := mm) hq hz11
  have hj64 := hQ11.fl.lt0 (nextN c i)[q]
  have hjn := hj.1
  rw [hnn] at hjn
  generalize (nextN c i)[q] = j at *
  have hrd : ∀ {w' : World} {K : Value → Prop} (hF : FW w w' g n out11) (k : K (.int .i64 (nat0 out11 j : Int))), RD Tryz.prog (Instr.indexAt 23 (.slice (some ⟨g, 0, none⟩) n n) (.int .i64 (j : Int))) w' fun x37 => RD Tryz.prog (Instr.loadAt 3 x37) w' K := fun hF k => by
    refine rd_indexN u23 ty3 (i := j) hF.mine.is (by rw [ints_len, hl11]; exact hj.1) fun b1 o1 hA1 => ?_
    rw [ints_nat0] at hA1
    exact rd_loadI ty3 hA1 (Ext.refl _) fun _ => k
  refine hrd hF12 ?_
  refine rd_and (by omega) (by omega) ?_
  refine hrd hF12 ?_
  refine rd_neq ?_
  refine br (fun hne => ?_) (fun heq => ?_)
  · have hne' : nat0 out11 j &&& aft c T i mm ≠ nat0 out11 j := fun e => hne (by rw [e])
    refine hrd hF12 ?_
    refine rd_and (by omega) (by omega) ?_
    refine rd_elt (α := Int) rfl u23 ty3 hjn ?_
    have hvl := Nat.and_le_left (n := nat0 out11 j) (m := aft c T i mm)
    refine opu_elt (α := Int) rfl ty3 hF12.mine (by rw [ints_len, hl11, hnn]) hjn (mine_nat (v := nat0 out11 j &&& aft c T i mm) (by omega)) fun w13 hc13 hm13 => ?_
    have hF13 := hF12.set (v := nat0 out11 j &&& aft c T i mm) hc13 hm13
    have hc13' := chg_one hc13
    refine rd_inc (by omega) ?_
    exact ⟨mq - 1, by omega, q + 1, by omega, true, _, rfl, by omega, hF13, hO12.chg hc13' (by omega), hN12.chg hc13' (by omega), hset hne', fun e => by cases e⟩
  · refine rd_inc (by omega) ?_
    exact ⟨mq - 1, by omega, q + 1, by omega, ag11, out11, rfl, by omega, hF12, hO12, hN12, hskip (Int.ofNat_inj.1 (Decidable.not_not.1 heq)), hz11⟩
end Go.Proofs.YtjgfldfbljmhhaaGreat
namespace Go.Proofs.YtjgfldfbljmhhaaGreat
open Go Go.Sh Go.Proofs
set_option linter.unusedVariables false
/-- spec.l13From -/
def F115 (a0 a1 a2 a3 : Value) (w : World) (R : Value → World → Prop) : Prop :=
  OP Tryz.prog (Instr.box 35 a0) w fun x4 w =>
  RD Tryz.prog (Instr.fieldAt 35 x4 4) w fun x18 =>
  RD Tryz.prog (Instr.loadAt 33 x18) w fun x19 =>
  RD Tryz.prog (Builtin.len_ #[33] 3 [x19].toArray) w fun x20 =>
  OP Tryz.prog (Instr.makeSlice 23 x20 x20) w fun x21 w =>
  LOOPI [10] [(Value.int .i64 0)] w fun u3 w next3 =>
   RD Tryz.prog (Builtin.len_ #[23] 3 [x21].toArray) w fun x24 =>
   RD Tryz.prog (bin .lss 3 (.tmp 0) (.tmp 0) (u3 10) x24) w fun x25 =>
   BR x25
    (RD Tryz.prog (Instr.indexAt 23 x21 (u3 10)) w fun x30 =>
    OPU Tryz.prog (Instr.storeAt 3 x30 (Value.int .i64 63)) w fun w =>
    RD Tryz.prog (bin .add 3 (.tmp 0) (.const undef) (u3 10) (Value.int .i64 1)) w fun x27 =>
    next3 [x27] w)
    (RD Tryz.prog (Instr.fieldAt 35 x4 3) w fun x31 =>
    RD Tryz.prog (Instr.loadAt 23 x31) w fun x32 =>
    RD Tryz.prog (Instr.indexAt 23 x32 a2) w fun x34 =>
    RD Tryz.prog (Instr.loadAt 3 x34) w fun x35 =>
    RD Tryz.prog (Instr.indexAt 23 x21 x35) w fun x39 =>
    OPU Tryz.prog (Instr.storeAt 3 x39 a3) w fun w =>
    RD Tryz.prog (Instr.loadAt 35 x4) w fun x40 =>
    CALL Tryz.prog 185 [x40, a2] w fun x42 w =>
    CALL Tryz.prog 77 [x42] w fun x43 w =>
    LOOPI [13] [(Value.bool true)] w fun u10 w next10 =>
     BR (u10 13)
      (LOOPI [13, 14] [(Value.bool false), (Value.int .i64 0)] w fun u13 w next13 =>
       RD Tryz.prog (Builtin.len_ #[23] 3 [x43].toArray) w fun x47 =>
       RD Tryz.prog (bin .lss 3 (.tmp 0) (.tmp 0) (u13 14) x47) w fun x48 =>
       BR x48
        ((fun w => RD Tryz.prog (Instr.loadAt 35 x4) w fun x51 =>
        RD Tryz.prog (Instr.indexAt 23 x43 (u13 14)) w fun x54 =>
        RD Tryz.prog (Instr.loadAt 3 x54) w fun x55 =>
        CALL Tryz.prog 121 [x51, x55] w fun x56 w =>
        LOOPI [13, 16] [(u13 13), (Value.int .i64 0)] w fun u17 w next17 =>
         RD Tryz.prog (Builtin.len_ #[23] 3 [x56].toArray) w fun x59 =>
         RD Tryz.prog (bin .lss 3 (.tmp 0) (.tmp 0) (u17 16) x59) w fun x60 =>
         BR x60
          ((fun w => RD Tryz.prog (Instr.indexAt 23 x56 (u17 16)) w fun x66 =>
          RD Tryz.prog (Instr.loadAt 3 x66) w fun x67 =>
          RD Tryz.prog (Instr.indexAt 23 x21 x67) w fun x68 =>
          RD Tryz.prog (Instr.loadAt 3 x68) w fun x69 =>
          RD Tryz.prog (Instr.fieldAt 35 x4 4) w fun x70 =>
          RD Tryz.prog (Instr.loadAt 33 x70) w fun x71 =>
          RD Tryz.prog (Instr.indexAt 23 x43 (u13 14)) w fun x74 =>
          RD Tryz.prog (Instr.loadAt 3 x74) w fun x75 =>
          RD Tryz.prog (Instr.indexAt 33 x71 x75) w fun x76 =>
          RD Tryz.prog (Instr.loadAt 136 x76) w fun x77 =>
          RD Tryz.prog (Instr.indexAt 23 x43 (u13 14)) w fun x82 =>
          RD Tryz.prog (Instr.loadAt 3 x82) w fun x83 =>
          RD Tryz.prog (Instr.indexAt 23 x21 x83) w fun x84 =>
          RD Tryz.prog (Instr.loadAt 3 x84) w fun x85 =>
          (fun w_ => CALL Tryz.prog 187 [x77, a1, x85] w_ fun x86 w =>
          Ext w_ w ∧
          RD Tryz.prog (bin .and 3 (.tmp 0) (.tmp 0) x69 x86) w fun x87 =>
          RD Tryz.prog (Instr.indexAt 23 x56 (u17 16)) w fun x92 =>
          RD Tryz.prog (Instr.loadAt 3 x92) w fun x93 =>
          RD Tryz.prog (Instr.indexAt 23 x21 x93) w fun x94 =>
          RD Tryz.prog (Instr.loadAt 3 x94) w fun x95 =>
          RD Tryz.prog (bin .neq 3 (.tmp 0) (.tmp 0) x87 x95) w fun x96 =>
          BR x96
           (RD Tryz.prog (Instr.indexAt 23 x56 (u17 16)) w fun x100 =>
           RD Tryz.prog (Instr.loadAt 3 x100) w fun x101 =>
           RD Tryz.prog (Instr.indexAt 23 x21 x101) w fun x103 =>
           OPU Tryz.prog (Instr.storeAt 3 x103 x87) w fun w =>
           RD Tryz.prog (bin .add 3 (.tmp 0) (.const undef) (u17 16) (Value.int .i64 1)) w fun x62 =>
           next17 [(Value.bool true), x62] w)
           (RD Tryz.prog (bin .add 3 (.tmp 0) (.const undef) (u17 16) (Value.int .i64 1)) w fun x62 =>
           next17 [(u17 13), x62] w)) w) (World.drew1 w))
          (RD Tryz.prog (bin .add 3 (.tmp 0) (.const undef) (u13 14) (Value.int .i64 1)) w fun x50 =>
          next13 [(u17 13), x50] w)) (World.drew1 w))
        (next10 [(u13 13)] w))
      (R x21 w))
def cfg115 : Cfg := { ext := extL, joins := [], loops := [(3, 2143290368, [10]), (10, 20282409603651670406355065495552, [13]), (13, 20282409603651670388762879451136, [13, 14]), (17, 20282409603651526308759175634944, [13, 16])], draws := [(15, [0, 1, 2, 3, 4, 5, 6], 0), (19, [0, 1, 2, 3, 4, 5, 6, 7, 8, 9, 10, 11, 12, 13, 14, 15, 16, 17, 18, 19, 20, 21, 22, 23, 24, 25], 8388608)], pars := [] }
theorem F115_eq (a0 a1 a2 a3 : Value) (w : World) (R : Value → World → Prop) : vcF Tryz.prog cfg115 Tryz.f115 [a0, a1, a2, a3] w R = F115 a0 a1 a2 a3 w R := by kernel_rfl
theorem F115_call {a0 a1 a2 a3 : Value} {w : World} {R : Value → World → Prop} (h : F115 a0 a1 a2 a3 w R) : CALL Tryz.prog 115 [a0, a1, a2, a3] w R :=
  call_of (g := cfg115) ent mixed Tryz.func115 (Nat.le_of_ble_eq_true (by kernel_rfl)) (by kernel_rfl) (F115_eq a0 a1 a2 a3 w R ▸ h)
set_option linter.unusedVariables false
set_option linter.unusedSimpArgs false
open Rep (rep)
theorem l13From_ok {w W0 W1 : World} {p h : Nat} {v0 v1 : Value} {c : DCode} {T : Tab} (h0 : Is W0 v0 c) (e0 : Ext W0 w) (h1 : Is W1 v1 (effs T)) (e1 : Ext W1 w) (hc : CodeR c) (hT : TabR c T) (hp : p < c.procs.length) (hh : h < 64) :
    CALL Tryz.prog 115 [v0, v1, .int .i64 (p : Int), .int .i64 (h : Int)] w fun r w' => Ext w w' ∧ Own w.heap.size w' r (ints (flowN c T p h)) := by
  refine F115_call ?_
  unfold F115
  have hpe : p < c.entry.length := by rw [hc.2.1.1]; exact hp
  have hil := hc.f.ins
  obtain ⟨he1, he2, he3⟩ := eN_eq hc hpe
  have hst := FL.start (T := T) hc hpe hh
  have hfin := fun {out} => FL.fin (c := c) (T := T) (p := p) (h := h) (out := out)
  refine op_box h0 e0 fun w1 hx1 hA => ?_
  have hs1 := hx1.size
  refine rd_fld fd35_4 ?_
  refine rd_load ty33 (at_DCode_4 hA) (Ext.refl _) fun v22 h22 => ?_
  refine rd_len u33 h22 ?_
  have hn : c.ins.length = c.ins.length := rfl
  generalize hnn : c.ins.length = n at hn
  rw [hnn] at he2 hst hil
  refine op_makeI (by omega) (by omega) fun w2 hx2 hM2 => ?_
  have hs2 := hx2.size
  generalize hg : w1.heap.size = g at *
  have hF2 : FW w1 w2 g n (fil n 0) := ⟨hx2, by simpa [fil] using hM2, by omega⟩
  refine loopC n (fun k us w' => us = [.int .i64 (k : Int)] ∧ k ≤ n ∧ FW w1 w' g n (fil n k)) 0 (Nat.zero_le _) ⟨rfl, Nat.zero_le _, hF2⟩ ?_
  rintro k mk u w3 hkm ⟨hu, hkl, hF3⟩
  simp only [List.map_cons, List.map_nil, List.cons.injEq, and_true] at hu
  rw [hu]
  refine rd_lenX u23 ?_
  refine rd_lss ?_
  refine br (fun hlt => ?_) (fun hge => ?_)
  · have hk : k < n := by omega
    refine rd_elt (α := Int) rfl u23 ty3 hk ?_
    refine opu_elt (α := Int) rfl ty3 hF3.mine (by rw [ints_len, fil_len hkl]) hk (mine_nat (v := 63) (by omega)) fun w4 hc4 hm4 => ?_
    have hF4 := hF3.set (v := 63) hc4 hm4
    rw [fil_set hk] at hF4
    refine rd_inc (by omega) ?_
    exact ⟨mk - 1, by omega, k + 1, by omega, rfl, by omega, hF4⟩
  have hk : k = n := by omega
  rw [hk, fil_full] at hF3
  clear hF2 hM2 hu hkm
  refine rd_fld fd35_3 ?_
  refine rd_load ty23 (at_DCode_3 hA) hF3.ext fun v39 h39 => ?_
  refine rd_indexN u23 ty3 h39 hpe fun b1 o1 hA1 => ?_
  rw [en_get hpe, he1] at hA1
  refine rd_loadI ty3 hA1 hF3.ext fun _ => ?_
  refine rd_elt (α := Int) rfl u23 ty3 he2 ?_
  refine opu_elt (α := Int) rfl ty3 hF3.mine (by rw [ints_len]; simp) he2 (mine_nat (v := h) (by omega)) fun w4 hc4 hm4 => ?_
  have hF4 := hF3.set (v := h) hc4 hm4
  refine rd_load ty35 hA hF4.ext fun v40 h40 => ?_
  refine (l09Live_ok h40 hF4.ext hc hpe).mono ?_
  rintro v42 w5 ⟨hx5, ho5⟩
  have hF5 := hF4.step hx5
  refine (l09Marked_ok ho5.is (Ext.refl _) (by rw [setB_len, hnn]; omega)).mono ?_
  rintro v43 w5b ⟨hx5b, ho5b⟩
  rw [setB_len, idxM_setB] at ho5b
  have hF5 := hF5.step hx5b
  have hg4 := hF4.lt
  have hg5 : g < w5.heap.size := by have := hx5.size; omega
  have hL : ∀ i ∈ setL c.ins.length (LiveP c p), LiveP c p i := fun i hi => (mem_setL.1 hi).2
  have hL2 : ∀ i, LiveP c p i → i ∈ setL c.ins.length (LiveP c p) := fun i hi => mem_setL.2 ⟨(live_lt hc hpe hi).1, hi⟩
  have hLl : (setL c.ins.length (LiveP c p)).length ≤ 1500 := Nat.le_trans setL_len (by rw [hnn]; omega)
  generalize setL c.ins.length (LiveP c p) = L at *
  generalize (List.replicate n 63).set (eN c p) h = out at hst hF5
  have hO5 := ho5b.toI
  generalize hlo : w5.heap.size = lo at *
  generalize hhi : w5b.heap.size = hi at *
  refine LOOPI.mk (fun m us w' => ∃ (ag : Bool) (out : List Nat), us = [.bool ag] ∧ m = out.sum + (if ag then 1 else 0) ∧ FW w1 w' g n out ∧ OwnI lo hi w' v43 (ints L) ∧ FL c T p h out ∧ (ag = false → ∀ i, LiveP c p i → Shut c T out i)) (out.sum + 1) ⟨true, out, rfl, rfl, hF5, hO5, hst, fun e => by cases e⟩ ?_
  rintro m u w6 ⟨ag, out, hu, hm, hF6, hO6, hfl, hsh⟩
  simp only [List.map_cons, List.map_nil, List.cons.injEq, and_true] at hu
  rw [hu]
  refine br_b (fun hag => ?_) (fun hag => ?_)
  case refine_2 =>
    have := hfin hfl hc hpe (hsh hag)
    rw [← this]
    exact ⟨hx1.trans hF6.ext, hF6.own.mono (by omega)⟩
  rw [hag, if_pos rfl] at hm
  refine loopC L.length (fun k us w' => ∃ (ag : Bool) (out' : List Nat), us = [.bool ag, .int .i64 (k : Int)] ∧ k ≤ L.length ∧ FW w1 w' g n out' ∧ OwnI lo hi w' v43 (ints L) ∧ FP c T p h out L k ag out') 0 (Nat.zero_le _) ⟨false, out, rfl, Nat.zero_le _, hF6, hO6, hfl, fun e => (by cases e), fun _ => ⟨rfl, by simp⟩⟩ ?_
  rintro k mk u w7 hkm ⟨ag7, out7, hu, hkl, hF7, hO7, hP7⟩
  simp only [List.map_cons, List.map_nil, List.cons.injEq, and_true] at hu
  obtain ⟨hu1, hu2⟩ := hu
  rw [hu1, hu2]
  refine rd_len u23 hO7.is ?_
  rw [ints_len]
  refine rd_lss ?_
  refine br (fun hlt => ?_) (fun hge => ?_)
  case refine_2 =>
    refine ⟨out7.sum + (if ag7 then 1 else 0), ?_, ag7, out7, rfl, rfl, hF7, hO7, hP7.fl, fun e i hi => ?_⟩
    · cases ag7 with
      | true => have := hP7.yes rfl; simp; omega
      | false => rw [(hP7.no rfl).1]; simp; omega
    · have := hP7.no e
      rw [this.1]
      exact this.2 i (by rw [List.take_of_length_le (by omega)]; exact hL2 i hi)
  have hk : k < L.length := by omega
  have hx8 := ext_drew w7
  have hF8 := hF7.step hx8
  have hO8 := hO7.ext hx8
  generalize World.drew1 w7 = w8 at *
  refine rd_load ty35 hA hF8.ext fun v51 h51 => ?_
  refine rd_indexN u23 ty3 (i := k) hO8.is (by rw [ints_len]; exact hk) fun b2 o2 hA2 => ?_
  rw [ints_get] at hA2
  refine rd_loadI ty3 hA2 (Ext.refl _) fun _ => ?_
  have hrL : ∀ {w' : World} {K : Value → Prop} (hO : OwnI lo hi w' v43 (ints L)) (kk : K (.int .i64 ((L[k] : Nat) : Int))), RD Tryz.prog (Instr.indexAt 23 v43 (.int .i64 (k : Int))) w' fun x37 => RD Tryz.prog (Instr.loadAt 3 x37) w' K := fun hO kk => by
    refine rd_indexN u23 ty3 (i := k) hO.is (by rw [ints_len]; exact hk) fun b1 o1 hA1 => ?_
    rw [ints_get] at hA1
    exact rd_loadI ty3 hA1 (Ext.refl _) fun _ => kk
  generalize hix : L[k] = i at *
  have hiv : LiveP c p i := hL i (by rw [← hix]; exact List.getElem_mem hk)
  have hin := (live_lt hc hpe hiv).1
  refine (l09Next_ok h51 hF8.ext hc hin).mono ?_
  rintro v56 w10 ⟨hx10, ho10⟩
  have hF10 := hF8.step hx10
  have hO10 := hO8.ext hx10
  have hg8 := hF8.lt
  have hN10 := ho10.toI
  have hl2 := nextN_len c i
  have hQ10 := hP7.enter i
  refine loopC (nextN c i).length (fun q us w' => ∃ (ag : Bool) (out' : List Nat), us = [.bool ag, .int .i64 (q : Int)] ∧ q ≤ (nextN c i).length ∧ FW w1 w' g n out' ∧ OwnI lo hi w' v43 (ints L) ∧ OwnI w8.heap.size w10.heap.size w' v56 (ints (nextN c i)) ∧ FQ c T p h out L k i q ag out') 0 (Nat.zero_le _) ⟨ag7, out7, rfl, Nat.zero_le _, hF10, hO10, hN10, hQ10⟩ ?_
  rintro q mq u w11 hqm ⟨ag11, out11, hu, hql, hF11, hO11, hN11, hQ11⟩
  simp only [List.map_cons, List.map_nil, List.cons.injEq, and_true] at hu
  obtain ⟨hu1, hu2⟩ := hu
  rw [hu1, hu2]
  refine rd_len u23 hN11.is ?_
  rw [ints_len]
  refine rd_lss ?_
  refine br (fun hlt => ?_) (fun hge => ?_)
  case refine_2 =>
    refine rd_inc (by omega) ?_
    exact ⟨mk - 1, by omega, k + 1, by omega, ag11, out11, rfl, by omega, hF11, hO11, hQ11.done hk hix (by omega)⟩
  have hq : q < (nextN c i).length := by omega
  have hx12 := ext_drew w11
  have hF12 := hF11.step hx12
  have hO12 := hO11.ext hx12
  have hN12 := hN11.ext hx12
  generalize World.drew1 w11 = w12 at *
  have hj := nextN_lt hc hin (List.getElem_mem hq)
  have hl11 := hQ11.fl.len
  have hm64 := hQ11.fl.lt0 i
  have hmb : ∀ l, l < 6 → (nat0 out11 i).testBit l = false → LostP c (tK T) (tG T) p (fun l => h.testBit l = true) i l := fun l hl hb => hQ11.fl.snd i l hin hl hb
  have hset := hQ11.set (m := nat0 out11 i) hc hpe hiv hq hmb
  have hskip := hQ11.skip (m := nat0 out11 i) hq (fun e => by rw [(hQ11.no e).1])
  have hj64 := hQ11.fl.lt0 (nextN c i)[q]
  have hjn := hj.1
  rw [hnn] at hjn
  have hrN : ∀ {w' : World} {K : Value → Prop} (hO : OwnI w8.heap.size w10.heap.size w' v56 (ints (nextN c i))) (kk : K (.int .i64 (((nextN c i)[q] : Nat) : Int))), RD Tryz.prog (Instr.indexAt 23 v56 (.int .i64 (q : Int))) w' fun x37 => RD Tryz.prog (Instr.loadAt 3 x37) w' K := fun hO kk => by
    refine rd_indexN u23 ty3 (i := q) hO.is (by rw [ints_len]; exact hq) fun b1 o1 hA1 => ?_
    rw [ints_get] at hA1
    exact rd_loadI ty3 hA1 (Ext.refl _) fun _ => kk
  generalize (nextN c i)[q] = j at *
  have hrd : ∀ {w' : World} {K : Value → Prop} {i : Nat} (hF : FW w1 w' g n out11) (hi : i < c.ins.length) (k : K (.int .i64 (nat0 out11 i : Int))), RD Tryz.prog (Instr.indexAt 23 (.slice (some ⟨g, 0, none⟩) n n) (.int .i64 (i : Int))) w' fun x37 => RD Tryz.prog (Instr.loadAt 3 x37) w' K := fun {w' K i} hF hi k => by
    refine rd_indexN u23 ty3 (i := i) hF.mine.is (by rw [ints_len, hl11]; exact hi) fun b1 o1 hA1 => ?_
    rw [ints_nat0] at hA1
    exact rd_loadI ty3 hA1 (Ext.refl _) fun _ => k
  refine hrN hN12 ?_
  refine hrd hF12 hj.1 ?_
  refine rd_fld fd35_4 ?_
  refine rd_load ty33 (at_DCode_4 hA) hF12.ext fun v71 h71 => ?_
  refine hrL hO12 ?_
  refine rd_indexN u33 ty136 h71 hin fun b3 o3 hA3 => ?_
  rw [insAt_get] at hA3
  refine rd_load ty136 hA3 hF12.ext fun v77 h77 => ?_
  refine hrL hO12 ?_
  refine hrd hF12 hin ?_
  refine (l13Moved_ok h77 hF12.ext h1 (e1.trans (hx1.trans hF12.ext)) hc hT hin hm64).mono ?_
  rintro _ w13 ⟨hx13, rfl⟩
  refine ⟨hx13, ?_⟩
  have hF13 := hF12.step hx13
  have hO13 := hO12.ext hx13
  have hN13 := hN12.ext hx13
  have haf := aft_lt hc hT hin hm64
  have hvl := Nat.and_le_left (n := nat0 out11 j) (m := aft c T i (nat0 out11 i))
  refine rd_and (m := nat0 out11 j) (n := aft c T i (nat0 out11 i)) (by omega) (by omega) ?_
  refine hrN hN13 ?_
  refine hrd hF13 hj.1 ?_
  refine rd_neq ?_
  refine br (fun hne => ?_) (fun heq => ?_)
  · have hne' : nat0 out11 j &&& aft c T i (nat0 out11 i) ≠ nat0 out11 j := fun e => hne (by rw [e])
    refine hrN hN13 ?_
    refine rd_elt (α := Int) rfl u23 ty3 hjn ?_
    refine opu_elt (α := Int) rfl ty3 hF13.mine (by rw [ints_len, hl11, hnn]) hjn (mine_nat (v := nat0 out11 j &&& aft c T i (nat0 out11 i)) (by omega)) fun w14 hc14 hm14 => ?_
    have hF14 := hF13.set (v := nat0 out11 j &&& aft c T i (nat0 out11 i)) hc14 hm14
    have hc14' := chg_one hc14
    refine rd_inc (by omega) ?_
    exact ⟨mq - 1, by omega, q + 1, by omega, true, _, rfl, by omega, hF14, hO13.chg hc14' (by omega), hN13.chg hc14' (by omega), hset hne'⟩
  · refine rd_inc (by omega) ?_
    exact ⟨mq - 1, by omega, q + 1, by omega, ag11, out11, rfl, by omega, hF13, hO13, hN13, hskip (Int.ofNat_inj.1 (Decidable.not_not.1 heq))⟩
end Go.Proofs.YtjgfldfbljmhhaaGreat
namespace Go.Proofs.YtjgfldfbljmhhaaGreat
open Go Go.Sh Go.Proofs
set_option linter.unusedVariables false
/-- (*impl.world).keepIn -/
def F243 (a0 a1 : Value) (w : World) (R : Value → World → Prop) : Prop :=
  NIL a0 <|
  RD Tryz.prog (Instr.fieldAt 144 a0 4) w fun x12 =>
  RD Tryz.prog (Instr.loadAt 23 x12) w fun x13 =>
  RD Tryz.prog (Instr.indexAt 23 x13 a1) w fun x15 =>
  RD Tryz.prog (Instr.loadAt 3 x15) w fun x16 =>
  CALL Tryz.prog 97 [x16] w fun x17 w =>
  RD Tryz.prog (Builtin.len_ #[23] 3 [x17].toArray) w fun x18 =>
  LOOPI [5, 19] [(Value.int .i64 63), (Value.int .i64 0)] w fun u3 w next3 =>
   RD Tryz.prog (bin .lss 3 (.tmp 0) (.tmp 0) (u3 19) x18) w fun x20 =>
   BR x20
    (RD Tryz.prog (Instr.indexAt 23 x17 (u3 19)) w fun x21 =>
    RD Tryz.prog (Instr.loadAt 3 x21) w fun x22 =>
    CALL Tryz.prog 194 [a0, x22] w fun x25 w =>
    RD Tryz.prog (Builtin.len_ #[23] 3 [x25].toArray) w fun x26 =>
    LOOPI [5, 27] [(u3 5), (Value.int .i64 0)] w fun u6 w next6 =>
     RD Tryz.prog (bin .lss 3 (.tmp 0) (.tmp 0) (u6 27) x26) w fun x28 =>
     BR x28
      (RD Tryz.prog (Instr.indexAt 23 x25 (u6 27)) w fun x29 =>
      RD Tryz.prog (Instr.loadAt 3 x29) w fun x30 =>
      NIL a0 <|
      RD Tryz.prog (Instr.fieldAt 144 a0 0) w fun x33 =>
      RD Tryz.prog (Instr.fieldAt 35 x33 4) w fun x34 =>
      RD Tryz.prog (Instr.loadAt 33 x34) w fun x35 =>
      RD Tryz.prog (Instr.indexAt 33 x35 x30) w fun x37 =>
      RD Tryz.prog (Instr.fieldAt 136 x37 0) w fun x38 =>
      RD Tryz.prog (Instr.loadAt 3 x38) w fun x39 =>
      RD Tryz.prog (bin .eql 3 (.tmp 0) (.const undef) x39 (Value.int .i64 7)) w fun x40 =>
      BR x40
       (NIL a0 <|
       RD Tryz.prog (Instr.fieldAt 144 a0 0) w fun x44 =>
       RD Tryz.prog (Instr.fieldAt 35 x44 4) w fun x45 =>
       RD Tryz.prog (Instr.loadAt 33 x45) w fun x46 =>
       RD Tryz.prog (Instr.indexAt 33 x46 x30) w fun x48 =>
       RD Tryz.prog (Instr.fieldAt 136 x48 1) w fun x49 =>
       RD Tryz.prog (Instr.loadAt 3 x49) w fun x50 =>
       RD Tryz.prog (convert 3 77 x50) w fun x51 =>
       RD Tryz.prog (bin .shl 3 (.const undef) (.tmp 0) (Value.int .i64 1) x51) w fun x52 =>
       RD Tryz.prog (bin .andNot 3 (.tmp 0) (.tmp 0) (u6 5) x52) w fun x53 =>
       RD Tryz.prog (bin .add 3 (.tmp 0) (.const undef) (u6 27) (Value.int .i64 1)) w fun x54 =>
       next6 [x53, x54] w)
       (RD Tryz.prog (bin .add 3 (.tmp 0) (.const undef) (u6 27) (Value.int .i64 1)) w fun x54 =>
       next6 [(u6 5), x54] w))
      (RD Tryz.prog (bin .add 3 (.tmp 0) (.const undef) (u3 19) (Value.int .i64 1)) w fun x55 =>
      next3 [(u6 5), x55] w))
    (R (u3 5) w)
def cfg243 : Cfg := { ext := extL, joins := [], loops := [(3, 72057594037404320, [5, 19]), (6, 36028796884746784, [5, 27])], draws := [], pars := [] }
theorem F243_eq (a0 a1 : Value) (w : World) (R : Value → World → Prop) : vcF Tryz.prog cfg243 Tryz.f243 [a0, a1] w R = F243 a0 a1 w R := by kernel_rfl
theorem F243_call {a0 a1 : Value} {w : World} {R : Value → World → Prop} (h : F243 a0 a1 w R) : CALL Tryz.prog 243 [a0, a1] w R :=
  call_of (g := cfg243) ent mixed Tryz.func243 (Nat.le_of_ble_eq_true (by kernel_rfl)) (by kernel_rfl) (F243_eq a0 a1 w R ▸ h)
/-- spec.l13Keep -/
def F234 (a0 a1 : Value) (w : World) (R : Value → World → Prop) : Prop :=
  OP Tryz.prog (Instr.box 35 a0) w fun x2 w =>
  RD Tryz.prog (Instr.loadAt 35 x2) w fun x10 =>
  CALL Tryz.prog 186 [x10, a1] w fun x12 w =>
  LOOPI [6, 7] [(Value.int .i64 63), (Value.int .i64 0)] w fun u4 w next4 =>
   RD Tryz.prog (Instr.fieldAt 35 x2 2) w fun x14 =>
   RD Tryz.prog (Instr.loadAt 22 x14) w fun x15 =>
   RD Tryz.prog (Builtin.len_ #[22] 3 [x15].toArray) w fun x16 =>
   RD Tryz.prog (bin .lss 3 (.tmp 0) (.tmp 0) (u4 7) x16) w fun x17 =>
   BR x17
    (RD Tryz.prog (Instr.indexAt 72 x12 (u4 7)) w fun x22 =>
    RD Tryz.prog (Instr.loadAt 4 x22) w fun x23 =>
    RD Tryz.prog (Op.unary .not x23) w fun x24 =>
    BR x24
     (RD Tryz.prog (bin .add 3 (.tmp 0) (.const undef) (u4 7) (Value.int .i64 1)) w fun x19 =>
     next4 [(u4 6), x19] w)
     (RD Tryz.prog (Instr.loadAt 35 x2) w fun x25 =>
     CALL Tryz.prog 185 [x25, (u4 7)] w fun x27 w =>
     LOOPI [6, 9] [(u4 6), (Value.int .i64 0)] w fun u9 w next9 =>
      RD Tryz.prog (Instr.fieldAt 35 x2 4) w fun x29 =>
      RD Tryz.prog (Instr.loadAt 33 x29) w fun x30 =>
      RD Tryz.prog (Builtin.len_ #[33] 3 [x30].toArray) w fun x31 =>
      RD Tryz.prog (bin .lss 3 (.tmp 0) (.tmp 0) (u9 9) x31) w fun x32 =>
      BR x32
       (RD Tryz.prog (Instr.indexAt 72 x27 (u9 9)) w fun x37 =>
       RD Tryz.prog (Instr.loadAt 4 x37) w fun x38 =>
       BR x38
       (RD Tryz.prog (Instr.fieldAt 35 x2 4) w fun x40 =>
       RD Tryz.prog (Instr.loadAt 33 x40) w fun x41 =>
       RD Tryz.prog (Instr.indexAt 33 x41 (u9 9)) w fun x43 =>
       RD Tryz.prog (Instr.fieldAt 136 x43 0) w fun x44 =>
       RD Tryz.prog (Instr.loadAt 3 x44) w fun x45 =>
       RD Tryz.prog (bin .eql 3 (.tmp 0) (.const undef) x45 (Value.int .i64 7)) w fun x46 =>
       BR x46
        (RD Tryz.prog (Instr.fieldAt 35 x2 4) w fun x49 =>
        RD Tryz.prog (Instr.loadAt 33 x49) w fun x50 =>
        RD Tryz.prog (Instr.indexAt 33 x50 (u9 9)) w fun x52 =>
        RD Tryz.prog (Instr.fieldAt 136 x52 1) w fun x53 =>
        RD Tryz.prog (Instr.loadAt 3 x53) w fun x54 =>
        CALL Tryz.prog 119 [x54] w fun x55 w =>
        CALL Tryz.prog 120 [(u9 6), x55] w fun x56 w =>
        RD Tryz.prog (bin .add 3 (.tmp 0) (.const undef) (u9 9) (Value.int .i64 1)) w fun x34 =>
        next9 [x56, x34] w)
        (RD Tryz.prog (bin .add 3 (.tmp 0) (.const undef) (u9 9) (Value.int .i64 1)) w fun x34 =>
        next9 [(u9 6), x34] w))
       (RD Tryz.prog (bin .add 3 (.tmp 0) (.const undef) (u9 9) (Value.int .i64 1)) w fun x34 =>
        next9 [(u9 6), x34] w))
       (RD Tryz.prog (bin .add 3 (.tmp 0) (.const undef) (u4 7) (Value.int .i64 1)) w fun x19 =>
       next4 [(u9 6), x19] w)))
    (R (u4 6) w)
def cfg234 : Cfg := { ext := extL, joins := [], loops := [(4, 144115188075848640, [6, 7]), (9, 144115187807420992, [6, 9])], draws := [], pars := [] }
theorem F234_eq (a0 a1 : Value) (w : World) (R : Value → World → Prop) : vcF Tryz.prog cfg234 Tryz.f234 [a0, a1] w R = F234 a0 a1 w R := by kernel_rfl
theorem F234_call {a0 a1 : Value} {w : World} {R : Value → World → Prop} (h : F234 a0 a1 w R) : CALL Tryz.prog 234 [a0, a1] w R :=
  call_of (g := cfg234) ent mixed Tryz.func234 (Nat.le_of_ble_eq_true (by kernel_rfl)) (by kernel_rfl) (F234_eq a0 a1 w R ▸ h)
set_option linter.unusedVariables false
set_option linter.unusedSimpArgs false
open Rep (rep)
theorem bitsTo_setN {p : Nat → Prop} {n : Nat} : ∀ {k : Nat}, k ≤ n → bitsTo (setN p n) k = ints (setL k p)
  | 0, _ => rfl
  | k + 1, h => by
    rw [bitsTo, bitsTo_setN (k := k) (by omega)]
    by_cases hp : p k
    · rw [if_pos (setN_bit.2 ⟨by omega, hp⟩), setL_yes hp, ints_append]; rfl
    · rw [if_neg fun e => hp (setN_bit.1 e).2, setL_no hp]
theorem bitsL_setN {p : Nat → Prop} {n : Nat} (h : n ≤ 62) : bitsL (setN p n) = ints (setL n p) := by
  rw [bitsL_eq (k := n) setN_lt (by omega), bitsTo_setN (Nat.le_refl _)]
theorem setN_small {p : Nat → Prop} {n : Nat} (h : n ≤ 8) : setN p n < 256 := Nat.lt_of_lt_of_le setN_lt (Nat.pow_le_pow_right (n := 2) (by omega) h)
/-- whom each procedure calls (4) or starts (5); what is called from each one on -/
noncomputable def cls (c : DCode) (op : Int) : List Nat := (List.range c.procs.length).map fun p => setN (OpsP c p op) c.procs.length
noncomputable def frs (c : DCode) : List Nat := (List.range c.procs.length).map fun p => setN (FromP c p) c.procs.length
theorem cls_len (c : DCode) (op : Int) : (cls c op).length = c.procs.length := by simp [cls]
theorem frs_len (c : DCode) : (frs c).length = c.procs.length := by simp [frs]
theorem cls_at {c : DCode} {op : Int} {p : Nat} (hp : p < c.procs.length) : nat0 (cls c op) p = setN (OpsP c p op) c.procs.length := by rw [← nat0_get (by rw [cls_len]; exact hp)]; simp [cls]
theorem frs_at {c : DCode} {p : Nat} (hp : p < c.procs.length) : nat0 (frs c) p = setN (FromP c p) c.procs.length := by rw [← nat0_get (by rw [frs_len]; exact hp)]; simp [frs]
noncomputable def rootsN (c : DCode) : Nat := setN (RootP c) c.procs.length
noncomputable def usedN (c : DCode) : Nat := setN (UsedP c) c.procs.length
/-- the program's world of a code -/
structure WAt (W0 : World) (b : Nat) (c : DCode) : Prop where
  wl : WL W0 b c
  calls : At W0 b (0 + 6) (ints (cls c 4))
  spawns : At W0 b (0 + 7) (ints (cls c 5))
  frm : At W0 b (0 + 8) (ints (frs c))
  roots : At W0 b (0 + 9) (rootsN c : Int)
  used : At W0 b (0 + 10) (usedN c : Int)
/-- what is left of a set when what P holds of is gone -/
def KI (m : Nat) (P : Nat → Prop) : Prop := m < 64 ∧ ∀ l, l < 6 → (m.testBit l = false ↔ P l)
theorem KI.start {P : Nat → Prop} (h : ∀ l, ¬ P l) : KI 63 P := ⟨by omega, fun l hl => by rw [full_bit hl]; exact ⟨fun e => (by cases e), fun e => absurd e (h l)⟩⟩
theorem KI.drop {m a : Nat} {P P' : Nat → Prop} (h : KI m P) (hP : ∀ l, P' l ↔ P l ∨ a = l) : KI (andN m (2 ^ a)) P' := by
  refine ⟨Nat.lt_of_le_of_lt (andN_le _ _) h.1, fun l hl => ?_⟩
  rw [andN_bit, Nat.testBit_two_pow, hP, ← h.2 l hl]
  simp only [Bool.and_eq_false_iff, Bool.not_eq_false', decide_eq_true_eq]
theorem KI.congr {m : Nat} {P P' : Nat → Prop} (h : KI m P) (hP : ∀ l, P' l ↔ P l) : KI m P' := ⟨h.1, fun l hl => by rw [h.2 l hl, hP]⟩
theorem KI.eq {m : Nat} {P : Nat → Prop} (h : KI m P) : m = m6 fun l => ¬ P l := eq_m6 h.1 fun l hl => by rw [← h.2 l hl]; simp
theorem mem_take_iff {α : Type} {l : List α} {k : Nat} (hk : k < l.length) {x : α} : x ∈ l.take (k + 1) ↔ x ∈ l.take k ∨ x = l[k] := by
  rw [List.take_succ_eq_append_getElem hk, List.mem_append]; simp
/-- a procedure gives a lock -/
def GivesP (c : DCode) (q l : Nat) : Prop := ∃ i, LiveP c q i ∧ (insAt c i).op = 7 ∧ agN c i = l
theorem keepIn_ok {w W0 : World} {b p : Nat} {c : DCode} (hW : WAt W0 b c) (e0 : Ext W0 w) (hc : CodeR c) (hp : p < c.procs.length) :
    CALL Tryz.prog 243 [.pointer (some ⟨b, 0, none⟩), .int .i64 (p : Int)] w fun r w' => Ext w w' ∧ r = .int .i64 (keepN c p : Nat) := by
  refine F243_call ?_
  unfold F243
  have h8 := hc.1.procs8
  have hil := hc.f.ins
  refine NIL.mk rfl ?_
  refine rd_fld fd144_4 ?_
  refine rd_load ty23 hW.frm e0 fun v13 h13 => ?_
  refine rd_indexN u23 ty3 h13 (by rw [ints_len, frs_len]; exact hp) fun b1 o1 hA1 => ?_
  rw [ints_nat0, frs_at hp] at hA1
  refine rd_loadI ty3 hA1 e0 fun _ => ?_
  have hsm := setN_small (p := FromP c p) h8.1
  refine (bitsOf_ok (m := setN (FromP c p) c.procs.length) (by omega)).mono ?_
  rintro v17 w1 ⟨hx1, ho1⟩
  rw [bitsL_setN (by omega)] at ho1
  have hL : ∀ q, q ∈ setL c.procs.length (FromP c p) ↔ q < c.procs.length ∧ FromP c p q := fun q => mem_setL
  have hLl := setL_len (n := c.procs.length) (p := FromP c p)
  generalize setL c.procs.length (FromP c p) = L at *
  refine rd_len u23 ho1.is ?_
  rw [ints_len]
  refine loopC L.length (fun k us w' => ∃ m : Nat, us = [.int .i64 (m : Int), .int .i64 (k : Int)] ∧ k ≤ L.length ∧ Ext w1 w' ∧ KI m (fun l => ∃ q ∈ L.take k, GivesP c q l)) 0 (Nat.zero_le _) ⟨63, rfl, Nat.zero_le _, Ext.refl _, KI.start (by simp)⟩ ?_
  rintro k mk u w2 hkm ⟨m, hu, hkl, hx2, hK⟩
  simp only [List.map_cons, List.map_nil, List.cons.injEq, and_true] at hu
  obtain ⟨hu1, hu2⟩ := hu
  rw [hu1, hu2]
  refine rd_lss ?_
  refine br (fun hlt => ?_) (fun hge => ?_)
  case refine_2 =>
    rw [show L.take k = L from List.take_of_length_le (by omega)] at hK
    refine ⟨hx1.trans hx2, ?_⟩
    have : m = keepN c p := by
      rw [hK.eq]
      refine m6_congr fun l hl => not_congr ?_
      constructor
      · rintro ⟨q, hq, i, h1, h2, h3⟩
        exact ⟨q, i, ((hL q).1 hq).1, ((hL q).1 hq).2, h1, h2, h3⟩
      · rintro ⟨q, i, h0, hf, h1, h2, h3⟩
        exact ⟨q, (hL q).2 ⟨h0, hf⟩, i, h1, h2, h3⟩
    rw [this]
  have hk : k < L.length := by omega
  refine rd_indexN u23 ty3 (i := k) (ho1.is) (by rw [ints_len]; exact hk) fun b2 o2 hA2 => ?_
  rw [ints_get] at hA2
  refine rd_loadI ty3 hA2 hx2 fun _ => ?_
  have hq := (hL L[k]).1 (List.getElem_mem hk)
  have htk := fun x => mem_take_iff hk (x := x)
  generalize L[k] = q at *
  have hx02 := (e0.trans hx1).trans hx2
  refine (liveOf_ok hW.wl hx02 hc hq.1).mono ?_
  rintro v25 w3 ⟨hx3, ho3⟩
  have hM : ∀ i, i ∈ setL c.ins.length (LiveP c q) ↔ i < c.ins.length ∧ LiveP c q i := fun i => mem_setL
  have hMl := setL_len (n := c.ins.length) (p := LiveP c q)
  generalize setL c.ins.length (LiveP c q) = M at *
  refine rd_len u23 ho3.is ?_
  rw [ints_len]
  refine loopC M.length (fun j us w' => ∃ m : Nat, us = [.int .i64 (m : Int), .int .i64 (j : Int)] ∧ j ≤ M.length ∧ Ext w3 w' ∧ KI m (fun l => (∃ q ∈ L.take k, GivesP c q l) ∨ ∃ i ∈ M.take j, (insAt c i).op = 7 ∧ agN c i = l)) 0 (Nat.zero_le _) ⟨m, rfl, Nat.zero_le _, Ext.refl _, hK.congr fun l => by simp⟩ ?_
  rintro j mj u w4 hjm ⟨m4, hu, hjl, hx4, hK4⟩
  simp only [List.map_cons, List.map_nil, List.cons.injEq, and_true] at hu
  obtain ⟨hu1, hu2⟩ := hu
  rw [hu1, hu2]
  refine rd_lss ?_
  refine br (fun hlt => ?_) (fun hge => ?_)
  case refine_2 =>
    rw [show M.take j = M from List.take_of_length_le (by omega)] at hK4
    refine rd_inc (by omega) ?_
    refine ⟨mk - 1, by omega, k + 1, by omega, m4, rfl, by omega, hx2.trans (hx3.trans hx4), hK4.congr fun l => ?_⟩
    constructor
    · rintro ⟨r, hr, h1⟩
      rcases (htk r).1 hr with hr | rfl
      · exact .inl ⟨r, hr, h1⟩
      · obtain ⟨i, h1, h2, h3⟩ := h1
        exact .inr ⟨i, (hM i).2 ⟨(live_lt hc (by rw [hc.2.1.1]; exact hq.1) h1).1, h1⟩, h2, h3⟩
    · rintro (⟨r, hr, h1⟩ | ⟨i, hi, h2, h3⟩)
      · exact ⟨r, (htk r).2 (.inl hr), h1⟩
      · exact ⟨q, (htk q).2 (.inr rfl), i, ((hM i).1 hi).2, h2, h3⟩
  have hj : j < M.length := by omega
  refine rd_indexN u23 ty3 (i := j) (ho3.is) (by rw [ints_len]; exact hj) fun b3 o3 hA3 => ?_
  rw [ints_get] at hA3
  refine rd_loadI ty3 hA3 hx4 fun _ => ?_
  have hi := (hM M[j]).1 (List.getElem_mem hj)
  have htj := fun x => mem_take_iff hj (x := x)
  generalize M[j] = i at *
  have hx04 := hx02.trans (hx3.trans hx4)
  refine NIL.mk rfl ?_
  refine rd_fld fd144_0 ?_
  refine rd_fld fd35_4 ?_
  refine rd_load ty33 (at_DCode_4 hW.wl.code) hx04 fun v35 h35 => ?_
  refine rd_indexN u33 ty136 h35 hi.1 fun b4 o4 hA4 => ?_
  rw [insAt_get] at hA4
  refine rd_fld fd136_0 ?_
  refine rd_loadI ty3 (at_DIns_0 hA4) hx04 fun _ => ?_
  refine rd_eql ?_
  refine br (fun c7 => ?_) (fun c7 => ?_)
  · obtain ⟨ha, _, hq6⟩ := ag_lock hc hi.1 (.inr c7)
    have hpw := pow_lt6 hq6
    refine NIL.mk rfl ?_
    refine rd_fld fd144_0 ?_
    refine rd_fld fd35_4 ?_
    refine rd_load ty33 (at_DCode_4 hW.wl.code) hx04 fun v46 h46 => ?_
    refine rd_indexN u33 ty136 h46 hi.1 fun b5 o5 hA5 => ?_
    rw [insAt_get] at hA5
    refine rd_fld fd136_1 ?_
    refine rd_loadI ty3 (at_DIns_1 hA5) hx04 fun _ => ?_
    rw [ha]
    refine rd_uint (by kernel_rfl) u77 (by omega) ?_
    refine rd_shl1 (by omega) ?_
    have h64 := hK4.1
    refine rd_andNot (m := m4) (n := 2 ^ agN c i) (by omega) (by omega) ?_
    refine rd_inc (by omega) ?_
    refine ⟨mj - 1, by omega, j + 1, by omega, _, rfl, by omega, hx4, hK4.drop fun l => ?_⟩
    constructor
    · rintro (h | ⟨r, hr, h1, h2⟩)
      · exact .inl (.inl h)
      · rcases (htj r).1 hr with hr | rfl
        · exact .inl (.inr ⟨r, hr, h1, h2⟩)
        · exact .inr h2
    · rintro ((h | ⟨r, hr, h1⟩) | h)
      · exact .inl h
      · exact .inr ⟨r, (htj r).2 (.inl hr), h1⟩
      · exact .inr ⟨i, (htj i).2 (.inr rfl), c7, h⟩
  · refine rd_inc (by omega) ?_
    refine ⟨mj - 1, by omega, j + 1, by omega, _, rfl, by omega, hx4, hK4.congr fun l => ?_⟩
    constructor
    · rintro (h | ⟨r, hr, h1, h2⟩)
      · exact .inl h
      · rcases (htj r).1 hr with hr | rfl
        · exact .inr ⟨r, hr, h1, h2⟩
        · exact absurd h1 c7
    · rintro (h | ⟨r, hr, h1⟩)
      · exact .inl h
      · exact .inr ⟨r, (htj r).2 (.inl hr), h1⟩
theorem l13Keep_ok {w W0 : World} {v0 : Value} {p : Nat} {c : DCode} (h0 : Is W0 v0 c) (e0 : Ext W0 w) (hc : CodeR c) (hp : p < c.procs.length) :
    CALL Tryz.prog 234 [v0, .int .i64 (p : Int)] w fun r w' => Ext w w' ∧ r = .int .i64 (keepN c p : Nat) := by
  refine F234_call ?_
  unfold F234
  have h8 := hc.1.procs8
  have hil := hc.f.ins
  refine op_box h0 e0 fun w0 hx0 hA => ?_
  refine rd_load ty35 hA (Ext.refl _) fun v10 h10 => ?_
  refine (l10FromM_ok h10 (Ext.refl _) hc hp).mono ?_
  rintro _ w1 ⟨hx1, g, rfl, hg, hM1⟩
  have hFr : (fun i => i = p ∨ RP (callN c) p i) = FromP c p := rfl
  rw [hFr] at hM1
  refine loopC c.procs.length (fun k us w' => ∃ m : Nat, us = [.int .i64 (m : Int), .int .i64 (k : Int)] ∧ k ≤ c.procs.length ∧ Ext w1 w' ∧ KI m (fun l => ∃ q, q < k ∧ FromP c p q ∧ GivesP c q l)) 0 (Nat.zero_le _) ⟨63, rfl, Nat.zero_le _, Ext.refl _, KI.start (by simp)⟩ ?_
  rintro k mk u w2 hkm ⟨m, hu, hkl, hx2, hK⟩
  simp only [List.map_cons, List.map_nil, List.cons.injEq, and_true] at hu
  obtain ⟨hu1, hu2⟩ := hu
  rw [hu1, hu2]
  have hx02 := hx1.trans hx2
  refine rd_fld fd35_2 ?_
  refine rd_load ty22 (at_DCode_2 hA) hx02 fun v15 h15 => ?_
  refine rd_len u22 h15 ?_
  refine rd_lss ?_
  refine br (fun hlt => ?_) (fun hge => ?_)
  case refine_2 =>
    have hke : k = c.procs.length := by omega
    rw [hke] at hK
    refine ⟨hx0.trans hx02, ?_⟩
    have : m = keepN c p := by
      rw [hK.eq]
      refine m6_congr fun l hl => not_congr ?_
      constructor
      · rintro ⟨q, hq, hf, i, h1, h2, h3⟩
        exact ⟨q, i, hq, hf, h1, h2, h3⟩
      · rintro ⟨q, i, h0, hf, h1, h2, h3⟩
        exact ⟨q, h0, hf, i, h1, h2, h3⟩
    rw [this]
  have hk : k < c.procs.length := by omega
  refine rd_indexN u72 ty4 (i := k) hM1.is (by rw [setB_len]; exact hk) fun b2 o2 hA2 => ?_
  refine rd_loadB ty4 hA2 hx2 ?_
  have hmk := mkd_setB (n := c.procs.length) (p := FromP c p) (i := k)
  rw [mkd_get (by rw [setB_len]; exact hk)] at hmk
  refine rd_not ?_
  refine br_b (fun hf => ?_) (fun hf => ?_)
  · have hnf : ¬ FromP c p k := fun h => by rw [hmk.2 ⟨hk, h⟩] at hf; cases hf
    refine rd_inc (by omega) ?_
    refine ⟨mk - 1, by omega, k + 1, by omega, m, rfl, by omega, hx2, hK.congr fun l => ?_⟩
    constructor
    · rintro ⟨q, hq, h1, h2⟩
      by_cases e : q = k
      · subst e; exact absurd h1 hnf
      · exact ⟨q, by omega, h1, h2⟩
    · rintro ⟨q, hq, h1⟩; exact ⟨q, by omega, h1⟩
  have hfr : FromP c p k := (hmk.1 (by simpa using hf)).2
  refine rd_load ty35 hA hx02 fun v25 h25 => ?_
  refine (l09Live_ok h25 hx02 hc (by rw [hc.2.1.1]; exact hk)).mono ?_
  rintro v27 w3 ⟨hx3, ho3⟩
  refine loopC c.ins.length (fun j us w' => ∃ m : Nat, us = [.int .i64 (m : Int), .int .i64 (j : Int)] ∧ j ≤ c.ins.length ∧ Ext w3 w' ∧ KI m (fun l => (∃ q, q < k ∧ FromP c p q ∧ GivesP c q l) ∨ ∃ i, i < j ∧ LiveP c k i ∧ (insAt c i).op = 7 ∧ agN c i = l)) 0 (Nat.zero_le _) ⟨m, rfl, Nat.zero_le _, Ext.refl _, hK.congr fun l => by simp⟩ ?_
  rintro j mj u w4 hjm ⟨m4, hu, hjl, hx4, hK4⟩
  simp only [List.map_cons, List.map_nil, List.cons.injEq, and_true] at hu
  obtain ⟨hu1, hu2⟩ := hu
  rw [hu1, hu2]
  have hx04 := hx02.trans (hx3.trans hx4)
  refine rd_fld fd35_4 ?_
  refine rd_load ty33 (at_DCode_4 hA) hx04 fun v30 h30 => ?_
  refine rd_len u33 h30 ?_
  refine rd_lss ?_
  refine br (fun hlt => ?_) (fun hge => ?_)
  case refine_2 =>
    have hje : j = c.ins.length := by omega
    rw [hje] at hK4
    refine rd_inc (by omega) ?_
    refine ⟨mk - 1, by omega, k + 1, by omega, m4, rfl, by omega, hx2.trans (hx3.trans hx4), hK4.congr fun l => ?_⟩
    constructor
    · rintro ⟨q, hq, h1, h2⟩
      by_cases e : q = k
      · subst e
        obtain ⟨i, h3, h4⟩ := h2
        exact .inr ⟨i, (live_lt hc (by rw [hc.2.1.1]; exact hk) h3).1, h3, h4⟩
      · exact .inl ⟨q, by omega, h1, h2⟩
    · rintro (⟨q, hq, h1⟩ | ⟨i, hi, h2⟩)
      · exact ⟨q, by omega, h1⟩
      · exact ⟨k, by omega, hfr, i, h2⟩
  have hj : j < c.ins.length := by omega
  refine rd_indexN u72 ty4 (i := j) ho3.is (by rw [setB_len]; exact hj) fun b3 o3 hA3 => ?_
  refine rd_loadB ty4 hA3 hx4 ?_
  have hmj := mkd_setB (n := c.ins.length) (p := LiveP c k) (i := j)
  rw [mkd_get (by rw [setB_len]; exact hj)] at hmj
  have hno : ∀ w', Ext w3 w' → ¬ (LiveP c k j ∧ (insAt c j).op = 7) → ∃ m : Nat, [Value.int .i64 (m4 : Int), Value.int .i64 ((j + 1 : Nat) : Int)] = [.int .i64 (m : Int), .int .i64 ((j + 1 : Nat) : Int)] ∧ j + 1 ≤ c.ins.length ∧ Ext w3 w' ∧ KI m (fun l => (∃ q, q < k ∧ FromP c p q ∧ GivesP c q l) ∨ ∃ i, i < j + 1 ∧ LiveP c k i ∧ (insAt c i).op = 7 ∧ agN c i = l) := fun w' hx hn => by
    refine ⟨m4, rfl, by omega, hx, hK4.congr fun l => or_congr Iff.rfl ?_⟩
    constructor
    · rintro ⟨i, h1, h2, h3, h4⟩
      by_cases e : i = j
      · subst e; exact absurd ⟨h2, h3⟩ hn
      · exact ⟨i, by omega, h2, h3, h4⟩
    · rintro ⟨i, h1, h2⟩; exact ⟨i, by omega, h2⟩
  refine br_b (fun hf4 => ?_) (fun hf4 => ?_)
  · refine rd_fld fd35_4 ?_
    refine rd_load ty33 (at_DCode_4 hA) hx04 fun v41 h41 => ?_
    refine rd_indexN u33 ty136 h41 hj fun b4 o4 hA4 => ?_
    rw [insAt_get] at hA4
    refine rd_fld fd136_0 ?_
    refine rd_loadI ty3 (at_DIns_0 hA4) hx04 fun _ => ?_
    refine rd_eql ?_
    refine br (fun c7 => ?_) (fun c7 => ?_)
    · obtain ⟨ha, _, hq6⟩ := ag_lock hc hj (.inr c7)
      have hpw := pow_lt6 hq6
      refine rd_fld fd35_4 ?_
      refine rd_load ty33 (at_DCode_4 hA) hx04 fun v50 h50 => ?_
      refine rd_indexN u33 ty136 h50 hj fun b5 o5 hA5 => ?_
      rw [insAt_get] at hA5
      refine rd_fld fd136_1 ?_
      refine rd_loadI ty3 (at_DIns_1 hA5) hx04 fun _ => ?_
      rw [ha]
      refine (l12Bit_ok (by omega)).mono ?_
      rintro _ w5 ⟨hx5, rfl⟩
      refine (without_ok hK4.1 hpw).mono ?_
      rintro _ w6 ⟨hx6, rfl⟩
      rw [without_and hK4.1 hpw]
      refine rd_inc (by omega) ?_
      refine ⟨mj - 1, by omega, j + 1, by omega, _, rfl, by omega, hx4.trans (hx5.trans hx6), hK4.drop fun l => ?_⟩
      constructor
      · rintro (h | ⟨i, h1, h2, h3, h4⟩)
        · exact .inl (.inl h)
        · by_cases e : i = j
          · subst e; exact .inr h4
          · exact .inl (.inr ⟨i, by omega, h2, h3, h4⟩)
      · rintro ((h | ⟨i, h1, h2⟩) | h)
        · exact .inl h
        · exact .inr ⟨i, by omega, h2⟩
        · exact .inr ⟨j, by omega, (hmj.1 hf4).2, c7, h⟩
    · refine rd_inc (by omega) ?_
      exact ⟨mj - 1, by omega, j + 1, by omega, hno w4 hx4 fun h => c7 h.2⟩
  · refine rd_inc (by omega) ?_
    exact ⟨mj - 1, by omega, j + 1, by omega, hno w4 hx4 fun h => by rw [hmj.2 ⟨hj, h.1⟩] at hf4; cases hf4⟩
end Go.Proofs.YtjgfldfbljmhhaaGreat
namespace Go.Proofs.YtjgfldfbljmhhaaGreat
open Go Go.Sh Go.Proofs
set_option linter.unusedVariables false
/-- (*impl.world).asked -/
def F199 (a0 a1 a2 : Value) (w : World) (R : Value → World → Prop) : Prop :=
  (fun w => NIL a0 <|
  RD Tryz.prog (Instr.fieldAt 144 a0 0) w fun x13 =>
  RD Tryz.prog (Instr.loadAt 35 x13) w fun x14 =>
  (fun w_ => CALL Tryz.prog 132 [a0, a1, a2, (Value.int .i64 0)] w_ fun x10 w =>
  Ext w_ w ∧
  CALL Tryz.prog 133 [x14, a2] w fun x16 w =>
  RD Tryz.prog (bin .sub 3 (.tmp 0) (.const undef) x16 (Value.int .i64 1)) w fun x17 =>
  RD Tryz.prog (Instr.indexAt 23 x10 x17) w fun x18 =>
  RD Tryz.prog (Instr.loadAt 3 x18) w fun x19 =>
  R x19 w) w) (World.drew1 w)
def cfg199 : Cfg := { ext := extL, joins := [], loops := [], draws := [(1, [0, 1, 2, 4, 5, 6, 7, 8, 3, 9, 10, 11, 12, 13], 8)], pars := [] }
theorem F199_eq (a0 a1 a2 : Value) (w : World) (R : Value → World → Prop) : vcF Tryz.prog cfg199 Tryz.f199 [a0, a1, a2] w R = F199 a0 a1 a2 w R := by kernel_rfl
theorem F199_call {a0 a1 a2 : Value} {w : World} {R : Value → World → Prop} (h : F199 a0 a1 a2 w R) : CALL Tryz.prog 199 [a0, a1, a2] w R :=
  call_of (g := cfg199) ent mixed Tryz.func199 (Nat.le_of_ble_eq_true (by kernel_rfl)) (by kernel_rfl) (F199_eq a0 a1 a2 w R ▸ h)
/-- spec.l13Gen -/
def F184 (a0 a1 a2 : Value) (w : World) (R : Value → World → Prop) : Prop :=
  OP Tryz.prog (Instr.box 35 a0) w fun x3 w =>
  (fun w => RD Tryz.prog (Instr.loadAt 35 x3) w fun x7 =>
  RD Tryz.prog (Instr.loadAt 35 x3) w fun x11 =>
  (fun w_ => CALL Tryz.prog 115 [x7, a1, a2, (Value.int .i64 0)] w_ fun x10 w =>
  Ext w_ w ∧
  CALL Tryz.prog 116 [x11, a2] w fun x13 w =>
  RD Tryz.prog (Instr.indexAt 23 x10 x13) w fun x14 =>
  RD Tryz.prog (Instr.loadAt 3 x14) w fun x15 =>
  R x15 w) w) (World.drew1 w)
def cfg184 : Cfg := { ext := extL, joins := [], loops := [], draws := [(1, [0, 1, 2, 4, 5, 3, 6, 7, 8, 9], 8)], pars := [] }
theorem F184_eq (a0 a1 a2 : Value) (w : World) (R : Value → World → Prop) : vcF Tryz.prog cfg184 Tryz.f184 [a0, a1, a2] w R = F184 a0 a1 a2 w R := by kernel_rfl
theorem F184_call {a0 a1 a2 : Value} {w : World} {R : Value → World → Prop} (h : F184 a0 a1 a2 w R) : CALL Tryz.prog 184 [a0, a1, a2] w R :=
  call_of (g := cfg184) ent mixed Tryz.func184 (Nat.le_of_ble_eq_true (by kernel_rfl)) (by kernel_rfl) (F184_eq a0 a1 a2 w R ▸ h)
/-- (*impl.world).firstEffects -/
def F198 (a0 : Value) (w : World) (R : Value → World → Prop) : Prop :=
  NIL a0 <|
  RD Tryz.prog (Instr.fieldAt 144 a0 0) w fun x7 =>
  RD Tryz.prog (Instr.fieldAt 35 x7 2) w fun x8 =>
  RD Tryz.prog (Instr.loadAt 22 x8) w fun x9 =>
  RD Tryz.prog (Builtin.len_ #[22] 3 [x9].toArray) w fun x10 =>
  LOOPI [3, 11] [(Value.slice none 0 0), (Value.int .i64 0)] w fun u3 w next3 =>
   RD Tryz.prog (bin .lss 3 (.tmp 0) (.tmp 0) (u3 11) x10) w fun x12 =>
   BR x12
    (CALL Tryz.prog 243 [a0, (u3 11)] w fun x17 w =>
    RD Tryz.prog (Instr.build 195 #[(0, x17), (1, (Value.int .i64 63))]) w fun x18 =>
    OP Tryz.prog (Instr.buildSlice 126 1 #[(0, x18)]) w fun x19 w =>
    OP Tryz.prog (Builtin.append_ #[126, 126] 126 [(u3 3), x19].toArray) w fun x20 w =>
    RD Tryz.prog (bin .add 3 (.tmp 0) (.const undef) (u3 11) (Value.int .i64 1)) w fun x21 =>
    next3 [x20, x21] w)
    (R (u3 3) w)
def cfg198 : Cfg := { ext := extL, joins := [], loops := [(3, 4192280, [3, 11])], draws := [], pars := [] }
theorem F198_eq (a0 : Value) (w : World) (R : Value → World → Prop) : vcF Tryz.prog cfg198 Tryz.f198 [a0] w R = F198 a0 w R := by kernel_rfl
theorem F198_call {a0 : Value} {w : World} {R : Value → World → Prop} (h : F198 a0 w R) : CALL Tryz.prog 198 [a0] w R :=
  call_of (g := cfg198) ent mixed Tryz.func198 (Nat.le_of_ble_eq_true (by kernel_rfl)) (by kernel_rfl) (F198_eq a0 w R ▸ h)
/-- spec.l13New -/
def F183 (a0 : Value) (w : World) (R : Value → World → Prop) : Prop :=
  OP Tryz.prog (Instr.box 35 a0) w fun x1 w =>
  OP Tryz.prog (Instr.buildSlice 126 0 #[]) w fun x5 w =>
  LOOPI [3, 4] [x5, (Value.int .i64 0)] w fun u3 w next3 =>
   RD Tryz.prog (Instr.fieldAt 35 x1 2) w fun x7 =>
   RD Tryz.prog (Instr.loadAt 22 x7) w fun x8 =>
   RD Tryz.prog (Builtin.len_ #[22] 3 [x8].toArray) w fun x9 =>
   RD Tryz.prog (bin .lss 3 (.tmp 0) (.tmp 0) (u3 4) x9) w fun x10 =>
   BR x10
    (RD Tryz.prog (Instr.loadAt 35 x1) w fun x14 =>
    CALL Tryz.prog 234 [x14, (u3 4)] w fun x16 w =>
    RD Tryz.prog (Instr.build 195 #[(0, x16), (1, (Value.int .i64 63))]) w fun x17 =>
    OP Tryz.prog (Instr.buildSlice 126 1 #[(0, x17)]) w fun x18 w =>
    OP Tryz.prog (Builtin.append_ #[126, 126] 126 [(u3 3), x18].toArray) w fun x19 w =>
    RD Tryz.prog (bin .add 3 (.tmp 0) (.const undef) (u3 4) (Value.int .i64 1)) w fun x12 =>
    next3 [x19, x12] w)
    (R (u3 3) w)
def cfg183 : Cfg := { ext := extL, joins := [], loops := [(3, 1048536, [3, 4])], draws := [], pars := [] }
theorem F183_eq (a0 : Value) (w : World) (R : Value → World → Prop) : vcF Tryz.prog cfg183 Tryz.f183 [a0] w R = F183 a0 w R := by kernel_rfl
theorem F183_call {a0 : Value} {w : World} {R : Value → World → Prop} (h : F183 a0 w R) : CALL Tryz.prog 183 [a0] w R :=
  call_of (g := cfg183) ent mixed Tryz.func183 (Nat.le_of_ble_eq_true (by kernel_rfl)) (by kernel_rfl) (F183_eq a0 w R ▸ h)
/-- (*impl.world).effects -/
def F130 (a0 : Value) (w : World) (R : Value → World → Prop) : Prop :=
  CALL Tryz.prog 198 [a0] w fun x8 w =>
  LOOPI [4] [(Value.bool true)] w fun u3 w next3 =>
   BR (u3 4)
    (RD Tryz.prog (Builtin.len_ #[126] 3 [x8].toArray) w fun x11 =>
    LOOPI [4, 12] [(Value.bool false), (Value.int .i64 0)] w fun u6 w next6 =>
     RD Tryz.prog (bin .lss 3 (.tmp 0) (.tmp 0) (u6 12) x11) w fun x13 =>
     BR x13
      (CALL Tryz.prog 199 [a0, x8, (u6 12)] w fun x18 w =>
      RD Tryz.prog (Instr.indexAt 126 x8 (u6 12)) w fun x22 =>
      RD Tryz.prog (Instr.fieldAt 195 x22 1) w fun x23 =>
      RD Tryz.prog (Instr.loadAt 3 x23) w fun x24 =>
      RD Tryz.prog (bin .neq 3 (.tmp 0) (.tmp 0) x18 x24) w fun x25 =>
      BR x25
       (RD Tryz.prog (Instr.indexAt 126 x8 (u6 12)) w fun x29 =>
       RD Tryz.prog (Instr.fieldAt 195 x29 1) w fun x30 =>
       OPU Tryz.prog (Instr.storeAt 3 x30 x18) w fun w =>
       RD Tryz.prog (bin .add 3 (.tmp 0) (.const undef) (u6 12) (Value.int .i64 1)) w fun x31 =>
       next6 [(Value.bool true), x31] w)
       (RD Tryz.prog (bin .add 3 (.tmp 0) (.const undef) (u6 12) (Value.int .i64 1)) w fun x31 =>
       next6 [(u6 4), x31] w))
      (next3 [(u6 4)] w))
    (R x8 w)
def cfg130 : Cfg := { ext := extL, joins := [], loops := [(3, 4294966896, [4]), (6, 4294963312, [4, 12])], draws := [], pars := [] }
theorem F130_eq (a0 : Value) (w : World) (R : Value → World → Prop) : vcF Tryz.prog cfg130 Tryz.f130 [a0] w R = F130 a0 w R := by kernel_rfl
theorem F130_call {a0 : Value} {w : World} {R : Value → World → Prop} (h : F130 a0 w R) : CALL Tryz.prog 130 [a0] w R :=
  call_of (g := cfg130) ent mixed Tryz.func130 (Nat.le_of_ble_eq_true (by kernel_rfl)) (by kernel_rfl) (F130_eq a0 w R ▸ h)
/-- spec.l13Effects -/
def F112 (a0 : Value) (w : World) (R : Value → World → Prop) : Prop :=
  OP Tryz.prog (Instr.box 35 a0) w fun x1 w =>
  RD Tryz.prog (Instr.loadAt 35 x1) w fun x7 =>
  CALL Tryz.prog 183 [x7] w fun x8 w =>
  LOOPI [4] [(Value.bool true)] w fun u3 w next3 =>
   BR (u3 4)
    (LOOPI [4, 5] [(Value.bool false), (Value.int .i64 0)] w fun u6 w next6 =>
     RD Tryz.prog (Instr.fieldAt 35 x1 2) w fun x11 =>
     RD Tryz.prog (Instr.loadAt 22 x11) w fun x12 =>
     RD Tryz.prog (Builtin.len_ #[22] 3 [x12].toArray) w fun x13 =>
     RD Tryz.prog (bin .lss 3 (.tmp 0) (.tmp 0) (u6 5) x13) w fun x14 =>
     BR x14
      (RD Tryz.prog (Instr.loadAt 35 x1) w fun x17 =>
      CALL Tryz.prog 184 [x17, x8, (u6 5)] w fun x20 w =>
      RD Tryz.prog (Instr.indexAt 126 x8 (u6 5)) w fun x24 =>
      RD Tryz.prog (Instr.fieldAt 195 x24 1) w fun x25 =>
      RD Tryz.prog (Instr.loadAt 3 x25) w fun x26 =>
      RD Tryz.prog (bin .neq 3 (.tmp 0) (.tmp 0) x20 x26) w fun x27 =>
      BR x27
       (RD Tryz.prog (Instr.indexAt 126 x8 (u6 5)) w fun x31 =>
       RD Tryz.prog (Instr.fieldAt 195 x31 1) w fun x32 =>
       OPU Tryz.prog (Instr.storeAt 3 x32 x20) w fun w =>
       RD Tryz.prog (bin .add 3 (.tmp 0) (.const undef) (u6 5) (Value.int .i64 1)) w fun x16 =>
       next6 [(Value.bool true), x16] w)
       (RD Tryz.prog (bin .add 3 (.tmp 0) (.const undef) (u6 5) (Value.int .i64 1)) w fun x16 =>
       next6 [(u6 4), x16] w))
      (next3 [(u6 4)] w))
    (R x8 w)
def cfg112 : Cfg := { ext := extL, joins := [], loops := [(3, 8589934192, [4]), (6, 8589933680, [4, 5])], draws := [], pars := [] }
theorem F112_eq (a0 : Value) (w : World) (R : Value → World → Prop) : vcF Tryz.prog cfg112 Tryz.f112 [a0] w R = F112 a0 w R := by kernel_rfl
theorem F112_call {a0 : Value} {w : World} {R : Value → World → Prop} (h : F112 a0 w R) : CALL Tryz.prog 112 [a0] w R :=
  call_of (g := cfg112) ent mixed Tryz.func112 (Nat.le_of_ble_eq_true (by kernel_rfl)) (by kernel_rfl) (F112_eq a0 w R ▸ h)
set_option linter.unusedVariables false
set_option linter.unusedSimpArgs false
open Rep (rep)
theorem zN_end {c : DCode} (hc : CodeR c) {p : Nat} (hp : p < c.procs.length) : endB c p = ((zN c p + 1 : Nat) : Int) ∧ endOf c p = (zN c p : Int) ∧ zN c p < c.ins.length := by
  have h := zN_eq hc (p := p) (by rw [hc.2.1.1]; exact hp)
  refine ⟨by omega, ?_, h.2.2⟩
  rw [endOf_eq]; omega
theorem asked_ok {w W0 W1 : World} {b p : Nat} {v1 : Value} {c : DCode} {T : Tab} (hW : WL W0 b c) (e0 : Ext W0 w) (h1 : Is W1 v1 (effs T)) (e1 : Ext W1 w) (hc : CodeR c) (hT : TabR c T) (hp : p < c.procs.length) :
    CALL Tryz.prog 199 [.pointer (some ⟨b, 0, none⟩), v1, .int .i64 (p : Int)] w fun r w' => Ext w w' ∧ r = .int .i64 (asked c T p : Nat) := by
  refine F199_call ?_
  unfold F199
  obtain ⟨hz1, hz2, hz3⟩ := zN_end hc hp
  have hil := hc.f.ins
  have h8 := hc.1.procs8
  have hxd := ext_drew w
  generalize World.drew1 w = w1 at *
  refine NIL.mk rfl ?_
  refine rd_fld fd144_0 ?_
  refine rd_load ty35 hW.code (e0.trans hxd) fun v14 h14 => ?_
  refine (flow_ok hW (e0.trans hxd) h1 (e1.trans hxd) hc hT hp (h := 0) (by omega)).mono ?_
  rintro v10 w2 ⟨hx2, ho2⟩
  refine ⟨hx2, ?_⟩
  refine (endOfProc_ok h14 ((e0.trans hxd).trans hx2) (by omega)).mono ?_
  rintro _ w3 ⟨hx3, rfl⟩
  rw [hz1]
  refine rd_sub (by unfold I64; omega) ?_
  rw [show ((zN c p + 1 : Nat) : Int) - 1 = (zN c p : Int) by omega]
  refine rd_indexN u23 ty3 ho2.is (by rw [ints_len, flowN_len]; exact hz3) fun b1 o1 hA1 => ?_
  rw [ints_nat0] at hA1
  refine rd_loadI ty3 hA1 hx3 fun _ => ?_
  exact ⟨hxd.trans (hx2.trans hx3), rfl⟩
theorem l13Gen_ok {w W0 W1 : World} {p : Nat} {v0 v1 : Value} {c : DCode} {T : Tab} (h0 : Is W0 v0 c) (e0 : Ext W0 w) (h1 : Is W1 v1 (effs T)) (e1 : Ext W1 w) (hc : CodeR c) (hT : TabR c T) (hp : p < c.procs.length) :
    CALL Tryz.prog 184 [v0, v1, .int .i64 (p : Int)] w fun r w' => Ext w w' ∧ r = .int .i64 (asked c T p : Nat) := by
  refine F184_call ?_
  unfold F184
  obtain ⟨hz1, hz2, hz3⟩ := zN_end hc hp
  have hil := hc.f.ins
  have h8 := hc.1.procs8
  refine op_box h0 e0 fun w0 hx0 hA => ?_
  have hxd := ext_drew w0
  generalize World.drew1 w0 = w1 at *
  refine rd_load ty35 hA hxd fun v7 h7 => ?_
  refine rd_load ty35 hA hxd fun v11 h11 => ?_
  refine (l13From_ok h7 hxd h1 (e1.trans (hx0.trans hxd)) hc hT hp (h := 0) (by omega)).mono ?_
  rintro v10 w2 ⟨hx2, ho2⟩
  refine ⟨hx2, ?_⟩
  refine (l08End_ok h11 (hxd.trans hx2) (p := (p : Int)) (by omega) (by omega) hc.2.1.nonneg).mono ?_
  rintro _ w3 ⟨hx3, rfl⟩
  rw [hz2]
  refine rd_indexN u23 ty3 ho2.is (by rw [ints_len, flowN_len]; exact hz3) fun b1 o1 hA1 => ?_
  rw [ints_nat0] at hA1
  refine rd_loadI ty3 hA1 hx3 fun _ => ?_
  exact ⟨(hx0.trans hxd).trans (hx2.trans hx3), rfl⟩
/-- the first table, of k procedures -/
noncomputable def fst1 (c : DCode) (k : Nat) : Tab := (List.range k).map fun p => (keepN c p, 63)
theorem fst1_succ (c : DCode) (k : Nat) : effs (fst1 c (k + 1)) = effs (fst1 c k) ++ [eff1 (keepN c k, 63)] := by simp [fst1, effs, List.range_succ]
theorem fst1_len (c : DCode) (k : Nat) : (effs (fst1 c k)).length = k := by simp [fst1, effs]
theorem ownI_eff {w : World} (lo hi : Nat) {x : Nat × Nat} (h1 : x.1 < 64) (h2 : x.2 < 64) : OwnI lo hi w (.agg #[.int .i64 (x.1 : Int), .int .i64 (x.2 : Int)]) (eff1 x) :=
  ⟨[], mk_DEffect (x := eff1 x) (by unfold eff1 I64; simp only; omega) (by unfold eff1 I64; simp only; omega), by simp⟩
theorem firstEffects_ok {w W0 : World} {b : Nat} {c : DCode} (hW : WAt W0 b c) (e0 : Ext W0 w) (hc : CodeR c) :
    CALL Tryz.prog 198 [.pointer (some ⟨b, 0, none⟩)] w fun r w' => Ext w w' ∧ Own w.heap.size w' r (effs (fst1 c c.procs.length)) := by
  refine F198_call ?_
  unfold F198
  have h8 := hc.1.procs8
  refine NIL.mk rfl ?_
  refine rd_fld fd144_0 ?_
  refine rd_fld fd35_2 ?_
  refine rd_load ty22 (at_DCode_2 hW.wl.code) e0 fun v9 h9 => ?_
  refine rd_len u22 h9 ?_
  refine loopC c.procs.length (fun k us w' => ∃ v : Value, us = [v, .int .i64 (k : Int)] ∧ k ≤ c.procs.length ∧ Ext w w' ∧ RowI w.heap.size w'.heap.size 195 w' v (effs (fst1 c k))) 0 (Nat.zero_le _) ⟨_, rfl, Nat.zero_le _, Ext.refl _, rowI_nil _ _ _ _⟩ ?_
  rintro k mk u w2 hkm ⟨v, hu, hkl, hx2, hr2⟩
  simp only [List.map_cons, List.map_nil, List.cons.injEq, and_true] at hu
  obtain ⟨hu1, hu2⟩ := hu
  rw [hu1, hu2]
  refine rd_lss ?_
  refine br (fun hlt => ?_) (fun hge => ?_)
  case refine_2 =>
    have : k = c.procs.length := by omega
    rw [this] at hr2
    exact ⟨hx2, hr2.own.own⟩
  have hk : k < c.procs.length := by omega
  have hs2 := hx2.size
  refine (keepIn_ok hW (e0.trans hx2) hc hk).mono ?_
  rintro _ w3 ⟨hx3, rfl⟩
  have hs3 := hx3.size
  refine rd_build (cells := #[.int .i64 (keepN c k : Nat), .int .i64 63]) (by kernel_rfl) ?_
  refine op_push (lo2 := w3.heap.size) (hi2 := w3.heap.size) (x := eff1 (keepN c k, 63)) u126 ty195 z195 zc195 (by decide) (hr2.ext hx3) (by omega) (ownI_eff _ _ (x := (keepN c k, 63)) m6_lt (by omega)) (by omega) (by omega) (by rw [maxLen_eq, fst1_len]; omega) (by rw [fst1_len]; omega) fun v54 w9 hc9 hr9 => ?_
  refine rd_inc (by omega) ?_
  refine ⟨mk - 1, by omega, k + 1, by omega, v54, rfl, by omega, (hx2.trans hx3).chgI hc9 (Nat.le_refl _), ?_⟩
  rw [fst1_succ]
  exact hr9
theorem l13New_ok {w W0 : World} {v0 : Value} {c : DCode} (h0 : Is W0 v0 c) (e0 : Ext W0 w) (hc : CodeR c) :
    CALL Tryz.prog 183 [v0] w fun r w' => Ext w w' ∧ Own w.heap.size w' r (effs (fst1 c c.procs.length)) := by
  refine F183_call ?_
  unfold F183
  have h8 := hc.1.procs8
  refine op_box h0 e0 fun w0 hx0 hA => ?_
  have hs0 := hx0.size
  refine op_build0I (α := DEffect) u126 ty195 fun a w1 hx1 hr1 => ?_
  have hs1 := hx1.size
  refine loopC c.procs.length (fun k us w' => ∃ v : Value, us = [v, .int .i64 (k : Int)] ∧ k ≤ c.procs.length ∧ Ext w0 w' ∧ RowI w0.heap.size w'.heap.size 195 w' v (effs (fst1 c k))) 0 (Nat.zero_le _) ⟨_, rfl, Nat.zero_le _, hx1, hr1.mono hs1 (Nat.le_refl _)⟩ ?_
  rintro k mk u w2 hkm ⟨v, hu, hkl, hx2, hr2⟩
  simp only [List.map_cons, List.map_nil, List.cons.injEq, and_true] at hu
  obtain ⟨hu1, hu2⟩ := hu
  rw [hu1, hu2]
  refine rd_fld fd35_2 ?_
  refine rd_load ty22 (at_DCode_2 hA) hx2 fun v9 h9 => ?_
  refine rd_len u22 h9 ?_
  refine rd_lss ?_
  refine br (fun hlt => ?_) (fun hge => ?_)
  case refine_2 =>
    have : k = c.procs.length := by omega
    rw [this] at hr2
    exact ⟨hx0.trans hx2, hr2.own.own.mono (by omega)⟩
  have hk : k < c.procs.length := by omega
  have hs2 := hx2.size
  refine rd_load ty35 hA hx2 fun v14 h14 => ?_
  refine (l13Keep_ok h14 hx2 hc hk).mono ?_
  rintro _ w3 ⟨hx3, rfl⟩
  have hs3 := hx3.size
  refine rd_build (cells := #[.int .i64 (keepN c k : Nat), .int .i64 63]) (by kernel_rfl) ?_
  refine op_push (lo2 := w3.heap.size) (hi2 := w3.heap.size) (x := eff1 (keepN c k, 63)) u126 ty195 z195 zc195 (by decide) (hr2.ext hx3) (by omega) (ownI_eff _ _ (x := (keepN c k, 63)) m6_lt (by omega)) (by omega) (by omega) (by rw [maxLen_eq, fst1_len]; omega) (by rw [fst1_len]; omega) fun v54 w9 hc9 hr9 => ?_
  refine rd_inc (by omega) ?_
  refine ⟨mk - 1, by omega, k + 1, by omega, v54, rfl, by omega, (hx2.trans hx3).chgI hc9 (by omega), ?_⟩
  rw [fst1_succ]
  exact hr9
/-- a table of one's own -/
structure FE (w1 w : World) (g : Nat) (v : Value) (T : Tab) : Prop where
  ext : Ext w1 w
  mine : Mine [g] w v (effs T)
  g0 : w1.heap.size ≤ g
section
variable {w1 w w' : World} {g : Nat} {v : Value} {T : Tab}
theorem FE.step (h : FE w1 w g v T) (hx : Ext w w') : FE w1 w' g v T := ⟨h.ext.trans hx, h.mine.ext hx, h.g0⟩
theorem FE.own (h : FE w1 w g v T) : Own w1.heap.size w v (effs T) := ⟨[g], h.mine, fun b hb => by simp only [List.mem_cons, List.not_mem_nil, or_false] at hb; have := h.g0; omega⟩
theorem FE.make (ho : Own w1.heap.size w v (effs T)) (hx : Ext w1 w) (hT : T ≠ []) : ∃ g, FE w1 w g v T := by
  obtain ⟨F, hm, hF⟩ := ho
  obtain ⟨b, o, cap, hv, rfl⟩ := flat_one hm (by intro e; exact hT (List.map_eq_nil_iff.1 e))
  exact ⟨b, hx, hm, hF b (by simp)⟩
/-- a procedure's Gen is set -/
theorem opu_gen {q m : Nat} {K : World → Prop} (h : FE w1 w g v T) (hT : T ≠ []) (hq : q < T.length) (hm : m < 64) (k : ∀ w', FE w1 w' g v (T.set q ((tbl T q).1, m)) → ChgI g (g + 1) w w' → K w') :
    RD Tryz.prog (Instr.indexAt 126 v (.int .i64 (q : Int))) w fun a => RD Tryz.prog (Instr.fieldAt 195 a 1) w fun f => OPU Tryz.prog (Instr.storeAt 3 f (.int .i64 (m : Int))) w K := by
  refine st_fld (α := DEffect) (β := Int) (sel := DEffect.gen) (g := fun a y => ⟨a.keep, y⟩) u126 ty195 fd195_1 ty3 (fun h => lens_DEffect_1 h) h.mine (by rw [effs_len]; exact hq) (mine_nat (v := m) (by omega)) fun w2 F2 hc2 hm2 hF2 => ?_
  have hF : F2 = [g] := by
    obtain ⟨b, o, cap, hv, rfl⟩ := flat_one hm2 (by intro e; have := congrArg List.length e; rw [List.length_set, effs_len] at this; simp only [List.length_nil] at this; omega)
    have := hF2 b (by simp)
    simpa using this
  subst hF
  have hcc := chg_one hc2
  refine k w2 ⟨h.ext.chgI hcc h.g0, ?_, h.g0⟩ hcc
  rw [effs_set]
  rw [effs_get] at hm2
  exact hm2
end
theorem fst1_EI {c : DCode} (hc : CodeR c) : EI c (fst1 c c.procs.length) := EI.start c hc
theorem EI.len {c : DCode} {T : Tab} (h : EI c T) : T.length = c.procs.length := h.tab.1
theorem EI.ne {c : DCode} (hc : CodeR c) {T : Tab} (h : EI c T) : T ≠ [] := fun e => by
  have h1 := h.len
  have h2 := hc.1.procs8
  rw [e] at h1; simp at h1; omega
/-- a round under way -/
structure EP (c : DCode) (T0 : Tab) (k : Nat) (ag : Bool) (T : Tab) : Prop where
  ei : EI c T
  yes : ag = true → gsum T < gsum T0
  no : ag = false → T = T0 ∧ ∀ p, p < k → asked c T0 p = (tbl T0 p).2
theorem EP.set {c : DCode} (hc : CodeR c) {T0 T : Tab} {k : Nat} {ag : Bool} (H : EP c T0 k ag T) (hk : k < c.procs.length) (hne : asked c T k ≠ (tbl T k).2) : EP c T0 (k + 1) true (T.set k ((tbl T k).1, asked c T k)) := by
  refine ⟨H.ei.upd hc hk, fun _ => ?_, fun e => by cases e⟩
  have h1 := gsum_set (T := T) (p := k) (v := ((tbl T k).1, asked c T k)) (by rw [H.ei.len]; exact hk)
  have h2 := H.ei.le hc hk
  simp only at h1
  cases ag with
  | true => have := H.yes rfl; omega
  | false => rw [(H.no rfl).1] at h1 h2 hne ⊢; omega
theorem EP.skip {c : DCode} {T0 T : Tab} {k : Nat} {ag : Bool} (H : EP c T0 k ag T) (he : asked c T k = (tbl T k).2) : EP c T0 (k + 1) ag T :=
  ⟨H.ei, H.yes, fun e => ⟨(H.no e).1, fun p hp => by
    by_cases h : p = k
    · subst h; rw [(H.no e).1] at he; exact he
    · exact (H.no e).2 p (by omega)⟩⟩
theorem effects_ok {w W0 : World} {b : Nat} {c : DCode} (hW : WAt W0 b c) (e0 : Ext W0 w) (hc : CodeR c) :
    CALL Tryz.prog 130 [.pointer (some ⟨b, 0, none⟩)] w fun r w' => Ext w w' ∧ Own w.heap.size w' r (effs (effN c)) := by
  refine F130_call ?_
  unfold F130
  have h8 := hc.1.procs8
  refine (firstEffects_ok hW e0 hc).mono ?_
  rintro v8 w1 ⟨hx1, ho1⟩
  have hE1 := fst1_EI hc
  obtain ⟨g, hF1⟩ := FE.make ho1 hx1 (hE1.ne hc)
  generalize fst1 c c.procs.length = T at *
  refine LOOPI.mk (fun m us w' => ∃ (ag : Bool) (T : Tab), us = [.bool ag] ∧ m = gsum T + (if ag then 1 else 0) ∧ FE w w' g v8 T ∧ EI c T ∧ (ag = false → ∀ p, p < c.procs.length → asked c T p = (tbl T p).2)) (gsum T + 1) ⟨true, T, rfl, rfl, hF1, hE1, fun e => by cases e⟩ ?_
  rintro m u w2 ⟨ag, T, hu, hm, hF2, hE2, hsh⟩
  simp only [List.map_cons, List.map_nil, List.cons.injEq, and_true] at hu
  rw [hu]
  refine br_b (fun hag => ?_) (fun hag => ?_)
  case refine_2 =>
    rw [hE2.fin hc (hsh hag)] at hF2
    exact ⟨hF2.ext, hF2.own⟩
  rw [hag, if_pos rfl] at hm
  refine rd_len u126 hF2.mine.is ?_
  rw [effs_len, hE2.len]
  refine loopC c.procs.length (fun k us w' => ∃ (ag : Bool) (T' : Tab), us = [.bool ag, .int .i64 (k : Int)] ∧ k ≤ c.procs.length ∧ FE w w' g v8 T' ∧ EP c T k ag T') 0 (Nat.zero_le _) ⟨false, T, rfl, Nat.zero_le _, hF2, hE2, fun e => (by cases e), fun _ => ⟨rfl, fun p hp => by omega⟩⟩ ?_
  rintro k mk u w3 hkm ⟨ag3, T3, hu, hkl, hF3, hP3⟩
  simp only [List.map_cons, List.map_nil, List.cons.injEq, and_true] at hu
  obtain ⟨hu1, hu2⟩ := hu
  rw [hu1, hu2]
  refine rd_lss ?_
  refine br (fun hlt => ?_) (fun hge => ?_)
  case refine_2 =>
    refine ⟨gsum T3 + (if ag3 then 1 else 0), ?_, ag3, T3, rfl, rfl, hF3, hP3.ei, fun e p hp => ?_⟩
    · cases ag3 with
      | true => have := hP3.yes rfl; simp; omega
      | false => rw [(hP3.no rfl).1]; simp; omega
    · have := hP3.no e
      rw [this.1]
      exact this.2 p (by omega)
  have hk : k < c.procs.length := by omega
  refine (asked_ok hW.wl (e0.trans hF3.ext) hF3.mine.is (Ext.refl _) hc hP3.ei.tab hk).mono ?_
  rintro _ w4 ⟨hx4, rfl⟩
  have hF4 := hF3.step hx4
  have hal := asked_lt (T := T3) hc hk
  have hgl := hP3.ei.tab.2 k
  have hkT : k < T3.length := by rw [hP3.ei.len]; exact hk
  refine rd_indexN u126 ty195 hF4.mine.is (by rw [effs_len]; exact hkT) fun b1 o1 hA1 => ?_
  rw [effs_get] at hA1
  refine rd_fld fd195_1 ?_
  refine rd_loadI ty3 (at_DEffect_1 hA1) (Ext.refl _) fun _ => ?_
  refine rd_neq ?_
  refine br (fun hne => ?_) (fun heq => ?_)
  · refine opu_gen hF4 (hP3.ei.ne hc) hkT hal fun w5 hF5 hc5 => ?_
    refine rd_inc (by omega) ?_
    exact ⟨mk - 1, by omega, k + 1, by omega, true, _, rfl, by omega, hF5, hP3.set hc hk fun e => hne (by rw [e]; rfl)⟩
  · refine rd_inc (by omega) ?_
    exact ⟨mk - 1, by omega, k + 1, by omega, ag3, T3, rfl, by omega, hF4, hP3.skip (Int.ofNat_inj.1 (Decidable.not_not.1 heq))⟩
theorem l13Effects_ok {w W0 : World} {v0 : Value} {c : DCode} (h0 : Is W0 v0 c) (e0 : Ext W0 w) (hc : CodeR c) :
    CALL Tryz.prog 112 [v0] w fun r w' => Ext w w' ∧ Own w.heap.size w' r (effs (effN c)) := by
  refine F112_call ?_
  unfold F112
  have h8 := hc.1.procs8
  refine op_box h0 e0 fun w0 hx0 hA => ?_
  have hs0 := hx0.size
  refine rd_load ty35 hA (Ext.refl _) fun v7 h7 => ?_
  refine (l13New_ok h7 (Ext.refl _) hc).mono ?_
  rintro v8 w1 ⟨hx1, ho1⟩
  have hE1 := fst1_EI hc
  obtain ⟨g, hF1⟩ := FE.make ho1 hx1 (hE1.ne hc)
  generalize fst1 c c.procs.length = T at *
  refine LOOPI.mk (fun m us w' => ∃ (ag : Bool) (T : Tab), us = [.bool ag] ∧ m = gsum T + (if ag then 1 else 0) ∧ FE w0 w' g v8 T ∧ EI c T ∧ (ag = false → ∀ p, p < c.procs.length → asked c T p = (tbl T p).2)) (gsum T + 1) ⟨true, T, rfl, rfl, hF1, hE1, fun e => by cases e⟩ ?_
  rintro m u w2 ⟨ag, T, hu, hm, hF2, hE2, hsh⟩
  simp only [List.map_cons, List.map_nil, List.cons.injEq, and_true] at hu
  rw [hu]
  refine br_b (fun hag => ?_) (fun hag => ?_)
  case refine_2 =>
    rw [hE2.fin hc (hsh hag)] at hF2
    exact ⟨hx0.trans hF2.ext, hF2.own.mono (by omega)⟩
  rw [hag, if_pos rfl] at hm
  refine loopC c.procs.length (fun k us w' => ∃ (ag : Bool) (T' : Tab), us = [.bool ag, .int .i64 (k : Int)] ∧ k ≤ c.procs.length ∧ FE w0 w' g v8 T' ∧ EP c T k ag T') 0 (Nat.zero_le _) ⟨false, T, rfl, Nat.zero_le _, hF2, hE2, fun e => (by cases e), fun _ => ⟨rfl, fun p hp => by omega⟩⟩ ?_
  rintro k mk u w3 hkm ⟨ag3, T3, hu, hkl, hF3, hP3⟩
  simp only [List.map_cons, List.map_nil, List.cons.injEq, and_true] at hu
  obtain ⟨hu1, hu2⟩ := hu
  rw [hu1, hu2]
  refine rd_fld fd35_2 ?_
  refine rd_load ty22 (at_DCode_2 hA) hF3.ext fun v12 h12 => ?_
  refine rd_len u22 h12 ?_
  refine rd_lss ?_
  refine br (fun hlt => ?_) (fun hge => ?_)
  case refine_2 =>
    refine ⟨gsum T3 + (if ag3 then 1 else 0), ?_, ag3, T3, rfl, rfl, hF3, hP3.ei, fun e p hp => ?_⟩
    · cases ag3 with
      | true => have := hP3.yes rfl; simp; omega
      | false => rw [(hP3.no rfl).1]; simp; omega
    · have := hP3.no e
      rw [this.1]
      exact this.2 p (by omega)
  have hk : k < c.procs.length := by omega
  refine rd_load ty35 hA hF3.ext fun v17 h17 => ?_
  refine (l13Gen_ok h17 hF3.ext hF3.mine.is (Ext.refl _) hc hP3.ei.tab hk).mono ?_
  rintro _ w4 ⟨hx4, rfl⟩
  have hF4 := hF3.step hx4
  have hal := asked_lt (T := T3) hc hk
  have hgl := hP3.ei.tab.2 k
  have hkT : k < T3.length := by rw [hP3.ei.len]; exact hk
  refine rd_indexN u126 ty195 hF4.mine.is (by rw [effs_len]; exact hkT) fun b1 o1 hA1 => ?_
  rw [effs_get] at hA1
  refine rd_fld fd195_1 ?_
  refine rd_loadI ty3 (at_DEffect_1 hA1) (Ext.refl _) fun _ => ?_
  refine rd_neq ?_
  refine br (fun hne => ?_) (fun heq => ?_)
  · refine opu_gen hF4 (hP3.ei.ne hc) hkT hal fun w5 hF5 hc5 => ?_
    refine rd_inc (by omega) ?_
    exact ⟨mk - 1, by omega, k + 1, by omega, true, _, rfl, by omega, hF5, hP3.set hc hk fun e => hne (by rw [e]; rfl)⟩
  · refine rd_inc (by omega) ?_
    exact ⟨mk - 1, by omega, k + 1, by omega, ag3, T3, rfl, by omega, hF4, hP3.skip (Int.ofNat_inj.1 (Decidable.not_not.1 heq))⟩
end Go.Proofs.YtjgfldfbljmhhaaGreat
namespace Go.Proofs.YtjgfldfbljmhhaaGreat
open Go Go.Sh Go.Proofs
set_option linter.unusedVariables false
/-- spec.l14Roots -/
def F117 (a0 : Value) (w : World) (R : Value → World → Prop) : Prop :=
  OP Tryz.prog (Instr.box 35 a0) w fun x1 w =>
  RD Tryz.prog (Instr.fieldAt 35 x1 2) w fun x10 =>
  RD Tryz.prog (Instr.loadAt 22 x10) w fun x11 =>
  RD Tryz.prog (Builtin.len_ #[22] 3 [x11].toArray) w fun x12 =>
  OP Tryz.prog (Instr.makeSlice 72 x12 x12) w fun x13 w =>
  RD Tryz.prog (Instr.loadAt 35 x1) w fun x15 =>
  CALL Tryz.prog 188 [x15] w fun x16 w =>
  RD Tryz.prog (Instr.indexAt 72 x13 x16) w fun x17 =>
  OPU Tryz.prog (Instr.storeAt 4 x17 (Value.bool true)) w fun w =>
  RD Tryz.prog (Instr.loadAt 35 x1) w fun x18 =>
  CALL Tryz.prog 188 [x18] w fun x19 w =>
  OP Tryz.prog (Instr.buildSlice 23 1 #[(0, x19)]) w fun x20 w =>
  LOOPI [4, 5] [x20, (Value.int .i64 0)] w fun u5 w next5 =>
   RD Tryz.prog (Builtin.len_ #[23] 3 [(u5 4)].toArray) w fun x23 =>
   RD Tryz.prog (bin .lss 3 (.tmp 0) (.tmp 0) (u5 5) x23) w fun x24 =>
   BR x24
    ((fun w => RD Tryz.prog (Instr.loadAt 35 x1) w fun x27 =>
    RD Tryz.prog (Instr.indexAt 23 (u5 4) (u5 5)) w fun x30 =>
    RD Tryz.prog (Instr.loadAt 3 x30) w fun x31 =>
    CALL Tryz.prog 186 [x27, x31] w fun x32 w =>
    CALL Tryz.prog 77 [x32] w fun x33 w =>
    LOOPI [4, 7] [(u5 4), (Value.int .i64 0)] w fun u9 w next9 =>
     RD Tryz.prog (Builtin.len_ #[23] 3 [x33].toArray) w fun x36 =>
     RD Tryz.prog (bin .lss 3 (.tmp 0) (.tmp 0) (u9 7) x36) w fun x37 =>
     BR x37
      ((fun w => RD Tryz.prog (Instr.loadAt 35 x1) w fun x40 =>
      RD Tryz.prog (Instr.indexAt 23 x33 (u9 7)) w fun x43 =>
      RD Tryz.prog (Instr.loadAt 3 x43) w fun x44 =>
      CALL Tryz.prog 189 [x40, x44, (Value.int .i64 5)] w fun x45 w =>
      LOOPI [4, 9] [(u9 4), (Value.int .i64 0)] w fun u13 w next13 =>
       RD Tryz.prog (Builtin.len_ #[23] 3 [x45].toArray) w fun x48 =>
       RD Tryz.prog (bin .lss 3 (.tmp 0) (.tmp 0) (u13 9) x48) w fun x49 =>
       BR x49
        (RD Tryz.prog (Instr.indexAt 23 x45 (u13 9)) w fun x55 =>
        RD Tryz.prog (Instr.loadAt 3 x55) w fun x56 =>
        RD Tryz.prog (Instr.indexAt 72 x13 x56) w fun x57 =>
        RD Tryz.prog (Instr.loadAt 4 x57) w fun x58 =>
        RD Tryz.prog (Op.unary .not x58) w fun x59 =>
        BR x59
         (RD Tryz.prog (Instr.indexAt 23 x45 (u13 9)) w fun x63 =>
         RD Tryz.prog (Instr.loadAt 3 x63) w fun x64 =>
         RD Tryz.prog (Instr.indexAt 72 x13 x64) w fun x65 =>
         OPU Tryz.prog (Instr.storeAt 4 x65 (Value.bool true)) w fun w =>
         RD Tryz.prog (Instr.indexAt 23 x45 (u13 9)) w fun x69 =>
         RD Tryz.prog (Instr.loadAt 3 x69) w fun x70 =>
         OP Tryz.prog (Instr.buildSlice 23 1 #[(0, x70)]) w fun x71 w =>
         OP Tryz.prog (Builtin.append_ #[23, 23] 23 [(u13 4), x71].toArray) w fun x72 w =>
         RD Tryz.prog (bin .add 3 (.tmp 0) (.const undef) (u13 9) (Value.int .i64 1)) w fun x51 =>
         next13 [x72, x51] w)
         (RD Tryz.prog (bin .add 3 (.tmp 0) (.const undef) (u13 9) (Value.int .i64 1)) w fun x51 =>
         next13 [(u13 4), x51] w))
        (RD Tryz.prog (bin .add 3 (.tmp 0) (.const undef) (u9 7) (Value.int .i64 1)) w fun x39 =>
        next9 [(u13 4), x39] w)) (World.drew1 w))
      (RD Tryz.prog (bin .add 3 (.tmp 0) (.const undef) (u5 5) (Value.int .i64 1)) w fun x26 =>
      next5 [(u9 4), x26] w)) (World.drew1 w))
    (R x13 w)
def cfg117 : Cfg := { ext := extL, joins := [], loops := [(5, 9444732965739288331248, [4, 5]), (9, 9444732965722110559120, [4, 7]), (13, 9444732895370546250256, [4, 9])], draws := [(7, [0, 1, 2, 3, 4, 5, 6, 7], 0), (11, [0, 1, 2, 3, 4, 5, 6], 0)], pars := [] }
theorem F117_eq (a0 : Value) (w : World) (R : Value → World → Prop) : vcF Tryz.prog cfg117 Tryz.f117 [a0] w R = F117 a0 w R := by kernel_rfl
theorem F117_call {a0 : Value} {w : World} {R : Value → World → Prop} (h : F117 a0 w R) : CALL Tryz.prog 117 [a0] w R :=
  call_of (g := cfg117) ent mixed Tryz.func117 (Nat.le_of_ble_eq_true (by kernel_rfl)) (by kernel_rfl) (F117_eq a0 w R ▸ h)
/-- spec.l14Used -/
def F114 (a0 : Value) (w : World) (R : Value → World → Prop) : Prop :=
  OP Tryz.prog (Instr.box 35 a0) w fun x1 w =>
  RD Tryz.prog (Instr.loadAt 35 x1) w fun x8 =>
  CALL Tryz.prog 117 [x8] w fun x9 w =>
  RD Tryz.prog (Instr.fieldAt 35 x1 2) w fun x10 =>
  RD Tryz.prog (Instr.loadAt 22 x10) w fun x11 =>
  RD Tryz.prog (Builtin.len_ #[22] 3 [x11].toArray) w fun x12 =>
  OP Tryz.prog (Instr.makeSlice 72 x12 x12) w fun x13 w =>
  LOOPI [5] [(Value.int .i64 0)] w fun u4 w next4 =>
   RD Tryz.prog (Instr.fieldAt 35 x1 2) w fun x15 =>
   RD Tryz.prog (Instr.loadAt 22 x15) w fun x16 =>
   RD Tryz.prog (Builtin.len_ #[22] 3 [x16].toArray) w fun x17 =>
   RD Tryz.prog (bin .lss 3 (.tmp 0) (.tmp 0) (u4 5) x17) w fun x18 =>
   BR x18
    (RD Tryz.prog (Instr.indexAt 72 x9 (u4 5)) w fun x23 =>
    RD Tryz.prog (Instr.loadAt 4 x23) w fun x24 =>
    RD Tryz.prog (Op.unary .not x24) w fun x25 =>
    BR x25
     (RD Tryz.prog (bin .add 3 (.tmp 0) (.const undef) (u4 5) (Value.int .i64 1)) w fun x20 =>
     next4 [x20] w)
     (RD Tryz.prog (Instr.loadAt 35 x1) w fun x26 =>
     CALL Tryz.prog 186 [x26, (u4 5)] w fun x28 w =>
     LOOPI [7] [(Value.int .i64 0)] w fun u9 w next9 =>
      RD Tryz.prog (Builtin.len_ #[72] 3 [x28].toArray) w fun x31 =>
      RD Tryz.prog (bin .lss 3 (.tmp 0) (.tmp 0) (u9 7) x31) w fun x32 =>
      BR x32
       (RD Tryz.prog (Instr.indexAt 72 x13 (u9 7)) w fun x39 =>
       RD Tryz.prog (Instr.loadAt 4 x39) w fun x40 =>
       BR x40
       (RD Tryz.prog (Instr.indexAt 72 x13 (u9 7)) w fun x47 =>
       OPU Tryz.prog (Instr.storeAt 4 x47 (Value.bool true)) w fun w =>
       RD Tryz.prog (bin .add 3 (.tmp 0) (.const undef) (u9 7) (Value.int .i64 1)) w fun x34 =>
       next9 [x34] w)
       (RD Tryz.prog (Instr.indexAt 72 x28 (u9 7)) w fun x44 =>
       RD Tryz.prog (Instr.loadAt 4 x44) w fun x45 =>
       RD Tryz.prog (Instr.indexAt 72 x13 (u9 7)) w fun x47 =>
       OPU Tryz.prog (Instr.storeAt 4 x47 x45) w fun w =>
       RD Tryz.prog (bin .add 3 (.tmp 0) (.const undef) (u9 7) (Value.int .i64 1)) w fun x34 =>
       next9 [x34] w))
       (RD Tryz.prog (bin .add 3 (.tmp 0) (.const undef) (u4 5) (Value.int .i64 1)) w fun x20 =>
       next4 [x20] w)))
    (R x13 w)
def cfg114 : Cfg := { ext := extL, joins := [], loops := [(4, 281474976694496, [5]), (9, 281474439839872, [7])], draws := [], pars := [] }
theorem F114_eq (a0 : Value) (w : World) (R : Value → World → Prop) : vcF Tryz.prog cfg114 Tryz.f114 [a0] w R = F114 a0 w R := by kernel_rfl
theorem F114_call {a0 : Value} {w : World} {R : Value → World → Prop} (h : F114 a0 w R) : CALL Tryz.prog 114 [a0] w R :=
  call_of (g := cfg114) ent mixed Tryz.func114 (Nat.le_of_ble_eq_true (by kernel_rfl)) (by kernel_rfl) (F114_eq a0 w R ▸ h)
set_option linter.unusedVariables false
set_option linter.unusedSimpArgs false
open Rep (rep)
/-- whom a thread of one procedure may start -/
noncomputable def opsN (c : DCode) (p : Nat) : List Nat := setL c.procs.length (OpsP c p 5)
noncomputable def frmL (c : DCode) (r : Nat) : List Nat := setL c.procs.length (FromP c r)
noncomputable def rootNx (c : DCode) (r : Nat) : List Nat := (frmL c r).flatMap (opsN c)
theorem rootP_iff {c : DCode} (hc : CodeR c) (q : Nat) : RootP c q ↔ q = mainN c ∨ RP (rootNx c) (mainN c) q := by
  have hmem : ∀ r q, q ∈ rootNx c r ↔ ∃ p, p < c.procs.length ∧ FromP c r p ∧ q < c.procs.length ∧ OpsP c p 5 q := fun r q => by
    unfold rootNx frmL opsN
    simp only [List.mem_flatMap, mem_setL]
    exact ⟨fun ⟨p, ⟨h1, h2⟩, h3, h4⟩ => ⟨p, h1, h2, h3, h4⟩, fun ⟨p, h1, h2, h3, h4⟩ => ⟨p, ⟨h1, h2⟩, h3, h4⟩⟩
  constructor
  · intro h
    induction h with
    | main => exact .inl rfl
    | @spawn r p q h0 h1 h2 hq ih =>
      have hm := (hmem r q).2 ⟨p, h1.lt (h0.lt hc), h1, hq, h2⟩
      rcases ih with rfl | ih
      · exact .inr (.one hm)
      · exact .inr (.more ih hm)
  · rintro (rfl | h)
    · exact .main
    · refine h.keeps (p := RootP c) .main fun i j hi hj => ?_
      obtain ⟨p, _, h1, h2, h3⟩ := (hmem i j).1 hj
      exact .spawn hi h1 h3 h2
theorem flat_pos {α β : Type} {f : α → List β} {L : List α} {i j : Nat} (hi : i < L.length) (hj : j < (f L[i]).length) : ∃ h : ((L.take i).flatMap f).length + j < (L.flatMap f).length, (L.flatMap f)[((L.take i).flatMap f).length + j] = (f L[i])[j] := by
  have e : L.flatMap f = (L.take i).flatMap f ++ (f L[i] ++ (L.drop (i + 1)).flatMap f) := by
    rw [← List.flatMap_cons, ← List.flatMap_append]
    congr 1
    rw [← List.drop_eq_getElem_cons hi, List.take_append_drop]
  have hlt : ((L.take i).flatMap f).length + j < (L.flatMap f).length := by rw [e]; simp only [List.length_append]; omega
  refine ⟨hlt, ?_⟩
  have : (L.flatMap f)[((L.take i).flatMap f).length + j]? = some (f L[i])[j] := by
    rw [e, List.getElem?_append_right (by omega), Nat.add_sub_cancel_left, List.getElem?_append_left hj, List.getElem?_eq_getElem hj]
  rw [List.getElem?_eq_getElem hlt] at this
  exact Option.some.inj this
theorem flat_next {α β : Type} {f : α → List β} {L : List α} {i : Nat} (hi : i < L.length) : ((L.take (i + 1)).flatMap f).length = ((L.take i).flatMap f).length + (f L[i]).length := by
  rw [List.take_succ_eq_append_getElem hi, List.flatMap_append, List.length_append]; simp
theorem l14Roots_ok {w W0 : World} {v0 : Value} {c : DCode} (h0 : Is W0 v0 c) (e0 : Ext W0 w) (hc : CodeR c) :
    CALL Tryz.prog 117 [v0] w fun r w' => Ext w w' ∧ Own w.heap.size w' r (setB c.procs.length (RootP c)) := by
  refine F117_call ?_
  unfold F117
  have h8 := hc.1.procs8
  obtain ⟨hm1, hm2⟩ := main_lt' hc
  have hR := rootP_iff hc
  have hcn : ∀ x, rootNx c x = (frmL c x).flatMap (opsN c) := fun _ => rfl
  have hnl : ∀ {i j : Nat}, i < c.procs.length → j ∈ rootNx c i → j < c.procs.length ∧ True := fun {i j} _ hj => by
    rw [hcn] at hj
    obtain ⟨p, _, h⟩ := List.mem_flatMap.1 hj
    exact ⟨(mem_setL.1 h).1, trivial⟩
  refine op_box h0 e0 fun w1 hx1 hA => ?_
  have hs1 := hx1.size
  refine rd_fld fd35_2 ?_
  refine rd_load ty22 (at_DCode_2 hA) (Ext.refl _) fun v11 h11 => ?_
  refine rd_len u22 h11 ?_
  refine op_makeB h8.2 (by omega) fun w2 hx2 hM2 => ?_
  have hs2 := hx2.size
  refine rd_load ty35 hA hx2 fun v15 h15 => ?_
  refine (l14Main_ok h15 hx2).mono ?_
  rintro _ w2a ⟨hx2a, rfl⟩
  rw [hm1]
  have hs2a := hx2a.size
  have hM2a := hM2.ext hx2a
  generalize hn : c.procs.length = n at *
  generalize mainN c = a at *
  refine rd_elt (α := Bool) rfl u72 ty4 hm2 ?_
  refine opu_elt (α := Bool) rfl ty4 hM2a (by simp) hm2 mine_boolT fun w2b hc2 hM2b => ?_
  have hc2' : ChgI w1.heap.size (w1.heap.size + 1) w2a w2b := hc2.toI fun b hb => by simp only [List.mem_cons, List.not_mem_nil, or_false] at hb; omega
  have hs2b := hc2'.size
  have hM0l : ((List.replicate n false).set a true).length = n := by simp
  have hM0 : ∀ i, mkd ((List.replicate n false).set a true) i ↔ i = a := fun i => by
    rw [mkd_set (by simp; exact hm2)]
    exact ⟨fun h => h.resolve_left mkd_replicate, .inr⟩
  generalize (List.replicate n false).set a true = M0 at *
  have hx12b : Ext w1 w2b := (hx2.trans hx2a).chgI hc2' (by omega)
  refine rd_load ty35 hA hx12b fun v18 h18 => ?_
  refine (l14Main_ok h18 hx12b).mono ?_
  rintro _ w2c ⟨hx2c, rfl⟩
  rw [hm1]
  have hs2c := hx2c.size
  refine op_build1R (x := (a : Int)) u23 ty3 z3 (by decide) (mine_int (by unfold I64; omega)) fun v20 w3 hx3 hr3 => ?_
  have hs3 := hx3.size
  generalize hm : w1.heap.size = m at *
  have hW3 : WI w1 w3 m n w2c.heap.size w3.heap.size v20 [a] M0 := ⟨(((hx2.trans hx2a).toI.trans hc2').trans hx2c.toI).trans hx3.toI, hr3, (hM2b.ext hx2c).ext hx3, by omega, by have := hM2b.lt m (by simp); omega, hs3, Nat.le_refl _⟩
  have hfl : ∀ x p, p ∈ frmL c x → p < n := fun x p hp => by have := (mem_setL.1 hp).1; omega
  have hfll : ∀ x, (frmL c x).length ≤ n := fun x => by have := setL_len (n := c.procs.length) (p := FromP c x); rw [hn] at this; unfold frmL; rw [hn]; exact this
  have holl : ∀ x, (opsN c x).length ≤ n := fun x => by have := setL_len (n := c.procs.length) (p := OpsP c x 5); rw [hn] at this; unfold opsN; rw [hn]; exact this
  generalize hnx : rootNx c = nx at *
  refine loopC (1 + n) (fun h us w' => ∃ (tv : Value) (lo hi : Nat) (L : List Nat) (ms : List Bool), us = [tv, .int .i64 (h : Int)] ∧ h ≤ L.length ∧ WI w1 w' m n lo hi tv L ms ∧ SInv nx n a M0 ms (L.drop h) h) 0 (Nat.zero_le _) ⟨v20, _, _, [a], _, rfl, by simp, hW3, SInv.start hM0l hm2⟩ ?_
  rintro h mk u w4 hkm ⟨tv, lo, hi, L, ms, hu, hhL, hW4, hS4⟩
  simp only [List.map_cons, List.map_nil, List.cons.injEq, and_true] at hu
  obtain ⟨hu1, hu2⟩ := hu
  rw [hu1, hu2]
  have hb4 := hS4.bound
  rw [List.length_drop] at hb4
  refine rd_len u23 hW4.row.is ?_
  rw [ints_len]
  refine rd_lss ?_
  refine br (fun hlt => ?_) (fun hge => ?_)
  case refine_2 =>
    have hhe : h = L.length := by omega
    rw [hhe, List.drop_length] at hS4
    have hfin := hS4.fin fun i hi hne => absurd ((hM0 i).1 hi) hne
    have hms : ms = setB n (RootP c) := marks_setB hS4.len fun i hi => by rw [hfin i, hM0, hR]
    rw [← hms]
    have hx4 : Ext w1 w4 := (Ext.refl w1).chgI hW4.chg (by omega)
    exact ⟨hx1.trans hx4, [m], hW4.mks, fun b hb => by simp only [List.mem_cons, List.not_mem_nil, or_false] at hb; omega⟩
  have hh : h < L.length := by omega
  have hx5 := ext_drew w4
  have hW5 := hW4.step hx5
  generalize World.drew1 w4 = w5 at *
  have hxa : ∀ {w : World} {lo hi tv L ms}, WI w1 w m n lo hi tv L ms → Ext w1 w := fun h => (Ext.refl w1).chgI h.chg (by omega)
  refine rd_load ty35 hA (hxa hW5) fun v27 h27 => ?_
  refine rd_indexN u23 ty3 (i := h) hW5.row.is (by rw [ints_len]; exact hh) fun b1 o1 hA1 => ?_
  rw [ints_get] at hA1
  refine rd_loadI ty3 hA1 (Ext.refl _) fun _ => ?_
  generalize hx : L[h] = x at *
  have hdr : L.drop h = x :: L.drop (h + 1) := by rw [List.drop_eq_getElem_cons hh, hx]
  have hxn : x < n := (hS4.tdo x (by rw [hdr]; simp)).2
  refine (l10FromM_ok h27 (hxa hW5) hc (by rw [hn]; exact hxn)).mono ?_
  rintro _ w6a ⟨hx6a, gf, rfl, hgf, hMf⟩
  refine (l09Marked_ok hMf.is (Ext.refl _) (by rw [setB_len]; omega)).mono ?_
  rintro v33 w6 ⟨hx6, ho6⟩
  have hFr : (fun i => i = x ∨ RP (callN c) x i) = FromP c x := rfl
  rw [setB_len, idxM_setB, hFr] at ho6
  have ho6' : Own w6a.heap.size w6 v33 (ints (frmL c x)) := ho6
  have hW6 := (hW5.step hx6a).step hx6
  have hI6 := hW5.h3
  have hs6a := hx6a.size
  have hs6 := hx6.size
  have hS6 : SIn2 nx n a M0 ms (L.drop (h + 1)) h x 0 := hS4.pop (fun i => by rw [hdr]; simp [or_comm]) (by rw [hdr]; simp)
  have hfx := hfll x
  have hflx := hfl x
  have hnxx : nx x = (frmL c x).flatMap (opsN c) := hcn x
  generalize frmL c x = Fl at *
  refine loopC Fl.length (fun k us w' => ∃ (tv : Value) (lo hi : Nat) (L : List Nat) (ms : List Bool), us = [tv, .int .i64 (k : Int)] ∧ k ≤ Fl.length ∧ h < L.length ∧ WI w1 w' m n lo hi tv L ms ∧ SIn2 nx n a M0 ms (L.drop (h + 1)) h x ((Fl.take k).flatMap (opsN c)).length ∧ OwnI w6a.heap.size w6.heap.size w' v33 (ints Fl) ∧ (hi ≤ w6a.heap.size ∨ w6.heap.size ≤ lo) ∧ w6.heap.size ≤ w'.heap.size) 0 (Nat.zero_le _) ⟨tv, lo, hi, L, ms, rfl, Nat.zero_le _, hh, hW6, hS6, ho6'.toI, .inl (by omega), Nat.le_refl _⟩ ?_
  rintro k mk9 u w7 hkm9 ⟨tv7, lo7, hi7, L7, ms7, hu, hkl, hh7, hW7, hS7, ho7, hd7, hz7⟩
  simp only [List.map_cons, List.map_nil, List.cons.injEq, and_true] at hu
  obtain ⟨hu1, hu2⟩ := hu
  rw [hu1, hu2]
  refine rd_len u23 ho7.is ?_
  rw [ints_len]
  refine rd_lss ?_
  refine br (fun hlt7 => ?_) (fun hge7 => ?_)
  case refine_2 =>
    refine rd_inc (by omega) ?_
    refine ⟨mk - 1, by omega, h + 1, by omega, tv7, lo7, hi7, L7, ms7, rfl, by omega, hW7, hS7.done ?_⟩
    rw [hnxx, show Fl.take k = Fl from List.take_of_length_le (by omega)]
    exact Nat.le_refl _
  have hk : k < Fl.length := by omega
  have hx8 := ext_drew w7
  have hW8 := hW7.step hx8
  have ho8 := ho7.ext hx8
  have hs8 := hx8.size
  generalize World.drew1 w7 = w8 at *
  refine rd_load ty35 hA (hxa hW8) fun v40 h40 => ?_
  refine rd_indexN u23 ty3 (i := k) ho8.is (by rw [ints_len]; exact hk) fun b2 o2 hA2 => ?_
  rw [ints_get] at hA2
  refine rd_loadI ty3 hA2 (Ext.refl _) fun _ => ?_
  have hfp := fun j => flat_pos (f := opsN c) (L := Fl) (i := k) (j := j) hk
  have hfn := flat_next (f := opsN c) (L := Fl) (i := k) hk
  have hpn := hflx _ (List.getElem_mem hk)
  rw [← hnxx] at hfp
  generalize Fl[k] = p at *
  refine (l10Ops_ok h40 (hxa hW8) hc (p := p) (op := 5) (by rw [hc.2.1.1, hn]; exact hpn) (.inr rfl)).mono ?_
  rintro v45 w9 ⟨hx9, ho9⟩
  have ho9' : Own w8.heap.size w9 v45 (ints (opsN c p)) := ho9
  have hW9 := hW8.step hx9
  have hs9 := hx9.size
  have hop := holl p
  generalize opsN c p = Ol at *
  generalize hq0 : ((Fl.take k).flatMap (opsN c)).length = q0 at *
  have hI8 := hW8.h3
  refine loopC Ol.length (fun j us w' => ∃ (tv : Value) (lo hi : Nat) (L : List Nat) (ms : List Bool), us = [tv, .int .i64 (j : Int)] ∧ j ≤ Ol.length ∧ h < L.length ∧ WI w1 w' m n lo hi tv L ms ∧ SIn2 nx n a M0 ms (L.drop (h + 1)) h x (q0 + j) ∧ OwnI w6a.heap.size w6.heap.size w' v33 (ints Fl) ∧ (hi ≤ w6a.heap.size ∨ w6.heap.size ≤ lo) ∧ OwnI w8.heap.size w9.heap.size w' v45 (ints Ol) ∧ (hi ≤ w8.heap.size ∨ w9.heap.size ≤ lo) ∧ w9.heap.size ≤ w'.heap.size) 0 (Nat.zero_le _) ⟨tv7, lo7, hi7, L7, ms7, rfl, Nat.zero_le _, hh7, hW9, hS7, ho8.ext hx9, hd7, ho9'.toI, .inl hI8, Nat.le_refl _⟩ ?_
  rintro j mk13 u w10 hkm13 ⟨tv10, lo10, hi10, L10, ms10, hu, hjl, hh10, hW10, hS10, ho10, hd10, hp10, hd10b, hz10⟩
  simp only [List.map_cons, List.map_nil, List.cons.injEq, and_true] at hu
  obtain ⟨hu1, hu2⟩ := hu
  rw [hu1, hu2]
  refine rd_len u23 hp10.is ?_
  rw [ints_len]
  refine rd_lss ?_
  refine br (fun hlt10 => ?_) (fun hge10 => ?_)
  case refine_2 =>
    refine rd_inc (by omega) ?_
    refine ⟨mk9 - 1, by omega, k + 1, by omega, tv10, lo10, hi10, L10, ms10, rfl, by omega, hh10, hW10, ?_, ho10, hd10, by omega⟩
    rw [hfn, show Ol.length = j by omega]
    exact hS10
  have hj : j < Ol.length := by omega
  obtain ⟨hq, hqe⟩ := hfp j hj
  have hrd : ∀ {w : World} {K : Value → Prop} (ho : OwnI w8.heap.size w9.heap.size w v45 (ints Ol)) (kk : K (.int .i64 (((nx x)[q0 + j] : Nat) : Int))), RD Tryz.prog (Instr.indexAt 23 v45 (.int .i64 (j : Int))) w fun x37 => RD Tryz.prog (Instr.loadAt 3 x37) w K := fun ho kk => by
    refine rd_indexN u23 ty3 (i := j) ho.is (by rw [ints_len]; exact hj) fun b1 o1 hA1 => ?_
    rw [ints_get, ← hqe] at hA1
    exact rd_loadI ty3 hA1 (Ext.refl _) fun _ => kk
  have hy := hnl hxn (List.getElem_mem hq)
  refine hrd hp10 ?_
  have hlen10 := hS10.len
  refine rd_indexN u72 ty4 hW10.mks.is (by rw [hlen10]; exact hy.1) fun b3 o3 hA3 => ?_
  refine rd_loadB ty4 hA3 (Ext.refl _) ?_
  refine rd_not ?_
  have hmk10 := mkd_get (ms := ms10) (i := (nx x)[q0 + j]) (by rw [hlen10]; exact hy.1)
  refine br_b (fun hf => ?_) (fun hf => ?_)
  · have hnm : ¬ mkd ms10 (nx x)[q0 + j] := by rw [hmk10]; simpa using hf
    refine hrd hp10 ?_
    refine rd_elt (α := Bool) rfl u72 ty4 hy.1 ?_
    refine opu_elt (α := Bool) rfl ty4 hW10.mks hlen10 hy.1 mine_boolT fun w11 hc11 hm11 => ?_
    have hW11 := hW10.mark hc11 hm11
    have hc11' : ChgI m (m + 1) w10 w11 := hc11.toI fun b hb => by simp only [List.mem_cons, List.not_mem_nil, or_false] at hb; omega
    have hm4 := hW5.mks.lt m (by simp)
    have ho11 := ho10.chg hc11' (by omega)
    have hp11 := hp10.chg hc11' (by omega)
    refine hrd hp11 ?_
    have hS11 := hS10.push hq hy.1 hnm
    generalize (nx x)[q0 + j] = y at *
    have hLb : L10.length ≤ 2 + n := by
      have h1 := hS10.cnt
      have h2 := cntM_le ms10
      rw [List.length_drop] at h1
      omega
    refine op_pushD1 (x := (y : Int)) u23 ty3 z3 zc3 (by decide) hW11.row (ownI_int 0 0 (by unfold I64; omega)) (by rw [maxLen_eq, ints_len]; omega) (by rw [ints_len]; omega) fun v54 w12 lo12 hi12 hc12 hr12 hd12 => ?_
    have hW12 := hW11.push hc12 hr12 hd12
    have hsz11 := hc11'.size
    have hsz12 := hc12.size
    refine rd_inc (by omega) ?_
    refine ⟨mk13 - 1, by omega, j + 1, by omega, v54, lo12, hi12, L10 ++ [y], _, rfl, by omega, by simp; omega, hW12, ?_, ho11.chg hc12 (by omega), by omega, hp11.chg hc12 (by omega), by omega, by omega⟩
    rw [List.drop_append_of_le_length (by omega)]
    exact hS11
  · have hnm : mkd ms10 (nx x)[q0 + j] := by rw [hmk10]; simpa using hf
    refine rd_inc (by omega) ?_
    exact ⟨mk13 - 1, by omega, j + 1, by omega, tv10, lo10, hi10, L10, ms10, rfl, by omega, hh10, hW10, hS10.skip hq hnm, ho10, hd10, hp10, hd10b, hz10⟩
theorem l14Used_ok {w W0 : World} {v0 : Value} {c : DCode} (h0 : Is W0 v0 c) (e0 : Ext W0 w) (hc : CodeR c) :
    CALL Tryz.prog 114 [v0] w fun r w' => Ext w w' ∧ Own w.heap.size w' r (setB c.procs.length (UsedP c)) := by
  refine F114_call ?_
  unfold F114
  have h8 := hc.1.procs8
  refine op_box h0 e0 fun w1 hx1 hA => ?_
  have hs1 := hx1.size
  refine rd_load ty35 hA (Ext.refl _) fun v8 h8' => ?_
  refine (l14Roots_ok h8' (Ext.refl _) hc).mono ?_
  rintro v9 w2 ⟨hx2, ho2⟩
  have hs2 := hx2.size
  refine rd_fld fd35_2 ?_
  refine rd_load ty22 (at_DCode_2 hA) hx2 fun v11 h11 => ?_
  refine rd_len u22 h11 ?_
  refine op_makeB h8.2 (by omega) fun w3 hx3 hM3 => ?_
  have hs3 := hx3.size
  have ho3 := ho2.toI.ext hx3
  have hm3 := hM3.lt _ (List.mem_singleton.2 rfl)
  have hx13 := hx2.trans hx3
  generalize hm : w2.heap.size = m at *
  rw [replicate_setB c.procs.length (p := fun q => ∃ r, r < 0 ∧ RootP c r ∧ FromP c r q) (fun i ⟨j, h, _⟩ => by omega)] at hM3
  refine loopC c.procs.length (fun k us w' => us = [.int .i64 (k : Int)] ∧ k ≤ c.procs.length ∧ ChgI m (m + 1) w3 w' ∧ Mine [m] w' (.slice (some ⟨m, 0, none⟩) c.procs.length c.procs.length) (setB c.procs.length fun q => ∃ r, r < k ∧ RootP c r ∧ FromP c r q)) 0 (Nat.zero_le _) ⟨rfl, Nat.zero_le _, ChgI.refl _, hM3⟩ ?_
  rintro k mk u w4 hkm ⟨hu, hkl, hc4, hM4⟩
  simp only [List.map_cons, List.map_nil, List.cons.injEq, and_true] at hu
  rw [hu]
  have hx4 : Ext w1 w4 := hx13.chgI hc4 (by omega)
  have ho4 := ho3.chg hc4 (by omega)
  have hm4 := hM4.lt _ (List.mem_singleton.2 rfl)
  refine rd_fld fd35_2 ?_
  refine rd_load ty22 (at_DCode_2 hA) hx4 fun v16 h16 => ?_
  refine rd_len u22 h16 ?_
  refine rd_lss ?_
  refine br (fun hlt => ?_) (fun hge => ?_)
  case refine_2 =>
    have hke : k = c.procs.length := by omega
    have hS : (setB c.procs.length fun q => ∃ r, r < k ∧ RootP c r ∧ FromP c r q) = setB c.procs.length (UsedP c) := setB_congr fun q _ =>
      ⟨fun ⟨r, _, h1, h2⟩ => ⟨r, h1, h2⟩, fun ⟨r, h1, h2⟩ => ⟨r, by rw [hke]; exact h1.lt hc, h1, h2⟩⟩
    rw [hS] at hM4
    exact ⟨hx1.trans hx4, [m], hM4, fun b hb => by simp only [List.mem_cons, List.not_mem_nil, or_false] at hb; omega⟩
  have hk : k < c.procs.length := by omega
  refine rd_indexN u72 ty4 (i := k) ho4.is (by rw [setB_len]; exact hk) fun b2 o2 hA2 => ?_
  refine rd_loadB ty4 hA2 (Ext.refl _) ?_
  have hmk := mkd_setB (n := c.procs.length) (p := RootP c) (i := k)
  rw [mkd_get (by rw [setB_len]; exact hk)] at hmk
  refine rd_not ?_
  refine br_b (fun hf => ?_) (fun hf => ?_)
  · have hnr : ¬ RootP c k := fun h => by rw [hmk.2 ⟨hk, h⟩] at hf; cases hf
    refine rd_inc (by omega) ?_
    refine ⟨mk - 1, by omega, k + 1, by omega, rfl, by omega, hc4, ?_⟩
    rw [setB_congr (q := fun q => ∃ r, r < k ∧ RootP c r ∧ FromP c r q) fun q _ => ⟨fun ⟨r, h1, h2, h3⟩ => by
      by_cases e : r = k
      · subst e; exact absurd h2 hnr
      · exact ⟨r, by omega, h2, h3⟩, fun ⟨r, h1, h2⟩ => ⟨r, by omega, h2⟩⟩]
    exact hM4
  have hroot : RootP c k := (hmk.1 (by simpa using hf)).2
  refine rd_load ty35 hA hx4 fun v26 h26 => ?_
  refine (l10FromM_ok h26 hx4 hc hk).mono ?_
  rintro _ w5 ⟨hx5, gf, rfl, hgf, hMf⟩
  have hFr : (fun i => i = k ∨ RP (callN c) k i) = FromP c k := rfl
  rw [hFr] at hMf
  have ho5 := ho4.ext hx5
  have hM5 := hM4.ext hx5
  have hc5 := hc4.trans hx5.toI
  refine loopC c.procs.length (fun j us w' => us = [.int .i64 (j : Int)] ∧ j ≤ c.procs.length ∧ ChgI m (m + 1) w5 w' ∧ Mine [m] w' (.slice (some ⟨m, 0, none⟩) c.procs.length c.procs.length) (setB c.procs.length fun q => (∃ r, r < k ∧ RootP c r ∧ FromP c r q) ∨ (q < j ∧ FromP c k q))) 0 (Nat.zero_le _) ⟨rfl, Nat.zero_le _, ChgI.refl _, by rw [setB_congr (q := fun q => ∃ r, r < k ∧ RootP c r ∧ FromP c r q) fun q _ => ⟨fun h => h.resolve_right fun h => by omega, .inl⟩]; exact hM5⟩ ?_
  rintro j mj u w6 hjm ⟨hu, hjl, hc6, hM6⟩
  simp only [List.map_cons, List.map_nil, List.cons.injEq, and_true] at hu
  rw [hu]
  refine rd_lenX u72 ?_
  refine rd_lss ?_
  refine br (fun hlt6 => ?_) (fun hge6 => ?_)
  case refine_2 =>
    refine rd_inc (by omega) ?_
    refine ⟨mk - 1, by omega, k + 1, by omega, rfl, by omega, hc5.trans hc6, ?_⟩
    rw [setB_congr (q := fun q => (∃ r, r < k ∧ RootP c r ∧ FromP c r q) ∨ (q < j ∧ FromP c k q)) fun q hq => ⟨fun ⟨r, h1, h2, h3⟩ => by
      by_cases e : r = k
      · subst e; exact .inr ⟨by omega, h3⟩
      · exact .inl ⟨r, by omega, h2, h3⟩, fun h => h.elim (fun ⟨r, h1, h2⟩ => ⟨r, by omega, h2⟩) fun ⟨_, h⟩ => ⟨k, by omega, hroot, h⟩⟩]
    exact hM6
  have hj : j < c.procs.length := by omega
  have hMf6 : Is w6 (.slice (some ⟨gf, 0, none⟩) c.procs.length c.procs.length) (setB c.procs.length (FromP c k)) := (hMf.keep fun b hb => by
    simp only [List.mem_cons, List.not_mem_nil, or_false] at hb
    subst hb
    exact hc6.block b (hMf.lt b (by simp)) (by omega)).is
  refine rd_indexN u72 ty4 (i := j) hM6.is (by rw [setB_len]; exact hj) fun b3 o3 hA3 => ?_
  refine rd_loadB ty4 hA3 (Ext.refl _) ?_
  have hm1 := mkd_setB (n := c.procs.length) (p := fun q => (∃ r, r < k ∧ RootP c r ∧ FromP c r q) ∨ (q < j ∧ FromP c k q)) (i := j)
  have hm2 := mkd_setB (n := c.procs.length) (p := FromP c k) (i := j)
  rw [mkd_get (by rw [setB_len]; exact hj)] at hm1 hm2
  have hst : ∀ (bb : Bool), (bb = true ↔ ((∃ r, r < k ∧ RootP c r ∧ FromP c r j) ∨ FromP c k j)) → RD Tryz.prog (Instr.indexAt 72 (.slice (some ⟨m, 0, none⟩) c.procs.length c.procs.length) (.int .i64 (j : Int))) w6 fun x47 => OPU Tryz.prog (Instr.storeAt 4 x47 (.bool bb)) w6 fun w => RD Tryz.prog (bin .add 3 (.tmp 0) (.const undef) (.int .i64 (j : Int)) (.int .i64 1)) w fun x34 => ∃ m', m' < mj ∧ ∃ k', k' + m' = c.procs.length ∧ [x34] = [.int .i64 (k' : Int)] ∧ k' ≤ c.procs.length ∧ ChgI m (m + 1) w5 w ∧ Mine [m] w (.slice (some ⟨m, 0, none⟩) c.procs.length c.procs.length) (setB c.procs.length fun q => (∃ r, r < k ∧ RootP c r ∧ FromP c r q) ∨ (q < k' ∧ FromP c k q)) := fun bb hbb => by
    refine rd_elt (α := Bool) rfl u72 ty4 hj ?_
    refine opu_elt (α := Bool) rfl ty4 hM6 setB_len hj mine_boolT fun w7 hc7 hm7 => ?_
    have hc7' : ChgI m (m + 1) w6 w7 := hc7.toI fun b hb => by simp only [List.mem_cons, List.not_mem_nil, or_false] at hb; omega
    refine rd_inc (by omega) ?_
    refine ⟨mj - 1, by omega, j + 1, by omega, rfl, by omega, hc6.trans hc7', ?_⟩
    have hset : (setB c.procs.length fun q => (∃ r, r < k ∧ RootP c r ∧ FromP c r q) ∨ (q < j ∧ FromP c k q)).set j bb = setB c.procs.length fun q => (∃ r, r < k ∧ RootP c r ∧ FromP c r q) ∨ (q < j + 1 ∧ FromP c k q) := marks_setB (by rw [List.length_set, setB_len]) fun q hq => by
      unfold mkd
      rw [List.getD_eq_getElem?_getD, List.getElem?_set]
      by_cases e : j = q
      · subst e
        simp only [setB_len, hj, if_true, Option.getD_some, hbb]
        exact ⟨fun h => h.imp id fun h => ⟨by omega, h⟩, fun h => h.imp id (·.2)⟩
      · rw [if_neg e, ← List.getD_eq_getElem?_getD]
        show mkd _ q ↔ _
        rw [mkd_setB]
        exact ⟨fun ⟨_, h⟩ => h.imp id fun h => ⟨by omega, h.2⟩, fun h => ⟨hq, h.imp id fun h => ⟨by omega, h.2⟩⟩⟩
    rw [← hset]; exact hm7
  refine br_b (fun hf6 => ?_) (fun hf6 => ?_)
  · refine hst true ⟨fun _ => ((hm1.1 hf6).2).imp id (·.2), fun _ => rfl⟩
  · refine rd_indexN u72 ty4 (i := j) hMf6 (by rw [setB_len]; exact hj) fun b4 o4 hA4 => ?_
    refine rd_loadB ty4 hA4 (Ext.refl _) ?_
    refine hst _ ⟨fun h => .inr (hm2.1 h).2, fun h => hm2.2 ⟨hj, h.resolve_left fun h => ?_⟩⟩
    rw [hm1.2 ⟨hj, .inl h⟩] at hf6; cases hf6
end Go.Proofs.YtjgfldfbljmhhaaGreat
namespace Go.Proofs.YtjgfldfbljmhhaaGreat
open Go Go.Sh Go.Proofs
set_option linter.unusedVariables false
/-- (*impl.world).entries -/
def F131 (a0 a1 : Value) (w : World) (R : Value → World → Prop) : Prop :=
  NIL a0 <|
  RD Tryz.prog (Instr.fieldAt 144 a0 0) w fun x16 =>
  RD Tryz.prog (Instr.fieldAt 35 x16 2) w fun x17 =>
  RD Tryz.prog (Instr.loadAt 22 x17) w fun x18 =>
  RD Tryz.prog (Builtin.len_ #[22] 3 [x18].toArray) w fun x19 =>
  OP Tryz.prog (Instr.makeSlice 23 x19 x19) w fun x20 w =>
  RD Tryz.prog (Builtin.len_ #[23] 3 [x20].toArray) w fun x22 =>
  LOOPI [23] [(Value.int .i64 0)] w fun u3 w next3 =>
   RD Tryz.prog (bin .lss 3 (.tmp 0) (.tmp 0) (u3 23) x22) w fun x24 =>
   BR x24
    (NIL a0 <|
    RD Tryz.prog (Instr.fieldAt 144 a0 5) w fun x28 =>
    RD Tryz.prog (Instr.loadAt 3 x28) w fun x29 =>
    CALL Tryz.prog 164 [x29, (u3 23)] w fun x31 w =>
    RD Tryz.prog (Op.unary .not x31) w fun x32 =>
    BR x32
     (RD Tryz.prog (Instr.indexAt 23 x20 (u3 23)) w fun x35 =>
     OPU Tryz.prog (Instr.storeAt 3 x35 (Value.int .i64 63)) w fun w =>
     RD Tryz.prog (bin .add 3 (.tmp 0) (.const undef) (u3 23) (Value.int .i64 1)) w fun x36 =>
     next3 [x36] w)
     (RD Tryz.prog (bin .add 3 (.tmp 0) (.const undef) (u3 23) (Value.int .i64 1)) w fun x36 =>
     next3 [x36] w))
    (LOOPI [7] [(Value.bool true)] w fun u9 w next9 =>
     BR (u9 7)
      (NIL a0 <|
      RD Tryz.prog (Instr.fieldAt 144 a0 6) w fun x40 =>
      RD Tryz.prog (Instr.loadAt 3 x40) w fun x41 =>
      CALL Tryz.prog 97 [x41] w fun x42 w =>
      RD Tryz.prog (Builtin.len_ #[23] 3 [x42].toArray) w fun x43 =>
      LOOPI [7, 44] [(Value.bool false), (Value.int .i64 0)] w fun u12 w next12 =>
       RD Tryz.prog (bin .lss 3 (.tmp 0) (.tmp 0) (u12 44) x43) w fun x45 =>
       BR x45
        (RD Tryz.prog (Instr.indexAt 23 x42 (u12 44)) w fun x46 =>
        RD Tryz.prog (Instr.loadAt 3 x46) w fun x47 =>
        RD Tryz.prog (Instr.indexAt 23 x20 x47) w fun x53 =>
        RD Tryz.prog (Instr.loadAt 3 x53) w fun x54 =>
        CALL Tryz.prog 132 [a0, a1, x47, x54] w fun x55 w =>
        CALL Tryz.prog 194 [a0, x47] w fun x58 w =>
        RD Tryz.prog (Builtin.len_ #[23] 3 [x58].toArray) w fun x59 =>
        LOOPI [7, 60] [(u12 7), (Value.int .i64 0)] w fun u16 w next16 =>
         RD Tryz.prog (bin .lss 3 (.tmp 0) (.tmp 0) (u16 60) x59) w fun x61 =>
         BR x61
          (RD Tryz.prog (Instr.indexAt 23 x58 (u16 60)) w fun x62 =>
          RD Tryz.prog (Instr.loadAt 3 x62) w fun x63 =>
          NIL a0 <|
          RD Tryz.prog (Instr.fieldAt 144 a0 0) w fun x66 =>
          RD Tryz.prog (Instr.fieldAt 35 x66 4) w fun x67 =>
          RD Tryz.prog (Instr.loadAt 33 x67) w fun x68 =>
          RD Tryz.prog (Instr.indexAt 33 x68 x63) w fun x70 =>
          RD Tryz.prog (Instr.loadAt 136 x70) w fun x71 =>
          OP Tryz.prog (Instr.alloc 136 true (.tuple #[])) w fun x13 w =>
          OPU Tryz.prog (Instr.storeAt 136 x13 x71) w fun w =>
          (fun w => RD Tryz.prog (Instr.fieldAt 136 x13 0) w fun x72 =>
          RD Tryz.prog (Instr.loadAt 3 x72) w fun x73 =>
          RD Tryz.prog (bin .eql 3 (.tmp 0) (.const undef) x73 (Value.int .i64 4)) w fun x74 =>
          BR x74
          (RD Tryz.prog (Instr.fieldAt 136 x13 1) w fun x77 =>
          RD Tryz.prog (Instr.loadAt 3 x77) w fun x78 =>
          RD Tryz.prog (Instr.indexAt 23 x20 x78) w fun x79 =>
          RD Tryz.prog (Instr.loadAt 3 x79) w fun x80 =>
          RD Tryz.prog (Instr.indexAt 23 x55 x63) w fun x83 =>
          RD Tryz.prog (Instr.loadAt 3 x83) w fun x84 =>
          RD Tryz.prog (bin .and 3 (.tmp 0) (.tmp 0) x80 x84) w fun x85 =>
          RD Tryz.prog (Instr.fieldAt 136 x13 1) w fun x87 =>
          RD Tryz.prog (Instr.loadAt 3 x87) w fun x88 =>
          RD Tryz.prog (Instr.indexAt 23 x20 x88) w fun x89 =>
          RD Tryz.prog (Instr.loadAt 3 x89) w fun x90 =>
          RD Tryz.prog (bin .neq 3 (.tmp 0) (.tmp 0) x85 x90) w fun x91 =>
          BR x91
           ((fun w => RD Tryz.prog (Instr.fieldAt 136 x13 1) w fun x94 =>
           RD Tryz.prog (Instr.loadAt 3 x94) w fun x95 =>
           RD Tryz.prog (Instr.indexAt 23 x20 x95) w fun x96 =>
           RD Tryz.prog (Instr.loadAt 3 x96) w fun x97 =>
           RD Tryz.prog (Instr.indexAt 23 x55 x63) w fun x100 =>
           RD Tryz.prog (Instr.loadAt 3 x100) w fun x101 =>
           RD Tryz.prog (bin .and 3 (.tmp 0) (.tmp 0) x97 x101) w fun x102 =>
           RD Tryz.prog (Instr.indexAt 23 x20 x95) w fun x103 =>
           OPU Tryz.prog (Instr.storeAt 3 x103 x102) w fun w =>
           RD Tryz.prog (bin .add 3 (.tmp 0) (.const undef) (u16 60) (Value.int .i64 1)) w fun x104 =>
           next16 [(Value.bool true), x104] w) (World.drew1 w))
           (RD Tryz.prog (bin .add 3 (.tmp 0) (.const undef) (u16 60) (Value.int .i64 1)) w fun x104 =>
           next16 [(u16 7), x104] w))
          (RD Tryz.prog (bin .add 3 (.tmp 0) (.const undef) (u16 60) (Value.int .i64 1)) w fun x104 =>
           next16 [(u16 7), x104] w)) (World.drew1 w))
          (RD Tryz.prog (bin .add 3 (.tmp 0) (.const undef) (u12 44) (Value.int .i64 1)) w fun x105 =>
          next12 [(u16 7), x105] w))
        (next9 [(u12 7)] w))
      (R x20 w))
def cfg131 : Cfg := { ext := extL, joins := [], loops := [(3, 137430564928, [23]), (9, 81129638414606681695651566204544, [7]), (12, 81129638414606681678196819113600, [7, 44]), (16, 40564819207302187926389895737472, [7, 60])], draws := [(19, [0, 1, 2, 3, 4, 5, 6, 7, 8, 9, 10, 11, 12, 13, 14, 15, 16, 17, 18, 19, 20], 0), (20, [0, 1, 2, 3, 4, 5, 6, 7, 8, 9, 10, 11], 0)], pars := [] }
theorem F131_eq (a0 a1 : Value) (w : World) (R : Value → World → Prop) : vcF Tryz.prog cfg131 Tryz.f131 [a0, a1] w R = F131 a0 a1 w R := by kernel_rfl
theorem F131_call {a0 a1 : Value} {w : World} {R : Value → World → Prop} (h : F131 a0 a1 w R) : CALL Tryz.prog 131 [a0, a1] w R :=
  call_of (g := cfg131) ent mixed Tryz.func131 (Nat.le_of_ble_eq_true (by kernel_rfl)) (by kernel_rfl) (F131_eq a0 a1 w R ▸ h)
set_option linter.unusedVariables false
set_option linter.unusedSimpArgs false
open Rep (rep)
theorem BI.updM {c : DCode} (hc : CodeR c) {out : List Nat} (h : BI c out) {p i hh : Nat} (hu : UsedP c p) (hi : LiveP c p i) (ho : (insAt c i).op = 4) (hgz : ∀ l, l < 6 → hh.testBit l = false → LostM c (tK (effN c)) (tG (effN c)) p none l) :
    BI c (out.set (agN c i) (nat0 out (agN c i) &&& nat0 (flowN c (effN c) p hh) i)) := by
  have hp := hu.lt hc
  have hil := (live_lt hc (by rw [hc.2.1.1]; exact hp) hi).1
  have hq := (ag_proc hc hil (.inl ho)).2
  refine ⟨by simp [h.len], fun x hx => ?_, fun r l hr hl hb => ?_, fun r l hr hl => ?_⟩
  · rcases mem_set hx with rfl | hx
    · exact Nat.lt_of_le_of_lt Nat.and_le_left (h.lt0 _)
    · exact h.lt x hx
  · rw [nat0_set (by rw [h.len]; exact hq)] at hb
    split at hb
    · rename_i e
      subst e
      rw [Nat.testBit_and, Bool.and_eq_false_iff] at hb
      rcases hb with hb | hb
      · exact h.snd _ l hr hl hb
      · refine .call hu hi ho ?_
        have k := (flow_bit hil hl).1 hb
        have key : ∀ {i l : Nat}, l < 6 → LostP c (tK (effN c)) (tG (effN c)) p (fun l => hh.testBit l = true) i l → LostM c (tK (effN c)) (tG (effN c)) p (some i) l := fun {i l} hl k => by
          induction k with
          | ent h0 => exact .ent (hgz _ hl (by simpa using h0))
          | gen h0 hj h1 => exact .gen h0 hj h1
          | pass h0 hj _ h2 ih => exact .pass h0 hj (ih hl) h2
        exact key hl k
    · exact h.snd r l hr hl hb
  · rw [nat0_set (by rw [h.len]; exact hq)]
    split
    · rename_i e
      rw [Nat.testBit_and, e, h.root r l hr hl]; rfl
    · exact h.root r l hr hl
def CL (c : DCode) (out : List Nat) (p i : Nat) : Prop := nat0 out (agN c i) &&& nat0 (flowN c (effN c) p (nat0 out p)) i = nat0 out (agN c i)
/-- a round under way: D is done -/
structure BQ (c : DCode) (out0 : List Nat) (ag : Bool) (out : List Nat) (D : Nat → Nat → Prop) : Prop where
  bi : BI c out
  yes : ag = true → out.sum < out0.sum
  no : ag = false → out = out0 ∧ ∀ p i, D p i → UsedP c p → LiveP c p i → (insAt c i).op = 4 → CL c out0 p i
theorem BQ.mono {c : DCode} {out0 out : List Nat} {ag : Bool} {D D' : Nat → Nat → Prop} (H : BQ c out0 ag out D) (h : ∀ p i, UsedP c p → LiveP c p i → (insAt c i).op = 4 → D' p i → D p i) : BQ c out0 ag out D' :=
  ⟨H.bi, H.yes, fun e => ⟨(H.no e).1, fun p i hd hu hl ho => (H.no e).2 p i (h p i hu hl ho hd) hu hl ho⟩⟩
theorem BQ.set {c : DCode} (hc : CodeR c) {out0 out : List Nat} {ag : Bool} {D D' : Nat → Nat → Prop} (H : BQ c out0 ag out D) {p i hh : Nat} (hu : UsedP c p) (hi : LiveP c p i) (ho : (insAt c i).op = 4) (hb : ∀ l, l < 6 → hh.testBit l = false → LostM c (tK (effN c)) (tG (effN c)) p none l)
    (hne : nat0 out (agN c i) &&& nat0 (flowN c (effN c) p hh) i ≠ nat0 out (agN c i)) : BQ c out0 true (out.set (agN c i) (nat0 out (agN c i) &&& nat0 (flowN c (effN c) p hh) i)) D' := by
  have hil := (live_lt hc (by rw [hc.2.1.1]; exact hu.lt hc) hi).1
  have hq := (ag_proc hc hil (.inl ho)).2
  refine ⟨H.bi.updM hc hu hi ho hb, fun _ => ?_, fun e => by cases e⟩
  have h1 := sum_set (l := out) (i := agN c i) (v := nat0 out (agN c i) &&& nat0 (flowN c (effN c) p hh) i) (by rw [H.bi.len]; exact hq)
  have h2 := and_lt hne
  cases ag with
  | true => have := H.yes rfl; omega
  | false => rw [(H.no rfl).1] at h1 h2 ⊢; omega
theorem BQ.skip {c : DCode} {out0 out : List Nat} {ag : Bool} {D D' : Nat → Nat → Prop} (H : BQ c out0 ag out D) {p i hh : Nat} (hz : ag = false → hh = nat0 out0 p) (hD : ∀ q j, D' q j → D q j ∨ (q = p ∧ j = i)) (he : nat0 out (agN c i) &&& nat0 (flowN c (effN c) p hh) i = nat0 out (agN c i)) : BQ c out0 ag out D' :=
  ⟨H.bi, H.yes, fun e => ⟨(H.no e).1, fun q j hd hu hl ho => by
    rcases hD q j hd with h | ⟨rfl, rfl⟩
    · exact (H.no e).2 q j h hu hl ho
    · unfold CL; rw [← hz e, ← (H.no e).1]; exact he⟩⟩
/-- where threads begin nothing is held, elsewhere all -/
def BS (c : DCode) (k : Nat) (out : List Nat) : Prop := out.length = c.procs.length ∧ ∀ p, p < c.procs.length → (¬ (p < k ∧ ¬ RootP c p) → nat0 out p = 0) ∧ (p < k → ¬ RootP c p → nat0 out p = 63)
theorem BS.fin {c : DCode} (hc : CodeR c) {out : List Nat} (h : BS c c.procs.length out) : BI c out := BI.start hc out h.1 fun p hp => ⟨fun hr => (h.2 p hp).1 fun hn => hn.2 hr, fun hr => (h.2 p hp).2 hp hr⟩
theorem entries_ok {w W0 W1 : World} {b : Nat} {v1 : Value} {c : DCode} (hW : WAt W0 b c) (e0 : Ext W0 w) (h1 : Is W1 v1 (effs (effN c))) (e1 : Ext W1 w) (hc : CodeR c) :
    CALL Tryz.prog 131 [.pointer (some ⟨b, 0, none⟩), v1] w fun r w' => Ext w w' ∧ Own w.heap.size w' r (ints (begs c)) := by
  refine F131_call ?_
  unfold F131
  have h8 := hc.1.procs8
  have hil := hc.f.ins
  have hTR := effN_right c
  refine NIL.mk rfl ?_
  refine rd_fld fd144_0 ?_
  refine rd_fld fd35_2 ?_
  refine rd_load ty22 (at_DCode_2 hW.wl.code) e0 fun v18 h18 => ?_
  refine rd_len u22 h18 ?_
  have hn : c.procs.length = c.procs.length := rfl
  generalize hnn : c.procs.length = n at hn
  rw [hnn] at h8
  refine op_makeI (by omega) (by omega) fun w2 hx2 hM2 => ?_
  have hs2 := hx2.size
  generalize hg : w.heap.size = g at *
  have hF2 : FW w w2 g n (List.replicate n 0) := ⟨hx2, hM2, by omega⟩
  have hB2 : BS c 0 (List.replicate n 0) := ⟨by simp [hnn], fun p hp => ⟨fun _ => by rw [← nat0_get (by simp; omega)]; simp, fun h => by omega⟩⟩
  refine rd_lenX u23 ?_
  have hrs : rootsN c < 256 := setN_small (by rw [hnn]; omega)
  refine loopC n (fun k us w' => ∃ out, us = [.int .i64 (k : Int)] ∧ k ≤ n ∧ FW w w' g n out ∧ BS c k out) 0 (Nat.zero_le _) ⟨_, rfl, Nat.zero_le _, hF2, hB2⟩ ?_
  rintro k mk u w3 hkm ⟨out, hu, hkl, hF3, hB3⟩
  simp only [List.map_cons, List.map_nil, List.cons.injEq, and_true] at hu
  rw [hu]
  have hol := hB3.1
  refine rd_lss ?_
  refine br (fun hlt => ?_) (fun hge => ?_)
  · have hk : k < n := by omega
    refine NIL.mk rfl ?_
    refine rd_fld fd144_5 ?_
    refine rd_loadI ty3 hW.roots (e0.trans hF3.ext) fun _ => ?_
    refine (hasBit_ok (m := rootsN c) (i := k) (by omega) (by omega)).mono ?_
    rintro _ w4 ⟨hx4, rfl⟩
    have hF4 := hF3.step hx4
    have hbit : (rootsN c).testBit k = true ↔ RootP c k := by
      unfold rootsN; rw [setN_bit]
      exact ⟨fun h => h.2, fun h => ⟨by omega, h⟩⟩
    refine rd_not ?_
    refine br_b (fun hf => ?_) (fun hf => ?_)
    · have hnr : ¬ RootP c k := fun h => by rw [hbit.2 h] at hf; cases hf
      refine rd_elt (α := Int) rfl u23 ty3 hk ?_
      refine opu_elt (α := Int) rfl ty3 hF4.mine (by rw [ints_len]; omega) hk (mine_nat (v := 63) (by omega)) fun w5 hc5 hm5 => ?_
      have hF5 := hF4.set (v := 63) hc5 hm5
      refine rd_inc (by omega) ?_
      refine ⟨mk - 1, by omega, k + 1, by omega, _, rfl, by omega, hF5, by simp [hol], fun p hp => ?_⟩
      rw [nat0_set (by rw [hol, hnn]; exact hk)]
      have := hB3.2 p hp
      by_cases e : k = p
      · subst e
        exact ⟨fun h => absurd ⟨by omega, hnr⟩ h, fun _ _ => by rw [if_pos rfl]⟩
      · rw [if_neg e]
        exact ⟨fun h => this.1 fun h2 => h ⟨by omega, h2.2⟩, fun h => this.2 (by omega)⟩
    · have hr : RootP c k := hbit.1 (by simpa using hf)
      refine rd_inc (by omega) ?_
      refine ⟨mk - 1, by omega, k + 1, by omega, _, rfl, by omega, hF4, hol, fun p hp => ?_⟩
      have := hB3.2 p hp
      by_cases e : k = p
      · subst e
        exact ⟨fun _ => this.1 fun h => h.2 hr, fun _ h => absurd hr h⟩
      · exact ⟨fun h => this.1 fun h2 => h ⟨by omega, h2.2⟩, fun h => this.2 (by omega)⟩
  have hk : k = n := by omega
  rw [hk, ← hnn] at hB3
  have hBI := hB3.fin hc
  clear hF2 hM2 hB2 hu hkm hB3
  have hus : usedN c < 256 := setN_small (by rw [hnn]; omega)
  refine LOOPI.mk (fun m us w' => ∃ (ag : Bool) (out : List Nat), us = [.bool ag] ∧ m = out.sum + (if ag then 1 else 0) ∧ FW w w' g n out ∧ BI c out ∧ (ag = false → ∀ p i, UsedP c p → LiveP c p i → (insAt c i).op = 4 → CL c out p i)) (out.sum + 1) ⟨true, out, rfl, rfl, hF3, hBI, fun e => by cases e⟩ ?_
  rintro m u w6 ⟨ag, out, hu, hm, hF6, hB6, hsh⟩
  simp only [List.map_cons, List.map_nil, List.cons.injEq, and_true] at hu
  rw [hu]
  refine br_b (fun hag => ?_) (fun hag => ?_)
  case refine_2 =>
    rw [hB6.fin hc (hsh hag)] at hF6
    have hoo := hF6.own
    rw [hg] at hoo
    exact ⟨hF6.ext, hoo⟩
  rw [hag, if_pos rfl] at hm
  refine NIL.mk rfl ?_
  refine rd_fld fd144_6 ?_
  refine rd_loadI ty3 hW.used (e0.trans hF6.ext) fun _ => ?_
  refine (bitsOf_ok (m := usedN c) (by omega)).mono ?_
  rintro v42 w7 ⟨hx7, ho7⟩
  unfold usedN at ho7
  rw [bitsL_setN (by rw [hnn]; omega)] at ho7
  have hF7 := hF6.step hx7
  have hg6 := hF6.lt
  have hL : ∀ p, p ∈ setL c.procs.length (UsedP c) ↔ UsedP c p := fun p => by rw [mem_setL]; exact ⟨fun h => h.2, fun h => ⟨h.lt hc, h⟩⟩
  have hLl : (setL c.procs.length (UsedP c)).length ≤ 8 := Nat.le_trans setL_len (by rw [hnn]; omega)
  generalize setL c.procs.length (UsedP c) = L at *
  have hO7 := ho7.toI
  generalize hlo : w6.heap.size = lo at *
  generalize hhi : w7.heap.size = hi at *
  refine rd_len u23 ho7.is ?_
  rw [ints_len]
  refine loopC L.length (fun k us w' => ∃ (ag : Bool) (out' : List Nat), us = [.bool ag, .int .i64 (k : Int)] ∧ k ≤ L.length ∧ FW w w' g n out' ∧ OwnI lo hi w' v42 (ints L) ∧ BQ c out ag out' (fun p i => p ∈ L.take k)) 0 (Nat.zero_le _) ⟨false, out, rfl, Nat.zero_le _, hF7, hO7, hB6, fun e => (by cases e), fun _ => ⟨rfl, fun p i h => by simp at h⟩⟩ ?_
  rintro k mk u w8 hkm ⟨ag8, out8, hu, hkl, hF8, hO8, hQ8⟩
  simp only [List.map_cons, List.map_nil, List.cons.injEq, and_true] at hu
  obtain ⟨hu1, hu2⟩ := hu
  rw [hu1, hu2]
  refine rd_lss ?_
  refine br (fun hlt => ?_) (fun hge => ?_)
  case refine_2 =>
    refine ⟨out8.sum + (if ag8 then 1 else 0), ?_, ag8, out8, rfl, rfl, hF8, hQ8.bi, fun e p i hu hl ho => ?_⟩
    · cases ag8 with
      | true => have := hQ8.yes rfl; simp; omega
      | false => rw [(hQ8.no rfl).1]; simp; omega
    · have := hQ8.no e
      rw [this.1]
      exact this.2 p i (by rw [List.take_of_length_le (by omega)]; exact (hL p).2 hu) hu hl ho
  have hk : k < L.length := by omega
  refine rd_indexN u23 ty3 (i := k) hO8.is (by rw [ints_len]; exact hk) fun b2 o2 hA2 => ?_
  rw [ints_get] at hA2
  refine rd_loadI ty3 hA2 (Ext.refl _) fun _ => ?_
  have htk := fun x => mem_take_iff hk (x := x)
  have hup := (hL L[k]).1 (List.getElem_mem hk)
  generalize L[k] = p at *
  have hpn := hup.lt hc
  have hpe : p < c.entry.length := by rw [hc.2.1.1]; exact hpn
  have hl8 := hQ8.bi.len
  refine rd_indexN u23 ty3 (i := p) hF8.mine.is (by rw [ints_len, hl8]; exact hpn) fun b3 o3 hA3 => ?_
  rw [ints_nat0] at hA3
  refine rd_loadI ty3 hA3 (Ext.refl _) fun _ => ?_
  have hh64 := hQ8.bi.lt0 p
  have hhb : ∀ l, l < 6 → (nat0 out8 p).testBit l = false → LostM c (tK (effN c)) (tG (effN c)) p none l := fun l hl hb => hQ8.bi.snd p l hpn hl hb
  have hhz : ag8 = false → nat0 out8 p = nat0 out p := fun e => by rw [(hQ8.no e).1]
  generalize nat0 out8 p = hh at *
  refine (flow_ok hW.wl (e0.trans hF8.ext) h1 (e1.trans hF8.ext) hc hTR hpn hh64).mono ?_
  rintro v55 w9 ⟨hx9, ho9⟩
  have hF9 := hF8.step hx9
  have hO9 := hO8.ext hx9
  have hg8 := hF8.lt
  refine (liveOf_ok hW.wl (e0.trans hF9.ext) hc hpn).mono ?_
  rintro v58 w10 ⟨hx10, ho10⟩
  have hF10 := hF9.step hx10
  have hO10 := hO9.ext hx10
  have hg9 := hF9.lt
  have hA10 := ho9.toI.ext hx10
  have hM : ∀ i, i ∈ setL c.ins.length (LiveP c p) ↔ LiveP c p i := fun i => by rw [mem_setL]; exact ⟨fun h => h.2, fun h => ⟨(live_lt hc hpe h).1, h⟩⟩
  have hMl : (setL c.ins.length (LiveP c p)).length ≤ 1500 := Nat.le_trans setL_len hil
  generalize setL c.ins.length (LiveP c p) = M at *
  have hLv10 := ho10.toI
  generalize hl9 : w9.heap.size = lo9 at *
  generalize hl10 : w10.heap.size = hi10 at *
  generalize hl8' : w8.heap.size = lo8 at *
  refine rd_len u23 ho10.is ?_
  rw [ints_len]
  have hfl : (flowN c (effN c) p hh).length = c.ins.length := flowN_len _ _ _ _
  have hf64 := flowN_lt (c := c) (T := effN c) (p := p) (h := hh)
  refine loopC M.length (fun j us w' => ∃ (ag : Bool) (out' : List Nat), us = [.bool ag, .int .i64 (j : Int)] ∧ j ≤ M.length ∧ FW w w' g n out' ∧ OwnI lo hi w' v42 (ints L) ∧ OwnI lo8 lo9 w' v55 (ints (flowN c (effN c) p hh)) ∧ OwnI lo9 hi10 w' v58 (ints M) ∧ BQ c out ag out' (fun q i => q ∈ L.take k ∨ (q = p ∧ i ∈ M.take j)) ∧ (ag = false → hh = nat0 out p)) 0 (Nat.zero_le _) ⟨ag8, out8, rfl, Nat.zero_le _, hF10, hO10, hA10, hLv10, hQ8.mono fun q i _ _ _ h => h.elim id fun h => by simp at h, hhz⟩ ?_
  rintro j mj u w11 hjm ⟨ag11, out11, hu, hjl, hF11, hO11, hA11, hLv11, hQ11, hz11⟩
  simp only [List.map_cons, List.map_nil, List.cons.injEq, and_true] at hu
  obtain ⟨hu1, hu2⟩ := hu
  rw [hu1, hu2]
  refine rd_lss ?_
  refine br (fun hlt => ?_) (fun hge => ?_)
  case refine_2 =>
    refine rd_inc (by omega) ?_
    refine ⟨mk - 1, by omega, k + 1, by omega, ag11, out11, rfl, by omega, hF11, hO11, hQ11.mono fun q i hu hl ho h => ?_⟩
    rcases (htk q).1 h with h | rfl
    · exact .inl h
    · exact .inr ⟨rfl, by rw [List.take_of_length_le (by omega)]; exact (hM i).2 hl⟩
  have hj : j < M.length := by omega
  refine rd_indexN u23 ty3 (i := j) hLv11.is (by rw [ints_len]; exact hj) fun b4 o4 hA4 => ?_
  rw [ints_get] at hA4
  refine rd_loadI ty3 hA4 (Ext.refl _) fun _ => ?_
  have htj := fun x => mem_take_iff hj (x := x)
  have hiv := (hM M[j]).1 (List.getElem_mem hj)
  generalize M[j] = i at *
  have hin := (live_lt hc hpe hiv).1
  refine NIL.mk rfl ?_
  refine rd_fld fd144_0 ?_
  refine rd_fld fd35_4 ?_
  refine rd_load ty33 (at_DCode_4 hW.wl.code) (e0.trans hF11.ext) fun v68 h68 => ?_
  refine rd_indexN u33 ty136 h68 hin fun b5 o5 hA5 => ?_
  rw [insAt_get] at hA5
  refine rd_load ty136 hA5 (e0.trans hF11.ext) fun v71 h71 => ?_
  refine op_var zl136 rfl ty136 rfl h71 (e0.trans hF11.ext) fun w12 hx12 hA12 hV12 => ?_
  have hx13 := ext_drew w12
  have hx123 := hx12.trans hx13
  have hF13 := hF11.step hx123
  have hO13 := hO11.ext hx123
  have hA13 := hA11.ext hx123
  have hLv13 := hLv11.ext hx123
  generalize World.drew1 w12 = w13 at *
  refine rd_fld fd136_0 ?_
  refine rd_loadI ty3 (at_DIns_0 hA12) hx13 fun _ => ?_
  refine rd_eql ?_
  have hno : ¬ (insAt c i).op = 4 → BQ c out ag11 out11 (fun q i => q ∈ L.take k ∨ (q = p ∧ i ∈ M.take (j + 1))) := fun hn => hQ11.mono fun q i' _ _ ho h => h.imp id fun ⟨h1, h2⟩ => ⟨h1, by
    rcases (htj i').1 h2 with h | rfl
    · exact h
    · exact absurd ho hn⟩
  refine br (fun c4 => ?_) (fun c4 => ?_)
  case refine_2 =>
    refine rd_inc (by omega) ?_
    exact ⟨mj - 1, by omega, j + 1, by omega, ag11, out11, rfl, by omega, hF13, hO13, hA13, hLv13, hno c4, hz11⟩
  obtain ⟨hag4, hagn⟩ := ag_proc hc hin (.inl c4)
  have hl11 := hQ11.bi.len
  have hset := fun D' => hQ11.set (D' := D') hc hup hiv c4 hhb
  have hskip := hQ11.skip (D' := fun q i => q ∈ L.take k ∨ (q = p ∧ i ∈ M.take (j + 1))) (p := p) (i := i) hz11 fun q j' h => by
    rcases h with h | ⟨h1, h2⟩
    · exact .inl (.inl h)
    · rcases (htj j').1 h2 with h | h
      · exact .inl (.inr ⟨h1, h⟩)
      · exact .inr ⟨h1, h⟩
  have hq64 := hQ11.bi.lt0 (agN c i)
  have ha64 := nat0_lt hf64 i
  have hrO : ∀ {w' : World} {K : Value → Prop} (hF : FW w w' g n out11) (k : K (.int .i64 (nat0 out11 (agN c i) : Int))), RD Tryz.prog (Instr.indexAt 23 (.slice (some ⟨g, 0, none⟩) n n) (.int .i64 (agN c i : Int))) w' fun x37 => RD Tryz.prog (Instr.loadAt 3 x37) w' K := fun hF k => by
    refine rd_indexN u23 ty3 (i := agN c i) hF.mine.is (by rw [ints_len, hl11]; exact hagn) fun b1 o1 hA1 => ?_
    rw [ints_nat0] at hA1
    exact rd_loadI ty3 hA1 (Ext.refl _) fun _ => k
  have hrA : ∀ {w' : World} {K : Value → Prop} (hA : OwnI lo8 lo9 w' v55 (ints (flowN c (effN c) p hh))) (k : K (.int .i64 (nat0 (flowN c (effN c) p hh) i : Int))), RD Tryz.prog (Instr.indexAt 23 v55 (.int .i64 (i : Int))) w' fun x37 => RD Tryz.prog (Instr.loadAt 3 x37) w' K := fun hA k => by
    refine rd_indexN u23 ty3 (i := i) hA.is (by rw [ints_len, hfl]; exact hin) fun b1 o1 hA1 => ?_
    rw [ints_nat0] at hA1
    exact rd_loadI ty3 hA1 (Ext.refl _) fun _ => k
  refine rd_fld fd136_1 ?_
  refine rd_loadI ty3 (at_DIns_1 hA12) hx13 fun _ => ?_
  rw [hag4]
  refine hrO hF13 ?_
  refine hrA hA13 ?_
  refine rd_and (by omega) (by omega) ?_
  refine rd_fld fd136_1 ?_
  refine rd_loadI ty3 (at_DIns_1 hA12) hx13 fun _ => ?_
  rw [hag4]
  refine hrO hF13 ?_
  refine rd_neq ?_
  refine br (fun hne => ?_) (fun heq => ?_)
  · have hx14 := ext_drew w13
    have hF14 := hF13.step hx14
    have hO14 := hO13.ext hx14
    have hA14 := hA13.ext hx14
    have hLv14 := hLv13.ext hx14
    generalize World.drew1 w13 = w14 at *
    refine rd_fld fd136_1 ?_
    refine rd_loadI ty3 (at_DIns_1 hA12) (hx13.trans hx14) fun _ => ?_
    rw [hag4]
    refine hrO hF14 ?_
    refine hrA hA14 ?_
    refine rd_and (by omega) (by omega) ?_
    have hvl := Nat.and_le_left (n := nat0 out11 (agN c i)) (m := nat0 (flowN c (effN c) p hh) i)
    refine rd_elt (α := Int) rfl u23 ty3 (by omega) ?_
    refine opu_elt (α := Int) rfl ty3 hF14.mine (by rw [ints_len, hl11, hnn]) (by omega) (mine_nat (v := nat0 out11 (agN c i) &&& nat0 (flowN c (effN c) p hh) i) (by omega)) fun w15 hc15 hm15 => ?_
    have hF15 := hF14.set (v := nat0 out11 (agN c i) &&& nat0 (flowN c (effN c) p hh) i) hc15 hm15
    have hc15' := chg_one hc15
    refine rd_inc (by omega) ?_
    exact ⟨mj - 1, by omega, j + 1, by omega, true, _, rfl, by omega, hF15, hO14.chg hc15' (by omega), hA14.chg hc15' (by omega), hLv14.chg hc15' (by omega), hset _ fun e => hne (by rw [e]), fun e => by cases e⟩
  · refine rd_inc (by omega) ?_
    exact ⟨mj - 1, by omega, j + 1, by omega, ag11, out11, rfl, by omega, hF13, hO13, hA13, hLv13, hskip (Int.ofNat_inj.1 (Decidable.not_not.1 heq)), hz11⟩
end Go.Proofs.YtjgfldfbljmhhaaGreat
namespace Go.Proofs.YtjgfldfbljmhhaaGreat
open Go Go.Sh Go.Proofs
set_option linter.unusedVariables false
/-- spec.l15Entries -/
def F113 (a0 a1 : Value) (w : World) (R : Value → World → Prop) : Prop :=
  OP Tryz.prog (Instr.box 35 a0) w fun x2 w =>
  RD Tryz.prog (Instr.loadAt 35 x2) w fun x16 =>
  CALL Tryz.prog 117 [x16] w fun x17 w =>
  RD Tryz.prog (Instr.loadAt 35 x2) w fun x18 =>
  CALL Tryz.prog 114 [x18] w fun x19 w =>
  OP Tryz.prog (Instr.buildSlice 23 0 #[]) w fun x20 w =>
  LOOPI [7, 8] [x20, (Value.int .i64 0)] w fun u5 w next5 =>
   RD Tryz.prog (Instr.fieldAt 35 x2 2) w fun x22 =>
   RD Tryz.prog (Instr.loadAt 22 x22) w fun x23 =>
   RD Tryz.prog (Builtin.len_ #[22] 3 [x23].toArray) w fun x24 =>
   RD Tryz.prog (bin .lss 3 (.tmp 0) (.tmp 0) (u5 8) x24) w fun x25 =>
   BR x25
    (RD Tryz.prog (Instr.indexAt 72 x17 (u5 8)) w fun x30 =>
    RD Tryz.prog (Instr.loadAt 4 x30) w fun x31 =>
    BR x31
     (OP Tryz.prog (Instr.buildSlice 23 1 #[(0, (Value.int .i64 0))]) w fun x34 w =>
     OP Tryz.prog (Builtin.append_ #[23, 23] 23 [(u5 7), x34].toArray) w fun x35 w =>
     RD Tryz.prog (bin .add 3 (.tmp 0) (.const undef) (u5 8) (Value.int .i64 1)) w fun x27 =>
     next5 [x35, x27] w)
     (OP Tryz.prog (Instr.buildSlice 23 1 #[(0, (Value.int .i64 63))]) w fun x34 w =>
     OP Tryz.prog (Builtin.append_ #[23, 23] 23 [(u5 7), x34].toArray) w fun x35 w =>
     RD Tryz.prog (bin .add 3 (.tmp 0) (.const undef) (u5 8) (Value.int .i64 1)) w fun x27 =>
     next5 [x35, x27] w))
    (LOOPI [10] [(Value.bool true)] w fun u12 w next12 =>
     BR (u12 10)
      (LOOPI [10, 11] [(Value.bool false), (Value.int .i64 0)] w fun u15 w next15 =>
       RD Tryz.prog (Instr.fieldAt 35 x2 2) w fun x38 =>
       RD Tryz.prog (Instr.loadAt 22 x38) w fun x39 =>
       RD Tryz.prog (Builtin.len_ #[22] 3 [x39].toArray) w fun x40 =>
       RD Tryz.prog (bin .lss 3 (.tmp 0) (.tmp 0) (u15 11) x40) w fun x41 =>
       BR x41
        (RD Tryz.prog (Instr.indexAt 72 x19 (u15 11)) w fun x46 =>
        RD Tryz.prog (Instr.loadAt 4 x46) w fun x47 =>
        RD Tryz.prog (Op.unary .not x47) w fun x48 =>
        BR x48
         (RD Tryz.prog (bin .add 3 (.tmp 0) (.const undef) (u15 11) (Value.int .i64 1)) w fun x43 =>
         next15 [(u15 10), x43] w)
         ((fun w => RD Tryz.prog (Instr.loadAt 35 x2) w fun x49 =>
         RD Tryz.prog (Instr.indexAt 23 (u5 7) (u15 11)) w fun x54 =>
         RD Tryz.prog (Instr.loadAt 3 x54) w fun x55 =>
         CALL Tryz.prog 115 [x49, a1, (u15 11), x55] w fun x56 w =>
         RD Tryz.prog (Instr.loadAt 35 x2) w fun x57 =>
         CALL Tryz.prog 185 [x57, (u15 11)] w fun x59 w =>
         RD Tryz.prog (Instr.fieldAt 35 x2 3) w fun x60 =>
         RD Tryz.prog (Instr.loadAt 23 x60) w fun x61 =>
         RD Tryz.prog (Instr.indexAt 23 x61 (u15 11)) w fun x63 =>
         RD Tryz.prog (Instr.loadAt 3 x63) w fun x64 =>
         LOOPI [10, 14] [(u15 10), x64] w fun u21 w next21 =>
          RD Tryz.prog (Instr.loadAt 35 x2) w fun x66 =>
          CALL Tryz.prog 116 [x66, (u15 11)] w fun x68 w =>
          RD Tryz.prog (bin .leq 3 (.tmp 0) (.tmp 0) (u21 14) x68) w fun x69 =>
          BR x69
           (RD Tryz.prog (Instr.fieldAt 35 x2 4) w fun x72 =>
           RD Tryz.prog (Instr.loadAt 33 x72) w fun x73 =>
           RD Tryz.prog (Instr.indexAt 33 x73 (u21 14)) w fun x75 =>
           RD Tryz.prog (Instr.loadAt 136 x75) w fun x76 =>
           OP Tryz.prog (Instr.alloc 136 true (.tuple #[])) w fun x15 w =>
           OPU Tryz.prog (Instr.storeAt 136 x15 x76) w fun w =>
           (fun w => RD Tryz.prog (Instr.indexAt 72 x59 (u21 14)) w fun x79 =>
           RD Tryz.prog (Instr.loadAt 4 x79) w fun x80 =>
           BR x80
           (RD Tryz.prog (Instr.fieldAt 136 x15 0) w fun x82 =>
           RD Tryz.prog (Instr.loadAt 3 x82) w fun x83 =>
           RD Tryz.prog (bin .eql 3 (.tmp 0) (.const undef) x83 (Value.int .i64 4)) w fun x84 =>
           BR x84
           (RD Tryz.prog (Instr.fieldAt 136 x15 1) w fun x88 =>
           RD Tryz.prog (Instr.loadAt 3 x88) w fun x89 =>
           RD Tryz.prog (Instr.indexAt 23 (u5 7) x89) w fun x90 =>
           RD Tryz.prog (Instr.loadAt 3 x90) w fun x91 =>
           RD Tryz.prog (Instr.indexAt 23 x56 (u21 14)) w fun x94 =>
           RD Tryz.prog (Instr.loadAt 3 x94) w fun x95 =>
           RD Tryz.prog (bin .and 3 (.tmp 0) (.tmp 0) x91 x95) w fun x96 =>
           RD Tryz.prog (Instr.fieldAt 136 x15 1) w fun x98 =>
           RD Tryz.prog (Instr.loadAt 3 x98) w fun x99 =>
           RD Tryz.prog (Instr.indexAt 23 (u5 7) x99) w fun x100 =>
           RD Tryz.prog (Instr.loadAt 3 x100) w fun x101 =>
           RD Tryz.prog (bin .neq 3 (.tmp 0) (.tmp 0) x96 x101) w fun x102 =>
           BR x102
            ((fun w => RD Tryz.prog (Instr.fieldAt 136 x15 1) w fun x105 =>
            RD Tryz.prog (Instr.loadAt 3 x105) w fun x106 =>
            RD Tryz.prog (Instr.fieldAt 136 x15 1) w fun x108 =>
            RD Tryz.prog (Instr.loadAt 3 x108) w fun x109 =>
            RD Tryz.prog (Instr.indexAt 23 (u5 7) x109) w fun x110 =>
            RD Tryz.prog (Instr.loadAt 3 x110) w fun x111 =>
            RD Tryz.prog (Instr.indexAt 23 x56 (u21 14)) w fun x114 =>
            RD Tryz.prog (Instr.loadAt 3 x114) w fun x115 =>
            RD Tryz.prog (bin .and 3 (.tmp 0) (.tmp 0) x111 x115) w fun x116 =>
            RD Tryz.prog (Instr.indexAt 23 (u5 7) x106) w fun x117 =>
            OPU Tryz.prog (Instr.storeAt 3 x117 x116) w fun w =>
            RD Tryz.prog (bin .add 3 (.tmp 0) (.const undef) (u21 14) (Value.int .i64 1)) w fun x71 =>
            next21 [(Value.bool true), x71] w) (World.drew1 w))
            (RD Tryz.prog (bin .add 3 (.tmp 0) (.const undef) (u21 14) (Value.int .i64 1)) w fun x71 =>
            next21 [(u21 10), x71] w))
           (RD Tryz.prog (bin .add 3 (.tmp 0) (.const undef) (u21 14) (Value.int .i64 1)) w fun x71 =>
            next21 [(u21 10), x71] w))
           (RD Tryz.prog (bin .add 3 (.tmp 0) (.const undef) (u21 14) (Value.int .i64 1)) w fun x71 =>
            next21 [(u21 10), x71] w)) (World.drew1 w))
           (RD Tryz.prog (bin .add 3 (.tmp 0) (.const undef) (u15 11) (Value.int .i64 1)) w fun x43 =>
           next15 [(u21 10), x43] w)) (World.drew1 w)))
        (next12 [(u15 10)] w))
      (R (u5 7) w))
def cfg113 : Cfg := { ext := extL, joins := [], loops := [(5, 68717380480, [7, 8]), (12, 332306998946228968225951696350673920, [10]), (15, 332306998946228968225951627631197184, [10, 11]), (21, 332306998946228931332463617651033088, [10, 14])], draws := [(18, [0, 1, 2, 3, 4, 5, 6, 7, 8], 0), (24, [0, 1, 2, 3, 4, 5, 6, 7, 8, 9, 10, 11, 12, 13, 14, 15, 16, 17, 18, 19, 20, 21, 22, 23, 24, 25, 26], 0), (25, [0, 1, 2, 3, 4, 5, 6, 7, 8, 9, 10, 11, 12, 13, 14], 0)], pars := [] }
theorem F113_eq (a0 a1 : Value) (w : World) (R : Value → World → Prop) : vcF Tryz.prog cfg113 Tryz.f113 [a0, a1] w R = F113 a0 a1 w R := by kernel_rfl
theorem F113_call {a0 a1 : Value} {w : World} {R : Value → World → Prop} (h : F113 a0 a1 w R) : CALL Tryz.prog 113 [a0, a1] w R :=
  call_of (g := cfg113) ent mixed Tryz.func113 (Nat.le_of_ble_eq_true (by kernel_rfl)) (by kernel_rfl) (F113_eq a0 a1 w R ▸ h)
set_option linter.unusedVariables false
set_option linter.unusedSimpArgs false
open Rep (rep)
/-- a list of numbers of one's own, of whatever room -/
structure FV (w1 w : World) (g : Nat) (v : Value) (out : List Nat) : Prop where
  ext : Ext w1 w
  mine : Mine [g] w v (ints out)
  g0 : w1.heap.size ≤ g
section
variable {w1 w w' : World} {g : Nat} {v : Value} {out : List Nat}
theorem FV.step (h : FV w1 w g v out) (hx : Ext w w') : FV w1 w' g v out := ⟨h.ext.trans hx, h.mine.ext hx, h.g0⟩
theorem FV.lt (h : FV w1 w g v out) : g < w.heap.size := h.mine.lt g (by simp)
theorem FV.own (h : FV w1 w g v out) : Own w1.heap.size w v (ints out) := ⟨[g], h.mine, fun b hb => by simp only [List.mem_cons, List.not_mem_nil, or_false] at hb; have := h.g0; omega⟩
theorem FV.make (ho : Own w1.heap.size w v (ints out)) (hx : Ext w1 w) (hT : 0 < out.length) : ∃ g, FV w1 w g v out := by
  obtain ⟨F, hm, hF⟩ := ho
  obtain ⟨b, o, cap, hv, rfl⟩ := flat_one hm (by intro e; have := congrArg List.length e; rw [ints_len] at this; simp only [List.length_nil] at this; omega)
  exact ⟨b, hx, hm, hF b (by simp)⟩
theorem opu_int {q m : Nat} {K : World → Prop} (h : FV w1 w g v out) (hq : q < out.length) (hm : m < 9223372036854775808) (k : ∀ w', FV w1 w' g v (out.set q m) → ChgI g (g + 1) w w' → K w') :
    RD Tryz.prog (Instr.indexAt 23 v (.int .i64 (q : Int))) w fun a => OPU Tryz.prog (Instr.storeAt 3 a (.int .i64 (m : Int))) w K := by
  refine rd_focus u23 ty3 h.mine (by rw [ints_len]; exact hq) fun b o G hL => ?_
  refine opu_lensF (upd := fun y => (ints out).set q y) (y' := (m : Int)) ty3 hL (mine_nat hm) fun w2 F2 hc2 hm2 hF2 => ?_
  have hF : F2 = [g] := by
    obtain ⟨b, o, cap, hv, rfl⟩ := flat_one hm2 (by intro e; have := congrArg List.length e; rw [List.length_set, ints_len] at this; simp only [List.length_nil] at this; omega)
    have := hF2 b (by simp)
    simpa using this
  subst hF
  have hcc := chg_one hc2
  exact k w2 ⟨h.ext.chgI hcc h.g0, by rw [ints_set]; exact hm2, h.g0⟩ hcc
end
/-- where threads begin nothing, elsewhere all -/
noncomputable def bg0 (c : DCode) (p : Nat) : Nat := @ite _ (RootP c p) (Classical.propDecidable _) 0 63
noncomputable def bgL (c : DCode) (k : Nat) : List Nat := (List.range k).map (bg0 c)
theorem bgL_succ (c : DCode) (k : Nat) : ints (bgL c (k + 1)) = ints (bgL c k) ++ [(bg0 c k : Int)] := by simp [bgL, ints, List.range_succ]
theorem bgL_len (c : DCode) (k : Nat) : (bgL c k).length = k := by simp [bgL]
theorem bgL_BI {c : DCode} (hc : CodeR c) : BI c (bgL c c.procs.length) := BI.start hc _ (bgL_len c _) fun p hp => by
  have : nat0 (bgL c c.procs.length) p = bg0 c p := by rw [← nat0_get (by rw [bgL_len]; exact hp)]; simp [bgL]
  rw [this]
  unfold bg0
  exact ⟨fun h => by rw [if_pos h], fun h => by rw [if_neg h]⟩
theorem l15Entries_ok {w W0 W1 : World} {v0 v1 : Value} {c : DCode} (h0 : Is W0 v0 c) (e0 : Ext W0 w) (h1 : Is W1 v1 (effs (effN c))) (e1 : Ext W1 w) (hc : CodeR c) :
    CALL Tryz.prog 113 [v0, v1] w fun r w' => Ext w w' ∧ Own w.heap.size w' r (ints (begs c)) := by
  refine F113_call ?_
  unfold F113
  have h8 := hc.1.procs8
  have hil := hc.f.ins
  have hTR := effN_right c
  have hBI := bgL_BI hc
  refine op_box h0 e0 fun w0 hx0 hA => ?_
  have hs0 := hx0.size
  refine rd_load ty35 hA (Ext.refl _) fun v16 h16 => ?_
  refine (l14Roots_ok h16 (Ext.refl _) hc).mono ?_
  rintro v17 wa ⟨hxa, hoa⟩
  have hsa := hxa.size
  refine rd_load ty35 hA hxa fun v18 h18 => ?_
  refine (l14Used_ok h18 hxa hc).mono ?_
  rintro v19 wb ⟨hxb, hob⟩
  have hsb := hxb.size
  have hx0b := hxa.trans hxb
  have hRo := hoa.is.ext hxb
  have hUs := hob.is
  have hn : c.procs.length = c.procs.length := rfl
  generalize hnn : c.procs.length = n at hn
  rw [hnn] at h8
  refine op_build0I (α := Int) u23 ty3 fun a w1 hx1 hr1 => ?_
  have hs1 := hx1.size
  refine loopC n (fun k us w' => ∃ v, us = [v, .int .i64 (k : Int)] ∧ k ≤ n ∧ Ext wb w' ∧ RowI wb.heap.size w'.heap.size 3 w' v (ints (bgL c k))) 0 (Nat.zero_le _) ⟨_, rfl, Nat.zero_le _, hx1, by simpa [bgL, ints] using hr1.mono hs1 (Nat.le_refl _)⟩ ?_
  rintro k mk u w3 hkm ⟨v, hu, hkl, hx3, hr3⟩
  simp only [List.map_cons, List.map_nil, List.cons.injEq, and_true] at hu
  obtain ⟨hu1, hu2⟩ := hu
  rw [hu1, hu2]
  have hs3 := hx3.size
  have hx03 := hx0b.trans hx3
  refine rd_fld fd35_2 ?_
  refine rd_load ty22 (at_DCode_2 hA) hx03 fun v23 h23 => ?_
  refine rd_len u22 h23 ?_
  rw [hnn]
  refine rd_lss ?_
  refine br (fun hlt => ?_) (fun hge => ?_)
  · have hk : k < n := by omega
    refine rd_indexN u72 ty4 (i := k) hRo (by rw [setB_len]; omega) fun b2 o2 hA2 => ?_
    refine rd_loadB ty4 hA2 hx3 ?_
    have hmk := mkd_setB (n := c.procs.length) (p := RootP c) (i := k)
    rw [mkd_get (by rw [setB_len]; omega)] at hmk
    refine br_b (fun hf => ?_) (fun hf => ?_)
    · have hb0 : bg0 c k = 0 := by unfold bg0; rw [if_pos (hmk.1 hf).2]
      refine op_push (lo2 := w3.heap.size) (hi2 := w3.heap.size) (x := ((0 : Nat) : Int)) u23 ty3 z3 zc3 (by decide) hr3 (by omega) (ownI_int _ _ (by unfold I64; omega)) (by omega) (by omega) (by rw [maxLen_eq, ints_len, bgL_len]; omega) (by rw [ints_len, bgL_len]; omega) fun v54 w9 hc9 hr9 => ?_
      refine rd_inc (by omega) ?_
      refine ⟨mk - 1, by omega, k + 1, by omega, v54, rfl, by omega, hx3.chgI hc9 (Nat.le_refl _), ?_⟩
      rw [bgL_succ, hb0]; exact hr9
    · have hb0 : bg0 c k = 63 := by unfold bg0; rw [if_neg fun h => by rw [hmk.2 ⟨by omega, h⟩] at hf; cases hf]
      refine op_push (lo2 := w3.heap.size) (hi2 := w3.heap.size) (x := ((63 : Nat) : Int)) u23 ty3 z3 zc3 (by decide) hr3 (by omega) (ownI_int _ _ (by unfold I64; omega)) (by omega) (by omega) (by rw [maxLen_eq, ints_len, bgL_len]; omega) (by rw [ints_len, bgL_len]; omega) fun v54 w9 hc9 hr9 => ?_
      refine rd_inc (by omega) ?_
      refine ⟨mk - 1, by omega, k + 1, by omega, v54, rfl, by omega, hx3.chgI hc9 (Nat.le_refl _), ?_⟩
      rw [bgL_succ, hb0]; exact hr9
  have hk : k = c.procs.length := by omega
  rw [hk] at hr3
  obtain ⟨g, hF3⟩ := FV.make hr3.own.own hx3 (by rw [bgL_len]; omega)
  generalize bgL c c.procs.length = out at *
  clear hr3 hkm
  refine LOOPI.mk (fun m us w' => ∃ (ag : Bool) (out : List Nat), us = [.bool ag] ∧ m = out.sum + (if ag then 1 else 0) ∧ FV wb w' g v out ∧ BI c out ∧ (ag = false → ∀ p i, UsedP c p → LiveP c p i → (insAt c i).op = 4 → CL c out p i)) (out.sum + 1) ⟨true, out, rfl, rfl, hF3, hBI, fun e => by cases e⟩ ?_
  rintro m u w6 ⟨ag, out, hu, hm, hF6, hB6, hsh⟩
  simp only [List.map_cons, List.map_nil, List.cons.injEq, and_true] at hu
  rw [hu]
  refine br_b (fun hag => ?_) (fun hag => ?_)
  case refine_2 =>
    rw [hB6.fin hc (hsh hag)] at hF6
    exact ⟨hx0.trans (hx0b.trans hF6.ext), hF6.own.mono (by omega)⟩
  rw [hag, if_pos rfl] at hm
  refine loopC n (fun k us w' => ∃ (ag : Bool) (out' : List Nat), us = [.bool ag, .int .i64 (k : Int)] ∧ k ≤ n ∧ FV wb w' g v out' ∧ BQ c out ag out' (fun p i => p < k)) 0 (Nat.zero_le _) ⟨false, out, rfl, Nat.zero_le _, hF6, hB6, fun e => (by cases e), fun _ => ⟨rfl, fun p i h => by omega⟩⟩ ?_
  rintro p mk u w8 hkm ⟨ag8, out8, hu, hkl, hF8, hQ8⟩
  simp only [List.map_cons, List.map_nil, List.cons.injEq, and_true] at hu
  obtain ⟨hu1, hu2⟩ := hu
  rw [hu1, hu2]
  have hx08 := hx0b.trans hF8.ext
  refine rd_fld fd35_2 ?_
  refine rd_load ty22 (at_DCode_2 hA) hx08 fun v38 h38 => ?_
  refine rd_len u22 h38 ?_
  rw [hnn]
  refine rd_lss ?_
  refine br (fun hlt => ?_) (fun hge => ?_)
  case refine_2 =>
    refine ⟨out8.sum + (if ag8 then 1 else 0), ?_, ag8, out8, rfl, rfl, hF8, hQ8.bi, fun e p' i hu hl ho => ?_⟩
    · cases ag8 with
      | true => have := hQ8.yes rfl; simp; omega
      | false => rw [(hQ8.no rfl).1]; simp; omega
    · have := hQ8.no e
      rw [this.1]
      exact this.2 p' i (by have := hu.lt hc; omega) hu hl ho
  have hpn' : p < n := by omega
  have hpn : p < c.procs.length := by omega
  have hpe : p < c.entry.length := by rw [hc.2.1.1]; exact hpn
  refine rd_indexN u72 ty4 (i := p) hUs (by rw [setB_len]; omega) fun b2 o2 hA2 => ?_
  refine rd_loadB ty4 hA2 hF8.ext ?_
  have hmk := mkd_setB (n := c.procs.length) (p := UsedP c) (i := p)
  rw [mkd_get (by rw [setB_len]; omega)] at hmk
  refine rd_not ?_
  refine br_b (fun hf => ?_) (fun hf => ?_)
  · have hnu : ¬ UsedP c p := fun h => by rw [hmk.2 ⟨hpn, h⟩] at hf; cases hf
    refine rd_inc (by omega) ?_
    refine ⟨mk - 1, by omega, p + 1, by omega, ag8, out8, rfl, by omega, hF8, hQ8.mono fun q i hu _ _ h => ?_⟩
    by_cases e : q = p
    · subst e; exact absurd hu hnu
    · omega
  have hup : UsedP c p := (hmk.1 (by simpa using hf)).2
  have hxd := ext_drew w8
  have hF8d := hF8.step hxd
  generalize World.drew1 w8 = w8d at *
  have hl8 := hQ8.bi.len
  refine rd_load ty35 hA (hx0b.trans hF8d.ext) fun v49 h49 => ?_
  refine rd_indexN u23 ty3 (i := p) hF8d.mine.is (by rw [ints_len, hl8]; exact hpn) fun b3 o3 hA3 => ?_
  rw [ints_nat0] at hA3
  refine rd_loadI ty3 hA3 (Ext.refl _) fun _ => ?_
  have hh64 := hQ8.bi.lt0 p
  have hhb : ∀ l, l < 6 → (nat0 out8 p).testBit l = false → LostM c (tK (effN c)) (tG (effN c)) p none l := fun l hl hb => hQ8.bi.snd p l hpn hl hb
  have hhz : ag8 = false → nat0 out8 p = nat0 out p := fun e => by rw [(hQ8.no e).1]
  generalize nat0 out8 p = hh at *
  refine (l13From_ok h49 (hx0b.trans hF8d.ext) h1 (e1.trans (hx0.trans (hx0b.trans hF8d.ext))) hc hTR hpn hh64).mono ?_
  rintro v55 w9 ⟨hx9, ho9⟩
  have hF9 := hF8d.step hx9
  have hg8 := hF8d.lt
  refine rd_load ty35 hA (hx0b.trans hF9.ext) fun v57 h57 => ?_
  refine (l09Live_ok h57 (hx0b.trans hF9.ext) hc hpe).mono ?_
  rintro v58 w10 ⟨hx10, ho10⟩
  have hF10 := hF9.step hx10
  have hg9 := hF9.lt
  have hA10 := ho9.toI.ext hx10
  have hLv10 := ho10.toI
  generalize hl9 : w9.heap.size = lo9 at *
  generalize hl10 : w10.heap.size = hi10 at *
  generalize hl8' : w8d.heap.size = lo8 at *
  obtain ⟨he1, he2, he3⟩ := eN_eq hc hpe
  obtain ⟨hz1, hz2, hz3⟩ := zN_end hc hpn
  obtain ⟨_, hez, _⟩ := zN_eq hc hpe
  refine rd_fld fd35_3 ?_
  refine rd_load ty23 (at_DCode_3 hA) (hx0b.trans hF10.ext) fun v61 h61 => ?_
  refine rd_indexN u23 ty3 h61 hpe fun b5 o5 hA5 => ?_
  rw [en_get hpe, he1] at hA5
  refine rd_loadI ty3 hA5 (hx0b.trans hF10.ext) fun _ => ?_
  have hfl : (flowN c (effN c) p hh).length = c.ins.length := flowN_len _ _ _ _
  have hf64 := flowN_lt (c := c) (T := effN c) (p := p) (h := hh)
  have hlz : ∀ i, LiveP c p i → eN c p ≤ i ∧ i ≤ zN c p := fun i h => by
    have := live_lt hc hpe h
    exact in_proc hc this.1 hpe this.2
  generalize hE : eN c p = E at *
  generalize hZ : zN c p = Z at *
  refine loopC (Z + 1 - E) (fun j us w' => ∃ (ag : Bool) (out' : List Nat), us = [.bool ag, .int .i64 ((E + j : Nat) : Int)] ∧ E + j ≤ Z + 1 ∧ FV wb w' g v out' ∧ OwnI lo8 lo9 w' v55 (ints (flowN c (effN c) p hh)) ∧ OwnI lo9 hi10 w' v58 (setB c.ins.length (LiveP c p)) ∧ BQ c out ag out' (fun q i => q < p ∨ (q = p ∧ i < E + j)) ∧ (ag = false → hh = nat0 out p)) 0 (Nat.zero_le _) ⟨ag8, out8, rfl, by omega, hF10, hA10, hLv10, hQ8.mono fun q i _ hl _ h => h.elim id fun ⟨h1, h2⟩ => by subst h1; have := hlz i hl; omega, hhz⟩ ?_
  rintro j mj u w11 hjm ⟨ag11, out11, hu, hjl, hF11, hA11, hLv11, hQ11, hz11⟩
  simp only [List.map_cons, List.map_nil, List.cons.injEq, and_true] at hu
  obtain ⟨hu1, hu2⟩ := hu
  rw [hu1, hu2]
  have hx11 := hx0b.trans hF11.ext
  refine rd_load ty35 hA hx11 fun v66 h66 => ?_
  refine (l08End_ok h66 hx11 (p := (p : Int)) (by omega) (by omega) hc.2.1.nonneg).mono ?_
  rintro _ w12 ⟨hx12, rfl⟩
  rw [hz2]
  have hF12 := hF11.step hx12
  have hA12 := hA11.ext hx12
  have hLv12 := hLv11.ext hx12
  have hx012 := hx0b.trans hF12.ext
  refine rd_leq ?_
  refine br (fun hlt => ?_) (fun hge => ?_)
  case refine_2 =>
    refine rd_inc (by omega) ?_
    refine ⟨mk - 1, by omega, p + 1, by omega, ag11, out11, rfl, by omega, hF12, hQ11.mono fun q i hu hl ho h => ?_⟩
    by_cases e : q = p
    · subst e
      have := hlz i hl
      exact .inr ⟨rfl, by omega⟩
    · exact .inl (by omega)
  have hin : E + j < c.ins.length := by omega
  generalize hij : E + j = i at *
  refine rd_fld fd35_4 ?_
  refine rd_load ty33 (at_DCode_4 hA) hx012 fun v73 h73 => ?_
  refine rd_indexN u33 ty136 h73 hin fun b6 o6 hA6 => ?_
  rw [insAt_get] at hA6
  refine rd_load ty136 hA6 hx012 fun v76 h76 => ?_
  refine op_var zl136 rfl ty136 rfl h76 hx012 fun w12b hx12b hAI hV12 => ?_
  have hx13 := ext_drew w12b
  have hx123 := hx12b.trans hx13
  have hF13 := hF12.step hx123
  have hA13 := hA12.ext hx123
  have hLv13 := hLv12.ext hx123
  generalize World.drew1 w12b = w13 at *
  have hml := mkd_setB (n := c.ins.length) (p := LiveP c p) (i := i)
  rw [mkd_get (by rw [setB_len]; exact hin)] at hml
  have hno : ¬ (LiveP c p i ∧ (insAt c i).op = 4) → BQ c out ag11 out11 (fun q i' => q < p ∨ (q = p ∧ i' < i + 1)) := fun hn => hQ11.mono fun q i' _ hl ho h => h.imp id fun ⟨h1, h2⟩ => ⟨h1, by
    by_cases e : i' = i
    · subst e; subst h1; exact absurd ⟨hl, ho⟩ hn
    · omega⟩
  have hnext : ∀ {w' : World} {ag' : Bool} {out' : List Nat} (hF : FV wb w' g v out') (hA : OwnI lo8 lo9 w' v55 (ints (flowN c (effN c) p hh))) (hL : OwnI lo9 hi10 w' v58 (setB c.ins.length (LiveP c p))) (hQ : BQ c out ag' out' (fun q i' => q < p ∨ (q = p ∧ i' < i + 1))) (hz : ag' = false → hh = nat0 out p),
      ∃ m', m' < mj ∧ ∃ k', k' + m' = Z + 1 - E ∧ ∃ (ag : Bool) (out'' : List Nat), [Value.bool ag', Value.int .i64 ((i + 1 : Nat) : Int)] = [.bool ag, .int .i64 ((E + k' : Nat) : Int)] ∧ E + k' ≤ Z + 1 ∧ FV wb w' g v out'' ∧ OwnI lo8 lo9 w' v55 (ints (flowN c (effN c) p hh)) ∧ OwnI lo9 hi10 w' v58 (setB c.ins.length (LiveP c p)) ∧ BQ c out ag out'' (fun q i => q < p ∨ (q = p ∧ i < E + k')) ∧ (ag = false → hh = nat0 out p) := fun {w' ag' out'} hF hA hL hQ hz =>
    ⟨mj - 1, by omega, j + 1, by omega, ag', out', by rw [show i + 1 = E + (j + 1) by omega], by omega, hF, hA, hL, by rw [show E + (j + 1) = i + 1 by omega]; exact hQ, hz⟩
  refine rd_indexN u72 ty4 (i := i) hLv13.is (by rw [setB_len]; exact hin) fun b7 o7 hA7 => ?_
  refine rd_loadB ty4 hA7 (Ext.refl _) ?_
  refine br_b (fun hf7 => ?_) (fun hf7 => ?_)
  case refine_2 =>
    refine rd_inc (by omega) ?_
    exact hnext hF13 hA13 hLv13 (hno fun h => by rw [hml.2 ⟨hin, h.1⟩] at hf7; cases hf7) hz11
  have hiv : LiveP c p i := (hml.1 hf7).2
  refine rd_fld fd136_0 ?_
  refine rd_loadI ty3 (at_DIns_0 hAI) hx13 fun _ => ?_
  refine rd_eql ?_
  refine br (fun c4 => ?_) (fun c4 => ?_)
  case refine_2 =>
    refine rd_inc (by omega) ?_
    exact hnext hF13 hA13 hLv13 (hno fun h => c4 h.2) hz11
  obtain ⟨hag4, hagn⟩ := ag_proc hc hin (.inl c4)
  have hl11 := hQ11.bi.len
  have hset := fun D' => hQ11.set (D' := D') hc hup hiv c4 hhb
  have hskip := hQ11.skip (D' := fun q i' => q < p ∨ (q = p ∧ i' < i + 1)) (p := p) (i := i) hz11 fun q j' h => by
    rcases h with h | ⟨h1, h2⟩
    · exact .inl (.inl h)
    · by_cases e : j' = i
      · exact .inr ⟨h1, e⟩
      · exact .inl (.inr ⟨h1, by omega⟩)
  have hq64 := hQ11.bi.lt0 (agN c i)
  have ha64 := nat0_lt hf64 i
  have hrO : ∀ {w' : World} {K : Value → Prop} (hF : FV wb w' g v out11) (k : K (.int .i64 (nat0 out11 (agN c i) : Int))), RD Tryz.prog (Instr.indexAt 23 v (.int .i64 (agN c i : Int))) w' fun x37 => RD Tryz.prog (Instr.loadAt 3 x37) w' K := fun hF k => by
    refine rd_indexN u23 ty3 (i := agN c i) hF.mine.is (by rw [ints_len, hl11]; exact hagn) fun b1 o1 hA1 => ?_
    rw [ints_nat0] at hA1
    exact rd_loadI ty3 hA1 (Ext.refl _) fun _ => k
  have hrA : ∀ {w' : World} {K : Value → Prop} (hA : OwnI lo8 lo9 w' v55 (ints (flowN c (effN c) p hh))) (k : K (.int .i64 (nat0 (flowN c (effN c) p hh) i : Int))), RD Tryz.prog (Instr.indexAt 23 v55 (.int .i64 (i : Int))) w' fun x37 => RD Tryz.prog (Instr.loadAt 3 x37) w' K := fun hA k => by
    refine rd_indexN u23 ty3 (i := i) hA.is (by rw [ints_len, hfl]; exact hin) fun b1 o1 hA1 => ?_
    rw [ints_nat0] at hA1
    exact rd_loadI ty3 hA1 (Ext.refl _) fun _ => k
  refine rd_fld fd136_1 ?_
  refine rd_loadI ty3 (at_DIns_1 hAI) hx13 fun _ => ?_
  rw [hag4]
  refine hrO hF13 ?_
  refine hrA hA13 ?_
  refine rd_and (by omega) (by omega) ?_
  refine rd_fld fd136_1 ?_
  refine rd_loadI ty3 (at_DIns_1 hAI) hx13 fun _ => ?_
  rw [hag4]
  refine hrO hF13 ?_
  refine rd_neq ?_
  refine br (fun hne => ?_) (fun heq => ?_)
  · have hx14 := ext_drew w13
    have hF14 := hF13.step hx14
    have hA14 := hA13.ext hx14
    have hLv14 := hLv13.ext hx14
    generalize World.drew1 w13 = w14 at *
    refine rd_fld fd136_1 ?_
    refine rd_loadI ty3 (at_DIns_1 hAI) (hx13.trans hx14) fun _ => ?_
    rw [hag4]
    refine rd_fld fd136_1 ?_
    refine rd_loadI ty3 (at_DIns_1 hAI) (hx13.trans hx14) fun _ => ?_
    rw [hag4]
    refine hrO hF14 ?_
    refine hrA hA14 ?_
    refine rd_and (by omega) (by omega) ?_
    have hvl := Nat.and_le_left (n := nat0 out11 (agN c i)) (m := nat0 (flowN c (effN c) p hh) i)
    refine opu_int (m := nat0 out11 (agN c i) &&& nat0 (flowN c (effN c) p hh) i) hF14 (by rw [hl11]; exact hagn) (by omega) fun w15 hF15 hc15' => ?_
    refine rd_inc (by omega) ?_
    exact hnext hF15 (hA14.chg hc15' (by omega)) (hLv14.chg hc15' (by omega)) (hset _ fun e => hne (by rw [e])) (fun e => by cases e)
  · refine rd_inc (by omega) ?_
    exact hnext hF13 hA13 hLv13 (hskip (Int.ofNat_inj.1 (Decidable.not_not.1 heq))) hz11
end Go.Proofs.YtjgfldfbljmhhaaGreat
namespace Go.Proofs.YtjgfldfbljmhhaaGreat
open Go Go.Sh Go.Proofs
set_option linter.unusedVariables false
/-- (*impl.world).must -/
def F66 (a0 : Value) (w : World) (R : Value → World → Prop) : Prop :=
  CALL Tryz.prog 130 [a0] w fun x12 w =>
  CALL Tryz.prog 131 [a0, x12] w fun x15 w =>
  NIL a0 <|
  RD Tryz.prog (Instr.fieldAt 144 a0 0) w fun x18 =>
  RD Tryz.prog (Instr.fieldAt 35 x18 4) w fun x19 =>
  RD Tryz.prog (Instr.loadAt 33 x19) w fun x20 =>
  RD Tryz.prog (Builtin.len_ #[33] 3 [x20].toArray) w fun x21 =>
  OP Tryz.prog (Instr.makeSlice 23 x21 x21) w fun x22 w =>
  RD Tryz.prog (Builtin.len_ #[23] 3 [x22].toArray) w fun x24 =>
  LOOPI [25] [(Value.int .i64 0)] w fun u5 w next5 =>
   RD Tryz.prog (bin .lss 3 (.tmp 0) (.tmp 0) (u5 25) x24) w fun x26 =>
   BR x26
    (RD Tryz.prog (Instr.indexAt 23 x22 (u5 25)) w fun x30 =>
    OPU Tryz.prog (Instr.storeAt 3 x30 (Value.int .i64 63)) w fun w =>
    RD Tryz.prog (bin .add 3 (.tmp 0) (.const undef) (u5 25) (Value.int .i64 1)) w fun x31 =>
    next5 [x31] w)
    (NIL a0 <|
    RD Tryz.prog (Instr.fieldAt 144 a0 6) w fun x34 =>
    RD Tryz.prog (Instr.loadAt 3 x34) w fun x35 =>
    CALL Tryz.prog 97 [x35] w fun x36 w =>
    RD Tryz.prog (Builtin.len_ #[23] 3 [x36].toArray) w fun x37 =>
    LOOPI [38] [(Value.int .i64 0)] w fun u10 w next10 =>
     RD Tryz.prog (bin .lss 3 (.tmp 0) (.tmp 0) (u10 38) x37) w fun x39 =>
     BR x39
      (RD Tryz.prog (Instr.indexAt 23 x36 (u10 38)) w fun x40 =>
      RD Tryz.prog (Instr.loadAt 3 x40) w fun x41 =>
      RD Tryz.prog (Instr.indexAt 23 x15 x41) w fun x47 =>
      RD Tryz.prog (Instr.loadAt 3 x47) w fun x48 =>
      CALL Tryz.prog 132 [a0, x12, x41, x48] w fun x49 w =>
      NIL a0 <|
      RD Tryz.prog (Instr.fieldAt 144 a0 0) w fun x52 =>
      RD Tryz.prog (Instr.fieldAt 35 x52 3) w fun x53 =>
      RD Tryz.prog (Instr.loadAt 23 x53) w fun x54 =>
      RD Tryz.prog (Instr.indexAt 23 x54 x41) w fun x56 =>
      RD Tryz.prog (Instr.loadAt 3 x56) w fun x57 =>
      LOOPI [10] [x57] w fun u14 w next14 =>
       NIL a0 <|
       RD Tryz.prog (Instr.fieldAt 144 a0 0) w fun x61 =>
       RD Tryz.prog (Instr.loadAt 35 x61) w fun x62 =>
       CALL Tryz.prog 133 [x62, x41] w fun x64 w =>
       RD Tryz.prog (bin .lss 3 (.tmp 0) (.tmp 0) (u14 10) x64) w fun x65 =>
       BR x65
        (RD Tryz.prog (Instr.indexAt 23 x49 (u14 10)) w fun x72 =>
        RD Tryz.prog (Instr.loadAt 3 x72) w fun x73 =>
        RD Tryz.prog (Instr.indexAt 23 x22 (u14 10)) w fun x74 =>
        OPU Tryz.prog (Instr.storeAt 3 x74 x73) w fun w =>
        RD Tryz.prog (bin .add 3 (.tmp 0) (.const undef) (u14 10) (Value.int .i64 1)) w fun x67 =>
        next14 [x67] w)
        (RD Tryz.prog (bin .add 3 (.tmp 0) (.const undef) (u10 38) (Value.int .i64 1)) w fun x75 =>
        next10 [x75] w))
      (R x22 w))
def cfg66 : Cfg := { ext := extL, joins := [], loops := [(5, 4261412928, [25]), (10, 75557863725639445513984, [38]), (14, 37778643632581009998848, [10])], draws := [], pars := [] }
theorem F66_eq (a0 : Value) (w : World) (R : Value → World → Prop) : vcF Tryz.prog cfg66 Tryz.f66 [a0] w R = F66 a0 w R := by kernel_rfl
theorem F66_call {a0 : Value} {w : World} {R : Value → World → Prop} (h : F66 a0 w R) : CALL Tryz.prog 66 [a0] w R :=
  call_of (g := cfg66) ent mixed Tryz.func66 (Nat.le_of_ble_eq_true (by kernel_rfl)) (by kernel_rfl) (F66_eq a0 w R ▸ h)
/-- spec.l15Must -/
def F56 (a0 : Value) (w : World) (R : Value → World → Prop) : Prop :=
  OP Tryz.prog (Instr.box 35 a0) w fun x1 w =>
  RD Tryz.prog (Instr.loadAt 35 x1) w fun x10 =>
  CALL Tryz.prog 112 [x10] w fun x11 w =>
  RD Tryz.prog (Instr.loadAt 35 x1) w fun x12 =>
  CALL Tryz.prog 113 [x12, x11] w fun x14 w =>
  RD Tryz.prog (Instr.loadAt 35 x1) w fun x15 =>
  CALL Tryz.prog 114 [x15] w fun x16 w =>
  RD Tryz.prog (Instr.fieldAt 35 x1 4) w fun x17 =>
  RD Tryz.prog (Instr.loadAt 33 x17) w fun x18 =>
  RD Tryz.prog (Builtin.len_ #[33] 3 [x18].toArray) w fun x19 =>
  OP Tryz.prog (Instr.makeSlice 23 x19 x19) w fun x20 w =>
  LOOPI [7] [(Value.int .i64 0)] w fun u6 w next6 =>
   RD Tryz.prog (Instr.fieldAt 35 x1 2) w fun x22 =>
   RD Tryz.prog (Instr.loadAt 22 x22) w fun x23 =>
   RD Tryz.prog (Builtin.len_ #[22] 3 [x23].toArray) w fun x24 =>
   RD Tryz.prog (bin .lss 3 (.tmp 0) (.tmp 0) (u6 7) x24) w fun x25 =>
   BR x25
    ((fun w => RD Tryz.prog (Instr.loadAt 35 x1) w fun x28 =>
    RD Tryz.prog (Instr.indexAt 23 x14 (u6 7)) w fun x33 =>
    RD Tryz.prog (Instr.loadAt 3 x33) w fun x34 =>
    CALL Tryz.prog 115 [x28, x11, (u6 7), x34] w fun x35 w =>
    RD Tryz.prog (Instr.fieldAt 35 x1 3) w fun x36 =>
    RD Tryz.prog (Instr.loadAt 23 x36) w fun x37 =>
    RD Tryz.prog (Instr.indexAt 23 x37 (u6 7)) w fun x39 =>
    RD Tryz.prog (Instr.loadAt 3 x39) w fun x40 =>
    LOOPI [9] [x40] w fun u10 w next10 =>
     RD Tryz.prog (Instr.loadAt 35 x1) w fun x42 =>
     CALL Tryz.prog 116 [x42, (u6 7)] w fun x44 w =>
     RD Tryz.prog (bin .leq 3 (.tmp 0) (.tmp 0) (u10 9) x44) w fun x45 =>
     BR x45
      (RD Tryz.prog (Instr.indexAt 23 x20 (u10 9)) w fun x50 =>
      OPU Tryz.prog (Instr.storeAt 3 x50 (Value.int .i64 63)) w fun w =>
      RD Tryz.prog (Instr.indexAt 72 x16 (u6 7)) w fun x53 =>
      RD Tryz.prog (Instr.loadAt 4 x53) w fun x54 =>
      BR x54
       (RD Tryz.prog (Instr.indexAt 23 x35 (u10 9)) w fun x59 =>
       RD Tryz.prog (Instr.loadAt 3 x59) w fun x60 =>
       RD Tryz.prog (Instr.indexAt 23 x20 (u10 9)) w fun x61 =>
       OPU Tryz.prog (Instr.storeAt 3 x61 x60) w fun w =>
       RD Tryz.prog (bin .add 3 (.tmp 0) (.const undef) (u10 9) (Value.int .i64 1)) w fun x47 =>
       next10 [x47] w)
       (RD Tryz.prog (bin .add 3 (.tmp 0) (.const undef) (u10 9) (Value.int .i64 1)) w fun x47 =>
       next10 [x47] w))
      (RD Tryz.prog (bin .add 3 (.tmp 0) (.const undef) (u6 7) (Value.int .i64 1)) w fun x27 =>
      next6 [x27] w)) (World.drew1 w))
    (R x20 w)
def cfg56 : Cfg := { ext := extL, joins := [], loops := [(6, 4611686018425291648, [7]), (10, 4611683819404132864, [9])], draws := [(8, [0, 1, 2, 3, 4, 5, 6, 7, 8], 0)], pars := [] }
theorem F56_eq (a0 : Value) (w : World) (R : Value → World → Prop) : vcF Tryz.prog cfg56 Tryz.f56 [a0] w R = F56 a0 w R := by kernel_rfl
theorem F56_call {a0 : Value} {w : World} {R : Value → World → Prop} (h : F56 a0 w R) : CALL Tryz.prog 56 [a0] w R :=
  call_of (g := cfg56) ent mixed Tryz.func56 (Nat.le_of_ble_eq_true (by kernel_rfl)) (by kernel_rfl) (F56_eq a0 w R ▸ h)
set_option linter.unusedVariables false
set_option linter.unusedSimpArgs false
open Rep (rep)
/-- what is told of the places of D is told right -/
def MS (c : DCode) (out : List Nat) (D : Nat → Prop) : Prop := out.length = c.ins.length ∧ ∀ i, i < c.ins.length → D i → nat0 out i = mustAt c i
theorem MS.set {c : DCode} {out : List Nat} {D D' : Nat → Prop} (h : MS c out D) {i v : Nat} (hi : i < c.ins.length) (hv : v = mustAt c i) (hD : ∀ j, D' j → D j ∨ j = i) : MS c (out.set i v) D' := by
  refine ⟨by simp [h.1], fun j hj hd => ?_⟩
  rw [nat0_set (by rw [h.1]; exact hi)]
  by_cases e : i = j
  · subst e; rw [if_pos rfl]; exact hv
  · rw [if_neg e]
    exact h.2 j hj ((hD j hd).resolve_right fun e' => e e'.symm)
theorem MS.mono {c : DCode} {out : List Nat} {D D' : Nat → Prop} (h : MS c out D) (hD : ∀ j, j < c.ins.length → D' j → D j) : MS c out D' := ⟨h.1, fun j hj hd => h.2 j hj (hD j hj hd)⟩
theorem MS.fin {c : DCode} {out : List Nat} {D : Nat → Prop} (h : MS c out D) (hD : ∀ j, j < c.ins.length → D j) : out = mustN c := by
  refine List.ext_getElem (by rw [h.1, mustN_len]) fun i h1 h2 => ?_
  have hi : i < c.ins.length := by rw [← h.1]; exact h1
  rw [nat0_get h1, nat0_get h2, mustN_at hi, h.2 i hi (hD i hi)]
theorem procOf_ex {c : DCode} (hc : CodeR c) {i : Nat} (hi : i < c.ins.length) : ∃ p, p < c.procs.length ∧ procOf c i = p ∧ eN c p ≤ i ∧ i ≤ zN c p := by
  obtain ⟨q, hq, h1, h2, h3⟩ := hc.f.find hc.1.procs8.2 (a := (i : Int)) (by omega) (by omega)
  have hin := in_proc hc hi hq h3
  exact ⟨q, by have := hc.2.1.1; omega, h3, hin⟩
theorem must_ok {w W0 : World} {b : Nat} {c : DCode} (hW : WAt W0 b c) (e0 : Ext W0 w) (hc : CodeR c) :
    CALL Tryz.prog 66 [.pointer (some ⟨b, 0, none⟩)] w fun r w' => Ext w w' ∧ Own w.heap.size w' r (ints (mustN c)) := by
  refine F66_call ?_
  unfold F66
  have h8 := hc.1.procs8
  have hil := hc.f.ins
  have hTR := effN_right c
  refine (effects_ok hW e0 hc).mono ?_
  rintro v12 w1 ⟨hx1, ho1⟩
  have hs1 := hx1.size
  refine (entries_ok hW (e0.trans hx1) ho1.is (Ext.refl _) hc).mono ?_
  rintro v15 w2 ⟨hx2, ho2⟩
  have hs2 := hx2.size
  have hx12 := hx1.trans hx2
  have e2 := e0.trans hx12
  have hE2 := ho1.is.ext hx2
  have hB2 := ho2.is
  refine NIL.mk rfl ?_
  refine rd_fld fd144_0 ?_
  refine rd_fld fd35_4 ?_
  refine rd_load ty33 (at_DCode_4 hW.wl.code) e2 fun v20 h20 => ?_
  refine rd_len u33 h20 ?_
  have hn : c.ins.length = c.ins.length := rfl
  generalize hnn : c.ins.length = n at hn
  rw [hnn] at hil
  have hz0 := (zN_end hc h8.2).2.2
  refine op_makeI (by omega) (by omega) fun w3 hx3 hM3 => ?_
  have hs3 := hx3.size
  generalize hg : w2.heap.size = g at *
  have hF3 : FW w2 w3 g n (fil n 0) := ⟨hx3, by simpa [fil] using hM3, by omega⟩
  refine rd_lenX u23 ?_
  refine loopC n (fun k us w' => us = [.int .i64 (k : Int)] ∧ k ≤ n ∧ FW w2 w' g n (fil n k)) 0 (Nat.zero_le _) ⟨rfl, Nat.zero_le _, hF3⟩ ?_
  rintro k mk u w4 hkm ⟨hu, hkl, hF4⟩
  simp only [List.map_cons, List.map_nil, List.cons.injEq, and_true] at hu
  rw [hu]
  refine rd_lss ?_
  refine br (fun hlt => ?_) (fun hge => ?_)
  · have hk : k < n := by omega
    refine rd_elt (α := Int) rfl u23 ty3 hk ?_
    refine opu_elt (α := Int) rfl ty3 hF4.mine (by rw [ints_len, fil_len hkl]) hk (mine_nat (v := 63) (by omega)) fun w5 hc5 hm5 => ?_
    have hF5 := hF4.set (v := 63) hc5 hm5
    rw [fil_set hk] at hF5
    refine rd_inc (by omega) ?_
    exact ⟨mk - 1, by omega, k + 1, by omega, rfl, by omega, hF5⟩
  have hk : k = n := by omega
  rw [hk, fil_full] at hF4
  have hMS : MS c (List.replicate n 63) (fun i => ¬ UsedP c (procOf c i).toNat) := ⟨by simp [hnn], fun i hi hd => by
    rw [← nat0_get (by simp; omega)]
    obtain ⟨p, _, h1, _⟩ := procOf_ex hc hi
    have hd' : ¬ UsedP c (procOf c i).toNat := hd
    rw [h1, Int.toNat_natCast] at hd'
    rw [mustAt_not (p := p) h1 hd']
    simp⟩
  generalize List.replicate n 63 = out at *
  clear hu hkm
  have hus : usedN c < 256 := setN_small h8.1
  refine NIL.mk rfl ?_
  refine rd_fld fd144_6 ?_
  refine rd_loadI ty3 hW.used (e2.trans hF4.ext) fun _ => ?_
  refine (bitsOf_ok (m := usedN c) (by omega)).mono ?_
  rintro v36 w5 ⟨hx5, ho5⟩
  unfold usedN at ho5
  rw [bitsL_setN (by omega)] at ho5
  have hF5 := hF4.step hx5
  have hg4 := hF4.lt
  have hL : ∀ p, p ∈ setL c.procs.length (UsedP c) ↔ UsedP c p := fun p => by rw [mem_setL]; exact ⟨fun h => h.2, fun h => ⟨h.lt hc, h⟩⟩
  have hLl : (setL c.procs.length (UsedP c)).length ≤ 8 := Nat.le_trans setL_len h8.1
  generalize setL c.procs.length (UsedP c) = L at *
  have hO5 := ho5.toI
  generalize hlo : w4.heap.size = lo at *
  generalize hhi : w5.heap.size = hi at *
  refine rd_len u23 ho5.is ?_
  rw [ints_len]
  refine loopC L.length (fun k us w' => ∃ (out' : List Nat), us = [.int .i64 (k : Int)] ∧ k ≤ L.length ∧ FW w2 w' g n out' ∧ OwnI lo hi w' v36 (ints L) ∧ MS c out' (fun i => ¬ UsedP c (procOf c i).toNat ∨ (procOf c i).toNat ∈ L.take k)) 0 (Nat.zero_le _) ⟨out, rfl, Nat.zero_le _, hF5, hO5, hMS.mono fun j _ h => h.elim id fun h => by simp at h⟩ ?_
  rintro k mk u w8 hkm ⟨out8, hu, hkl, hF8, hO8, hS8⟩
  simp only [List.map_cons, List.map_nil, List.cons.injEq, and_true] at hu
  rw [hu]
  refine rd_lss ?_
  refine br (fun hlt => ?_) (fun hge => ?_)
  case refine_2 =>
    rw [hS8.fin fun j hj => by
      by_cases hu : UsedP c (procOf c j).toNat
      · exact .inr (by rw [List.take_of_length_le (by omega)]; exact (hL _).2 hu)
      · exact .inl hu] at hF8
    exact ⟨hx12.trans hF8.ext, hF8.own.mono (by omega)⟩
  have hk : k < L.length := by omega
  refine rd_indexN u23 ty3 (i := k) hO8.is (by rw [ints_len]; exact hk) fun b2 o2 hA2 => ?_
  rw [ints_get] at hA2
  refine rd_loadI ty3 hA2 (Ext.refl _) fun _ => ?_
  have htk := fun x => mem_take_iff hk (x := x)
  have hup := (hL L[k]).1 (List.getElem_mem hk)
  generalize L[k] = p at *
  have hpn := hup.lt hc
  have hpe : p < c.entry.length := by rw [hc.2.1.1]; exact hpn
  have e8 := e2.trans hF8.ext
  refine rd_indexN u23 ty3 (i := p) hB2 (by rw [ints_len, begs_len]; exact hpn) fun b3 o3 hA3 => ?_
  rw [ints_nat0, begs_at hpn] at hA3
  refine rd_loadI ty3 hA3 hF8.ext fun _ => ?_
  refine (flow_ok hW.wl e8 hE2 hF8.ext hc hTR hpn (h := begN c p) m6_lt).mono ?_
  rintro v49 w9 ⟨hx9, ho9⟩
  have hF9 := hF8.step hx9
  have hO9 := hO8.ext hx9
  have hg8 := hF8.lt
  have hA9 := ho9.toI
  have e9 := e2.trans hF9.ext
  generalize hl8' : w8.heap.size = lo8 at *
  generalize hl9 : w9.heap.size = lo9 at *
  obtain ⟨he1, he2, he3⟩ := eN_eq hc hpe
  obtain ⟨hz1, hz2, hz3⟩ := zN_end hc hpn
  obtain ⟨_, hez, _⟩ := zN_eq hc hpe
  have hval : ∀ i, eN c p ≤ i → i ≤ zN c p → nat0 (flowN c (effN c) p (begN c p)) i = mustAt c i := fun i h1 h2 => (mustAt_used (proc_in hc hpe h1 h2) hup).symm
  have hin : ∀ i, i < c.ins.length → (procOf c i).toNat = p → eN c p ≤ i ∧ i ≤ zN c p := fun i hi h => by
    obtain ⟨q, hq, h1, h2⟩ := procOf_ex hc hi
    have : q = p := by rw [h1, Int.toNat_natCast] at h; exact h
    subst this; exact h2
  have hfl : (flowN c (effN c) p (begN c p)).length = c.ins.length := flowN_len _ _ _ _
  have hf64 := flowN_lt (c := c) (T := effN c) (p := p) (h := begN c p)
  generalize flowN c (effN c) p (begN c p) = fl at *
  refine NIL.mk rfl ?_
  refine rd_fld fd144_0 ?_
  refine rd_fld fd35_3 ?_
  refine rd_load ty23 (at_DCode_3 hW.wl.code) e9 fun v54 h54 => ?_
  refine rd_indexN u23 ty3 h54 hpe fun b5 o5 hA5 => ?_
  rw [en_get hpe, he1] at hA5
  refine rd_loadI ty3 hA5 e9 fun _ => ?_
  generalize hE : eN c p = E at *
  generalize hZ : zN c p = Z at *
  refine loopC (Z + 1 - E) (fun j us w' => ∃ (out' : List Nat), us = [.int .i64 ((E + j : Nat) : Int)] ∧ E + j ≤ Z + 1 ∧ FW w2 w' g n out' ∧ OwnI lo hi w' v36 (ints L) ∧ OwnI lo8 lo9 w' v49 (ints fl) ∧ MS c out' (fun i => ¬ UsedP c (procOf c i).toNat ∨ (procOf c i).toNat ∈ L.take k ∨ (E ≤ i ∧ i < E + j))) 0 (Nat.zero_le _) ⟨out8, rfl, by omega, hF9, hO9, hA9, hS8.mono fun i _ h => h.imp id fun h => h.resolve_right fun h => by omega⟩ ?_
  rintro j mj u w11 hjm ⟨out11, hu, hjl, hF11, hO11, hA11, hS11⟩
  simp only [List.map_cons, List.map_nil, List.cons.injEq, and_true] at hu
  rw [hu]
  have e11 := e2.trans hF11.ext
  refine NIL.mk rfl ?_
  refine rd_fld fd144_0 ?_
  refine rd_load ty35 hW.wl.code e11 fun v62 h62 => ?_
  refine (endOfProc_ok h62 e11 (by omega)).mono ?_
  rintro _ w12 ⟨hx12', rfl⟩
  rw [hz1]
  have hF12 := hF11.step hx12'
  have hO12 := hO11.ext hx12'
  have hA12 := hA11.ext hx12'
  refine rd_lss ?_
  refine br (fun hlt => ?_) (fun hge => ?_)
  case refine_2 =>
    refine rd_inc (by omega) ?_
    refine ⟨mk - 1, by omega, k + 1, by omega, out11, rfl, by omega, hF12, hO12, hS11.mono fun i hi h => ?_⟩
    rcases h with h | h
    · exact .inl h
    · rcases (htk _).1 h with h | h
      · exact .inr (.inl h)
      · have := hin i hi h
        exact .inr (.inr (by omega))
  have hij : E + j < n := by omega
  have hv := hval (E + j) (by omega) (by omega)
  have hv64 := nat0_lt hf64 (E + j)
  refine rd_indexN u23 ty3 (i := E + j) hA12.is (by rw [ints_len, hfl, hnn]; exact hij) fun b6 o6 hA6 => ?_
  rw [ints_nat0] at hA6
  refine rd_loadI ty3 hA6 (Ext.refl _) fun _ => ?_
  refine rd_elt (α := Int) rfl u23 ty3 hij ?_
  refine opu_elt (α := Int) rfl ty3 hF12.mine (by rw [ints_len, hS11.1, hnn]) hij (mine_nat (v := nat0 fl (E + j)) (by omega)) fun w13 hc13 hm13 => ?_
  have hF13 := hF12.set (v := nat0 fl (E + j)) hc13 hm13
  have hc13' := chg_one hc13
  refine rd_inc (by omega) ?_
  refine ⟨mj - 1, by omega, j + 1, by omega, _, rfl, by omega, hF13, hO12.chg hc13' (by omega), hA12.chg hc13' (by omega), hS11.set (by rw [hnn]; exact hij) hv fun i h => ?_⟩
  by_cases e : i = E + j
  · exact .inr e
  · exact .inl (h.imp id fun h => h.imp id fun h => by omega)
theorem l15Must_ok {w W0 : World} {v0 : Value} {c : DCode} (h0 : Is W0 v0 c) (e0 : Ext W0 w) (hc : CodeR c) :
    CALL Tryz.prog 56 [v0] w fun r w' => Ext w w' ∧ Own w.heap.size w' r (ints (mustN c)) := by
  refine F56_call ?_
  unfold F56
  have h8 := hc.1.procs8
  have hil := hc.f.ins
  have hTR := effN_right c
  refine op_box h0 e0 fun w0 hx0 hA => ?_
  have hs0 := hx0.size
  refine rd_load ty35 hA (Ext.refl _) fun v10 h10 => ?_
  refine (l13Effects_ok h10 (Ext.refl _) hc).mono ?_
  rintro v12 w1 ⟨hx1, ho1⟩
  have hs1 := hx1.size
  refine rd_load ty35 hA hx1 fun v11 h11 => ?_
  refine (l15Entries_ok h11 hx1 ho1.is (Ext.refl _) hc).mono ?_
  rintro v15 w1b ⟨hx1b, ho1b⟩
  have hs1b := hx1b.size
  refine rd_load ty35 hA (hx1.trans hx1b) fun v16 h16 => ?_
  refine (l14Used_ok h16 (hx1.trans hx1b) hc).mono ?_
  rintro v17 w2 ⟨hx2, ho2⟩
  have hs2 := hx2.size
  have hx12 := hx1.trans (hx1b.trans hx2)
  have hE2 := ho1.is.ext (hx1b.trans hx2)
  have hB2 := ho1b.is.ext hx2
  have hU2 := ho2.is
  refine rd_fld fd35_4 ?_
  refine rd_load ty33 (at_DCode_4 hA) hx12 fun v20 h20 => ?_
  refine rd_len u33 h20 ?_
  have hn : c.ins.length = c.ins.length := rfl
  generalize hnn : c.ins.length = n at hn
  rw [hnn] at hil
  have hz0 := (zN_end hc h8.2).2.2
  refine op_makeI (by omega) (by omega) fun w3 hx3 hM3 => ?_
  have hs3 := hx3.size
  generalize hg : w2.heap.size = g at *
  have hF3 : FW w2 w3 g n (List.replicate n 0) := ⟨hx3, hM3, by omega⟩
  refine loopC c.procs.length (fun k us w' => ∃ (out' : List Nat), us = [.int .i64 (k : Int)] ∧ k ≤ c.procs.length ∧ FW w2 w' g n out' ∧ MS c out' (fun i => (procOf c i).toNat < k)) 0 (Nat.zero_le _) ⟨_, rfl, Nat.zero_le _, hF3, by simp [hnn], fun i _ h => by omega⟩ ?_
  rintro p mk u w8 hkm ⟨out8, hu, hkl, hF8, hS8⟩
  simp only [List.map_cons, List.map_nil, List.cons.injEq, and_true] at hu
  rw [hu]
  have e8 := hx12.trans hF8.ext
  refine rd_fld fd35_2 ?_
  refine rd_load ty22 (at_DCode_2 hA) e8 fun v23 h23 => ?_
  refine rd_len u22 h23 ?_
  refine rd_lss ?_
  refine br (fun hlt => ?_) (fun hge => ?_)
  case refine_2 =>
    rw [hS8.fin fun j hj => by obtain ⟨q, hq, h1, _⟩ := procOf_ex hc hj; rw [h1, Int.toNat_natCast]; omega] at hF8
    exact ⟨hx0.trans (hx12.trans hF8.ext), hF8.own.mono (by omega)⟩
  have hpn : p < c.procs.length := by omega
  have hpe : p < c.entry.length := by rw [hc.2.1.1]; exact hpn
  have hxd := ext_drew w8
  have hF8d := hF8.step hxd
  have e8d := e8.trans hxd
  generalize World.drew1 w8 = w8d at *
  refine rd_load ty35 hA e8d fun v28 h28 => ?_
  refine rd_indexN u23 ty3 (i := p) hB2 (by rw [ints_len, begs_len]; exact hpn) fun b3 o3 hA3 => ?_
  rw [ints_nat0, begs_at hpn] at hA3
  refine rd_loadI ty3 hA3 hF8d.ext fun _ => ?_
  refine (l13From_ok h28 e8d hE2 hF8d.ext hc hTR hpn (h := begN c p) m6_lt).mono ?_
  rintro v49 w9 ⟨hx9, ho9⟩
  have hF9 := hF8d.step hx9
  have hg8 := hF8d.lt
  have hA9 := ho9.toI
  have e9 := hx12.trans hF9.ext
  generalize hl8' : w8d.heap.size = lo8 at *
  generalize hl9 : w9.heap.size = lo9 at *
  obtain ⟨he1, he2, he3⟩ := eN_eq hc hpe
  obtain ⟨hz1, hz2, hz3⟩ := zN_end hc hpn
  obtain ⟨_, hez, _⟩ := zN_eq hc hpe
  have hval : UsedP c p → ∀ i, eN c p ≤ i → i ≤ zN c p → nat0 (flowN c (effN c) p (begN c p)) i = mustAt c i := fun hu i h1 h2 => (mustAt_used (proc_in hc hpe h1 h2) hu).symm
  have hval2 : ¬ UsedP c p → ∀ i, eN c p ≤ i → i ≤ zN c p → 63 = mustAt c i := fun hu i h1 h2 => (mustAt_not (proc_in hc hpe h1 h2) hu).symm
  have hin : ∀ i, i < c.ins.length → (procOf c i).toNat = p → eN c p ≤ i ∧ i ≤ zN c p := fun i hi h => by
    obtain ⟨q, hq, h1, h2⟩ := procOf_ex hc hi
    have : q = p := by rw [h1, Int.toNat_natCast] at h; exact h
    subst this; exact h2
  have hfl : (flowN c (effN c) p (begN c p)).length = c.ins.length := flowN_len _ _ _ _
  have hf64 := flowN_lt (c := c) (T := effN c) (p := p) (h := begN c p)
  generalize flowN c (effN c) p (begN c p) = fl at *
  refine rd_fld fd35_3 ?_
  refine rd_load ty23 (at_DCode_3 hA) e9 fun v37 h37 => ?_
  refine rd_indexN u23 ty3 h37 hpe fun b5 o5 hA5 => ?_
  rw [en_get hpe, he1] at hA5
  refine rd_loadI ty3 hA5 e9 fun _ => ?_
  generalize hE : eN c p = E at *
  generalize hZ : zN c p = Z at *
  refine loopC (Z + 1 - E) (fun j us w' => ∃ (out' : List Nat), us = [.int .i64 ((E + j : Nat) : Int)] ∧ E + j ≤ Z + 1 ∧ FW w2 w' g n out' ∧ OwnI lo8 lo9 w' v49 (ints fl) ∧ MS c out' (fun i => (procOf c i).toNat < p ∨ (E ≤ i ∧ i < E + j))) 0 (Nat.zero_le _) ⟨out8, rfl, by omega, hF9, hA9, hS8.mono fun i _ h => h.resolve_right fun h => by omega⟩ ?_
  rintro j mj u w11 hjm ⟨out11, hu, hjl, hF11, hA11, hS11⟩
  simp only [List.map_cons, List.map_nil, List.cons.injEq, and_true] at hu
  rw [hu]
  have e11 := hx12.trans hF11.ext
  refine rd_load ty35 hA e11 fun v42 h42 => ?_
  refine (l08End_ok h42 e11 (p := (p : Int)) (by omega) (by omega) hc.2.1.nonneg).mono ?_
  rintro _ w12 ⟨hx12', rfl⟩
  rw [hz2]
  have hF12 := hF11.step hx12'
  have hA12 := hA11.ext hx12'
  refine rd_leq ?_
  refine br (fun hlt => ?_) (fun hge => ?_)
  case refine_2 =>
    refine rd_inc (by omega) ?_
    refine ⟨mk - 1, by omega, p + 1, by omega, out11, rfl, by omega, hF12, hS11.mono fun i hi h => ?_⟩
    by_cases e : (procOf c i).toNat = p
    · have := hin i hi e
      exact .inr (by omega)
    · exact .inl (by omega)
  have hij : E + j < n := by omega
  refine rd_elt (α := Int) rfl u23 ty3 hij ?_
  refine opu_elt (α := Int) rfl ty3 hF12.mine (by rw [ints_len, hS11.1, hnn]) hij (mine_nat (v := 63) (by omega)) fun w13 hc13 hm13 => ?_
  have hF13 := hF12.set (v := 63) hc13 hm13
  have hc13' := chg_one hc13
  have hA13 := hA12.chg hc13' (by omega)
  refine rd_indexN u72 ty4 (i := p) hU2 (by rw [setB_len]; exact hpn) fun b7 o7 hA7 => ?_
  refine rd_loadB ty4 hA7 hF13.ext ?_
  have hmk := mkd_setB (n := c.procs.length) (p := UsedP c) (i := p)
  rw [mkd_get (by rw [setB_len]; exact hpn)] at hmk
  have hD : ∀ i : Nat, ((procOf c i).toNat < p ∨ (E ≤ i ∧ i < E + (j + 1))) → ((procOf c i).toNat < p ∨ (E ≤ i ∧ i < E + j)) ∨ i = E + j := fun i h => by
    by_cases e : i = E + j
    · exact .inr e
    · exact .inl (h.imp id fun h => by omega)
  refine br_b (fun hf => ?_) (fun hf => ?_)
  · have hv := hval (hmk.1 hf).2 (E + j) (by omega) (by omega)
    have hv64 := nat0_lt hf64 (E + j)
    refine rd_indexN u23 ty3 (i := E + j) hA13.is (by rw [ints_len, hfl, hnn]; exact hij) fun b6 o6 hA6 => ?_
    rw [ints_nat0] at hA6
    refine rd_loadI ty3 hA6 (Ext.refl _) fun _ => ?_
    refine rd_elt (α := Int) rfl u23 ty3 hij ?_
    refine opu_elt (α := Int) rfl ty3 hF13.mine (by rw [ints_len, List.length_set, hS11.1, hnn]) hij (mine_nat (v := nat0 fl (E + j)) (by omega)) fun w14 hc14 hm14 => ?_
    have hF14 := hF13.set (v := nat0 fl (E + j)) hc14 hm14
    have hc14' := chg_one hc14
    rw [List.set_set] at hF14
    refine rd_inc (by omega) ?_
    exact ⟨mj - 1, by omega, j + 1, by omega, _, rfl, by omega, hF14, hA13.chg hc14' (by omega), hS11.set (by rw [hnn]; exact hij) hv hD⟩
  · have hv := hval2 (fun h => by rw [hmk.2 ⟨hpn, h⟩] at hf; cases hf) (E + j) (by omega) (by omega)
    refine rd_inc (by omega) ?_
    exact ⟨mj - 1, by omega, j + 1, by omega, _, rfl, by omega, hF13, hA13, hS11.set (by rw [hnn]; exact hij) hv hD⟩
end Go.Proofs.YtjgfldfbljmhhaaGreat
