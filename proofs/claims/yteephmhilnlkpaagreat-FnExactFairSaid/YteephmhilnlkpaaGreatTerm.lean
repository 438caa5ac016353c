/-
  Terms, instructions, code, touches as Lean data.
-/
import Derived.Test.YteephmhilnlkpaaGreatData
import Derived.Test.YteephmhilnlkpaaGreatLens
import Derived.Test.YteephmhilnlkpaaGreatReads
namespace Go.Sh
set_option linter.unusedVariables false
set_option linter.unusedSimpArgs false
open Rep (rep)

inductive DTerm where
  | mk (kind num : Int) (name : ByteArray) (kids : List DTerm)
namespace DTerm
def kind : DTerm → Int | .mk k _ _ _ => k
def num : DTerm → Int | .mk _ n _ _ => n
def name : DTerm → ByteArray | .mk _ _ s _ => s
def kids : DTerm → List DTerm | .mk _ _ _ l => l
def tup (t : DTerm) : Int × Int × ByteArray × List DTerm := (t.kind, t.num, t.name, t.kids)
end DTerm
theorem DTerm.eta (t : DTerm) : DTerm.mk t.kind t.num t.name t.kids = t := by cases t; rfl
theorem DTerm.ext_iff {x y : DTerm} : x = y ↔ (x.kind = y.kind ∧ x.num = y.num ∧ x.name = y.name ∧ x.kids = y.kids) := by
  constructor
  · intro h; rw [h]; exact ⟨rfl, rfl, rfl, rfl⟩
  · rintro ⟨h1, h2, h3, h4⟩
    rw [← DTerm.eta x, ← DTerm.eta y, h1, h2, h3, h4]
/-- a term's kids are smaller -/
theorem DTerm.kid_lt {t k : DTerm} (h : k ∈ t.kids) : SizeOf.sizeOf k < SizeOf.sizeOf t := by
  cases t with
  | mk a b c l =>
    have : k ∈ l := h
    have := List.sizeOf_lt_of_mem this
    simp only [DTerm.mk.sizeOf_spec]; omega
theorem DTerm.ind {p : DTerm → Prop} (h : ∀ t, (∀ k ∈ t.kids, p k) → p t) (t : DTerm) : p t :=
  h t fun k hk => DTerm.ind h k
termination_by SizeOf.sizeOf t
decreasing_by exact DTerm.kid_lt hk
mutual
def DTerm.beq : DTerm → DTerm → Bool
  | .mk a b c l, .mk a' b' c' l' => decide (a = a') && decide (b = b') && decide (c = c') && DTerm.beqL l l'
def DTerm.beqL : List DTerm → List DTerm → Bool
  | [], [] => true
  | x :: l, y :: m => DTerm.beq x y && DTerm.beqL l m
  | _, _ => false
end
mutual
theorem DTerm.beq_iff : ∀ (x y : DTerm), DTerm.beq x y = true ↔ x = y
  | .mk a b c l, .mk a' b' c' l' => by
    simp only [DTerm.beq, Bool.and_eq_true, decide_eq_true_eq, DTerm.mk.injEq, DTerm.beqL_iff l l', and_assoc]
theorem DTerm.beqL_iff : ∀ (x y : List DTerm), DTerm.beqL x y = true ↔ x = y
  | [], [] => by simp [DTerm.beqL]
  | [], y :: m => by simp [DTerm.beqL]
  | x :: l, [] => by simp [DTerm.beqL]
  | x :: l, y :: m => by simp only [DTerm.beqL, Bool.and_eq_true, DTerm.beq_iff x y, DTerm.beqL_iff l m, List.cons.injEq]
end
instance : DecidableEq DTerm := fun x y => decidable_of_iff _ (DTerm.beq_iff x y)

mutual
/-- how a term lies in cells -/
def repT : DTerm → List Nat → World → List Value → Prop
  | .mk k n s ks, F, w, cs => ∃ a cap Fi xs, cs = [.int .i64 k, .int .i64 n, .string s, .slice a ks.length cap] ∧ I64 k ∧ I64 n ∧ s.size ≤ maxLen ∧ ks.length ≤ cap ∧ cap ≤ maxLen ∧ cellsT ks Fi w xs ∧
    ((ks = [] ∧ F = []) ∨ ∃ b o, a = some ⟨b, o, none⟩ ∧ F = b :: Fi ∧ w.rangeAt b o xs ∧ b < w.heap.size)
def cellsT : List DTerm → List Nat → World → List Value → Prop
  | [], F, _, xs => F = [] ∧ xs = []
  | y :: ys, F, w, xs => ∃ F1 F2 c1 c2, F = F1 ++ F2 ∧ xs = c1 ++ c2 ∧ repT y F1 w c1 ∧ cellsT ys F2 w c2
end
theorem repT_len {t : DTerm} {F : List Nat} {w : World} {cs : List Value} (h : repT t F w cs) : cs.length = 4 := by
  cases t; rw [repT] at h; obtain ⟨a, cap, Fi, xs, rfl, _⟩ := h; rfl
theorem repT_one {t : DTerm} {F : List Nat} {w : World} {cs : List Value} (h : repT t F w cs) : ∀ v ∈ cs, v.oneCell' = true := by
  cases t; rw [repT] at h; obtain ⟨a, cap, Fi, xs, rfl, _⟩ := h
  intro v hv
  simp only [List.mem_cons, List.not_mem_nil, or_false] at hv
  rcases hv with rfl | rfl | rfl | rfl <;> rfl
mutual
theorem repT_keep : ∀ (t : DTerm) {F : List Nat} {w w' : World} {cs : List Value}, repT t F w cs → (∀ b ∈ F, w'.heap[b]? = w.heap[b]?) → repT t F w' cs
  | .mk k n s ks, F, w, w', cs, h, hk => by
    rw [repT] at h ⊢
    obtain ⟨a, cap, Fi, xs, hcs, i1, i2, i3, h1, h2, hc, h4⟩ := h
    rcases h4 with ⟨rfl, rfl⟩ | ⟨b, o, ha, hF, hr, hb⟩
    · exact ⟨a, cap, Fi, xs, hcs, i1, i2, i3, h1, h2, by rw [cellsT] at hc ⊢; exact hc, .inl ⟨rfl, rfl⟩⟩
    · subst hF
      have hbb := hk b (by simp)
      refine ⟨a, cap, Fi, xs, hcs, i1, i2, i3, h1, h2, cellsT_keep ks hc fun c hc => hk c (by simp [hc]), .inr ⟨b, o, ha, rfl, rangeAt_keep hr hbb, ?_⟩⟩
      rcases Nat.lt_or_ge b (Array.size (World.heap w')) with h' | h'
      · exact h'
      · rw [Array.getElem?_eq_none h'] at hbb
        simp [Array.getElem?_eq_getElem hb] at hbb
theorem cellsT_keep : ∀ (l : List DTerm) {F : List Nat} {w w' : World} {cs : List Value}, cellsT l F w cs → (∀ b ∈ F, w'.heap[b]? = w.heap[b]?) → cellsT l F w' cs
  | [], F, w, w', cs, h, _ => by rw [cellsT] at h ⊢; exact h
  | y :: ys, F, w, w', cs, h, hk => by
    rw [cellsT] at h ⊢
    obtain ⟨F1, F2, c1, c2, rfl, rfl, h1, h2⟩ := h
    exact ⟨F1, F2, c1, c2, rfl, rfl, repT_keep y h1 fun b hb => hk b (by simp [hb]), cellsT_keep ys h2 fun b hb => hk b (by simp [hb])⟩
end
mutual
theorem repT_lt : ∀ (t : DTerm) {F : List Nat} {w : World} {cs : List Value}, repT t F w cs → ∀ b ∈ F, b < w.heap.size
  | .mk k n s ks, F, w, cs, h, c, hm => by
    rw [repT] at h
    obtain ⟨a, cap, Fi, xs, hcs, i1, i2, i3, h1, h2, hc, h4⟩ := h
    rcases h4 with ⟨rfl, rfl⟩ | ⟨b, o, ha, hF, hr, hb⟩
    · cases hm
    · subst hF
      rcases List.mem_cons.1 hm with rfl | hm
      · exact hb
      · exact cellsT_lt ks hc c hm
theorem cellsT_lt : ∀ (l : List DTerm) {F : List Nat} {w : World} {cs : List Value}, cellsT l F w cs → ∀ b ∈ F, b < w.heap.size
  | [], F, w, cs, h, c, hm => by rw [cellsT] at h; rw [h.1] at hm; cases hm
  | y :: ys, F, w, cs, h, c, hm => by
    rw [cellsT] at h
    obtain ⟨F1, F2, c1, c2, rfl, rfl, h1, h2⟩ := h
    rcases List.mem_append.1 hm with hm | hm
    · exact repT_lt y h1 c hm
    · exact cellsT_lt ys h2 c hm
end
instance : Rep DTerm where
  size := 4
  agg := true
  rep F w cs x := repT x F w cs
  pos := by decide
  sz h := by cases h
  len h := repT_len h
  one h := repT_one h
  keep h hk := repT_keep _ h hk
  lt h := repT_lt _ h
theorem cellsT_eq {w : World} : ∀ {l : List DTerm} {F : List Nat} {xs : List Value}, cellsT l F w xs ↔ Cells F w xs l
  | [], F, xs => by rw [cellsT]; exact Iff.rfl
  | y :: ys, F, xs => by
    rw [cellsT]
    constructor
    · rintro ⟨F1, F2, c1, c2, h1, h2, h3, h4⟩; exact ⟨F1, F2, c1, c2, h1, h2, h3, cellsT_eq.1 h4⟩
    · rintro ⟨F1, F2, c1, c2, h1, h2, h3, h4⟩; exact ⟨F1, F2, c1, c2, h1, h2, h3, cellsT_eq.2 h4⟩
/-- a term lies as the tuple of its parts -/
theorem rep_tup {w : World} {F : List Nat} {cs : List Value} {t : DTerm} : rep F w cs t ↔ rep F w cs t.tup := by
  obtain ⟨k, n, s, ks⟩ := t
  show repT _ F w cs ↔ _
  rw [repT]
  constructor
  · rintro ⟨a, cap, Fi, xs, rfl, i1, i2, i3, h1, h2, hc, h4⟩
    refine ⟨[], F, [.int .i64 k], _, rfl, rfl, ⟨rfl, rfl, i1⟩, [], F, [.int .i64 n], _, rfl, rfl, ⟨rfl, rfl, i2⟩, [], F, [.string s], _, rfl, rfl, ⟨rfl, rfl, i3⟩, a, cap, Fi, xs, rfl, h1, h2, cellsT_eq.1 hc, h4⟩
  · rintro ⟨_, _, _, _, rfl, rfl, ⟨rfl, rfl, i1⟩, _, _, _, _, rfl, rfl, ⟨rfl, rfl, i2⟩, _, _, _, _, rfl, rfl, ⟨rfl, rfl, i3⟩, a, cap, Fi, xs, rfl, h1, h2, hc, h4⟩
    exact ⟨a, cap, Fi, xs, rfl, i1, i2, i3, h1, h2, cellsT_eq.2 hc, h4⟩
theorem at_tup {w : World} {b o : Nat} {t : DTerm} : At w b o t ↔ At w b o t.tup :=
  ⟨fun ⟨F, cs, h, k⟩ => ⟨F, cs, rep_tup.1 h, k⟩, fun ⟨F, cs, h, k⟩ => ⟨F, cs, rep_tup.2 h, k⟩⟩
theorem oat_tup {w : World} {G : List Nat} {b o : Nat} {t : DTerm} : OAt G w b o t ↔ OAt G w b o t.tup :=
  ⟨fun ⟨cs, h, k⟩ => ⟨cs, rep_tup.1 h, k⟩, fun ⟨cs, h, k⟩ => ⟨cs, rep_tup.2 h, k⟩⟩
section
variable {w : World} {b o : Nat}
theorem at_DTerm_0 {x : DTerm} (h : At w b o x) : At w b (o + 0) x.kind := at_fst (α := Int) (β := Int × ByteArray × List DTerm) (p := x.tup) (at_tup.1 h)
theorem at_DTerm_1 {x : DTerm} (h : At w b o x) : At w b (o + 1) x.num := at_fst (α := Int) (β := ByteArray × List DTerm) (p := (x.num, x.name, x.kids)) (at_snd (α := Int) (β := Int × ByteArray × List DTerm) (p := x.tup) (at_tup.1 h))
theorem at_DTerm_2 {x : DTerm} (h : At w b o x) : At w b (o + 2) x.name := at_fst (α := ByteArray) (β := List DTerm) (p := (x.name, x.kids)) (at_snd (α := Int) (β := ByteArray × List DTerm) (p := (x.num, x.name, x.kids)) (at_snd (α := Int) (β := Int × ByteArray × List DTerm) (p := x.tup) (at_tup.1 h)))
theorem at_DTerm_3 {x : DTerm} (h : At w b o x) : At w b (o + 3) x.kids := at_snd (α := ByteArray) (β := List DTerm) (p := (x.name, x.kids)) (at_snd (α := Int) (β := ByteArray × List DTerm) (p := (x.num, x.name, x.kids)) (at_snd (α := Int) (β := Int × ByteArray × List DTerm) (p := x.tup) (at_tup.1 h)))
theorem rep_DTerm {x : DTerm} {F0 : List Nat} {c0 : List Value} (h0 : rep F0 w c0 x.kind) {F1 : List Nat} {c1 : List Value} (h1 : rep F1 w c1 x.num) {F2 : List Nat} {c2 : List Value} (h2 : rep F2 w c2 x.name) {F3 : List Nat} {c3 : List Value} (h3 : rep F3 w c3 x.kids) :
    rep (F0 ++ (F1 ++ (F2 ++ F3))) w (c0 ++ (c1 ++ (c2 ++ c3))) x := rep_tup.2 (mine_prod h0 (mine_prod h1 (mine_prod h2 h3)))
end
/-- a term's place turns to the place of its parts -/
theorem Lens.term {w : World} {γ : Type} {H : List Nat → World → γ → Prop} {F : List Nat} {b o : Nat} {G : List Nat} {t : DTerm} {upd : DTerm → γ} (h : Lens H F w b o G t upd) :
    Lens H F w b o G t.tup (fun p => upd (.mk p.1 p.2.1 p.2.2.1 p.2.2.2)) :=
  ⟨oat_tup.1 h.here, h.sub, fun w' G' y' hc hO hs => h.back w' G' _ hc (oat_tup.2 hO) hs⟩
instance : RepZ DTerm := ⟨.mk 0 0 ByteArray.empty [], RepZ.zc (Int × Int × ByteArray × List DTerm), fun w => rep_tup.2 (RepZ.zr (α := Int × Int × ByteArray × List DTerm) w)⟩
section
variable {γ : Type} {H : List Nat → World → γ → Prop} {F : List Nat} {w : World} {b o : Nat} {G : List Nat} {x : DTerm} {upd : DTerm → γ}
theorem lens_DTerm_0 (h : Lens H F w b o G x upd) : ∃ G1, Lens H F w b (o + 0) G1 x.kind (fun y => upd (.mk y x.num x.name x.kids)) := by
  obtain ⟨G1, h1⟩ := h.term.fst; exact ⟨G1, h1⟩
theorem lens_DTerm_1 (h : Lens H F w b o G x upd) : ∃ G1, Lens H F w b (o + 1) G1 x.num (fun y => upd (.mk x.kind y x.name x.kids)) := by
  obtain ⟨G1, h1⟩ := h.term.snd; obtain ⟨G2, h2⟩ := h1.fst; exact ⟨G2, h2⟩
theorem lens_DTerm_2 (h : Lens H F w b o G x upd) : ∃ G1, Lens H F w b (o + 2) G1 x.name (fun y => upd (.mk x.kind x.num y x.kids)) := by
  obtain ⟨G1, h1⟩ := h.term.snd; obtain ⟨G2, h2⟩ := h1.snd; obtain ⟨G3, h3⟩ := h2.fst; exact ⟨G3, h3⟩
theorem lens_DTerm_3 (h : Lens H F w b o G x upd) : ∃ G1, Lens H F w b (o + 3) G1 x.kids (fun y => upd (.mk x.kind x.num x.name y)) := by
  obtain ⟨G1, h1⟩ := h.term.snd; obtain ⟨G2, h2⟩ := h1.snd; obtain ⟨G3, h3⟩ := h2.snd; exact ⟨G3, h3⟩
end
theorem reads_tup {P : Program} {t : TypeId} {n : Nat} (h : Reads P t (Int × Int × ByteArray × List DTerm) n) : Reads P t DTerm n := by
  intro H enc w spare held cs y hh
  obtain ⟨F, x, hx⟩ := h H enc w spare held cs y hh
  exact ⟨F, .mk x.1 x.2.1 x.2.2.1 x.2.2.2, rep_tup.2 hx⟩

structure DIns where
  op : Int
  arg : Int
  term : DTerm
  to : Int
theorem DIns.ext_iff {x y : DIns} : x = y ↔ (x.op = y.op ∧ x.arg = y.arg ∧ x.term = y.term ∧ x.to = y.to) := ⟨fun h => by rw [h]; exact ⟨rfl, rfl, rfl, rfl⟩, fun h => by obtain ⟨h0, h1, h2, h3⟩ := h; cases x; cases y; simp only at h0 h1 h2 h3; simp only [h0, h1, h2, h3]⟩
instance : DecidableEq DIns := fun x y => decidable_of_iff (x.op = y.op ∧ x.arg = y.arg ∧ x.term = y.term ∧ x.to = y.to) DIns.ext_iff.symm
instance : Rep DIns := Rep.via fun x => (x.op, x.arg, x.term, x.to)
theorem at_DIns_0 {w : World} {b o : Nat} {x : DIns} (h : At w b o x) : At w b (o + 0) x.op := at_fst (α := Int) (β := Int × DTerm × Int) (p := (x.op, x.arg, x.term, x.to)) h
theorem at_DIns_1 {w : World} {b o : Nat} {x : DIns} (h : At w b o x) : At w b (o + 1) x.arg := at_fst (α := Int) (β := DTerm × Int) (p := (x.arg, x.term, x.to)) (at_snd (α := Int) (β := Int × DTerm × Int) (p := (x.op, x.arg, x.term, x.to)) h)
theorem at_DIns_2 {w : World} {b o : Nat} {x : DIns} (h : At w b o x) : At w b (o + 2) x.term := at_fst (α := DTerm) (β := Int) (p := (x.term, x.to)) (at_snd (α := Int) (β := DTerm × Int) (p := (x.arg, x.term, x.to)) (at_snd (α := Int) (β := Int × DTerm × Int) (p := (x.op, x.arg, x.term, x.to)) h))
theorem at_DIns_3 {w : World} {b o : Nat} {x : DIns} (h : At w b o x) : At w b (o + 6) x.to := at_snd (α := DTerm) (β := Int) (p := (x.term, x.to)) (at_snd (α := Int) (β := DTerm × Int) (p := (x.arg, x.term, x.to)) (at_snd (α := Int) (β := Int × DTerm × Int) (p := (x.op, x.arg, x.term, x.to)) h))
theorem rep_DIns {w : World} {x : DIns} {F0 : List Nat} {c0 : List Value} (h0 : rep F0 w c0 x.op) {F1 : List Nat} {c1 : List Value} (h1 : rep F1 w c1 x.arg) {F2 : List Nat} {c2 : List Value} (h2 : rep F2 w c2 x.term) {F3 : List Nat} {c3 : List Value} (h3 : rep F3 w c3 x.to) : rep (F0 ++ (F1 ++ (F2 ++ F3))) w (c0 ++ (c1 ++ (c2 ++ c3))) x := mine_prod h0 (mine_prod h1 (mine_prod h2 (h3)))
instance : RepZ DIns := ⟨⟨(RepZ.zv : Int), (RepZ.zv : Int), (RepZ.zv : DTerm), (RepZ.zv : Int)⟩, RepZ.zc (Int × Int × DTerm × Int), fun w => RepZ.zr (α := Int × Int × DTerm × Int) w⟩
theorem lens_DIns_0 {γ : Type} {H : List Nat → World → γ → Prop} {F : List Nat} {w : World} {b o : Nat} {G : List Nat} {x : DIns} {upd : DIns → γ} (h : Lens H F w b o G x upd) :
    ∃ G1, Lens H F w b (o + 0) G1 x.op (fun y => upd ⟨y, x.arg, x.term, x.to⟩) := by
  have h' : Lens H F w b o G (x.op, x.arg, x.term, x.to) (fun p : Int × Int × DTerm × Int => upd ⟨p.1, p.2.1, p.2.2.1, p.2.2.2⟩) := ⟨h.here, h.sub, fun w' G' y' hc hO hs => h.back w' G' _ hc hO hs⟩
  obtain ⟨G0, h'⟩ := h'.fst
  exact ⟨_, h'⟩
theorem lens_DIns_1 {γ : Type} {H : List Nat → World → γ → Prop} {F : List Nat} {w : World} {b o : Nat} {G : List Nat} {x : DIns} {upd : DIns → γ} (h : Lens H F w b o G x upd) :
    ∃ G1, Lens H F w b (o + 1) G1 x.arg (fun y => upd ⟨x.op, y, x.term, x.to⟩) := by
  have h' : Lens H F w b o G (x.op, x.arg, x.term, x.to) (fun p : Int × Int × DTerm × Int => upd ⟨p.1, p.2.1, p.2.2.1, p.2.2.2⟩) := ⟨h.here, h.sub, fun w' G' y' hc hO hs => h.back w' G' _ hc hO hs⟩
  obtain ⟨G0, h'⟩ := h'.snd
  obtain ⟨G1, h'⟩ := h'.fst
  exact ⟨_, h'⟩
theorem lens_DIns_2 {γ : Type} {H : List Nat → World → γ → Prop} {F : List Nat} {w : World} {b o : Nat} {G : List Nat} {x : DIns} {upd : DIns → γ} (h : Lens H F w b o G x upd) :
    ∃ G1, Lens H F w b (o + 2) G1 x.term (fun y => upd ⟨x.op, x.arg, y, x.to⟩) := by
  have h' : Lens H F w b o G (x.op, x.arg, x.term, x.to) (fun p : Int × Int × DTerm × Int => upd ⟨p.1, p.2.1, p.2.2.1, p.2.2.2⟩) := ⟨h.here, h.sub, fun w' G' y' hc hO hs => h.back w' G' _ hc hO hs⟩
  obtain ⟨G0, h'⟩ := h'.snd
  obtain ⟨G1, h'⟩ := h'.snd
  obtain ⟨G2, h'⟩ := h'.fst
  exact ⟨_, h'⟩
theorem lens_DIns_3 {γ : Type} {H : List Nat → World → γ → Prop} {F : List Nat} {w : World} {b o : Nat} {G : List Nat} {x : DIns} {upd : DIns → γ} (h : Lens H F w b o G x upd) :
    ∃ G1, Lens H F w b (o + 6) G1 x.to (fun y => upd ⟨x.op, x.arg, x.term, y⟩) := by
  have h' : Lens H F w b o G (x.op, x.arg, x.term, x.to) (fun p : Int × Int × DTerm × Int => upd ⟨p.1, p.2.1, p.2.2.1, p.2.2.2⟩) := ⟨h.here, h.sub, fun w' G' y' hc hO hs => h.back w' G' _ hc hO hs⟩
  obtain ⟨G0, h'⟩ := h'.snd
  obtain ⟨G1, h'⟩ := h'.snd
  obtain ⟨G2, h'⟩ := h'.snd
  exact ⟨_, h'⟩
theorem inv_DIns {w : World} {F : List Nat} {cs : List Value} {x : DIns} (h : rep F w cs x) : ∃ F0 c0 F1 c1 F2 c2 F3 c3, F = (F0 ++ (F1 ++ (F2 ++ F3))) ∧ cs = (c0 ++ (c1 ++ (c2 ++ c3))) ∧ rep F0 w c0 x.op ∧ rep F1 w c1 x.arg ∧ rep F2 w c2 x.term ∧ rep F3 w c3 x.to := by
  obtain ⟨F0, G0, c0, d0, rfl, rfl, h0, h⟩ := h
  obtain ⟨F1, G1, c1, d1, rfl, rfl, h1, h⟩ := h
  obtain ⟨F2, G2, c2, d2, rfl, rfl, h2, h⟩ := h
  exact ⟨_, _, _, _, _, _, _, _, rfl, rfl, h0, h1, h2, h⟩

structure DCode where
  globals : List ByteArray
  locks : List ByteArray
  procs : List ByteArray
  entry : List Int
  ins : List DIns
theorem DCode.ext_iff {x y : DCode} : x = y ↔ (x.globals = y.globals ∧ x.locks = y.locks ∧ x.procs = y.procs ∧ x.entry = y.entry ∧ x.ins = y.ins) := ⟨fun h => by rw [h]; exact ⟨rfl, rfl, rfl, rfl, rfl⟩, fun h => by obtain ⟨h0, h1, h2, h3, h4⟩ := h; cases x; cases y; simp only at h0 h1 h2 h3 h4; simp only [h0, h1, h2, h3, h4]⟩
instance : DecidableEq DCode := fun x y => decidable_of_iff (x.globals = y.globals ∧ x.locks = y.locks ∧ x.procs = y.procs ∧ x.entry = y.entry ∧ x.ins = y.ins) DCode.ext_iff.symm
instance : Rep DCode := Rep.via fun x => (x.globals, x.locks, x.procs, x.entry, x.ins)
theorem at_DCode_0 {w : World} {b o : Nat} {x : DCode} (h : At w b o x) : At w b (o + 0) x.globals := at_fst (α := List ByteArray) (β := (List ByteArray) × (List ByteArray) × (List Int) × (List DIns)) (p := (x.globals, x.locks, x.procs, x.entry, x.ins)) h
theorem at_DCode_1 {w : World} {b o : Nat} {x : DCode} (h : At w b o x) : At w b (o + 1) x.locks := at_fst (α := List ByteArray) (β := (List ByteArray) × (List Int) × (List DIns)) (p := (x.locks, x.procs, x.entry, x.ins)) (at_snd (α := List ByteArray) (β := (List ByteArray) × (List ByteArray) × (List Int) × (List DIns)) (p := (x.globals, x.locks, x.procs, x.entry, x.ins)) h)
theorem at_DCode_2 {w : World} {b o : Nat} {x : DCode} (h : At w b o x) : At w b (o + 2) x.procs := at_fst (α := List ByteArray) (β := (List Int) × (List DIns)) (p := (x.procs, x.entry, x.ins)) (at_snd (α := List ByteArray) (β := (List ByteArray) × (List Int) × (List DIns)) (p := (x.locks, x.procs, x.entry, x.ins)) (at_snd (α := List ByteArray) (β := (List ByteArray) × (List ByteArray) × (List Int) × (List DIns)) (p := (x.globals, x.locks, x.procs, x.entry, x.ins)) h))
theorem at_DCode_3 {w : World} {b o : Nat} {x : DCode} (h : At w b o x) : At w b (o + 3) x.entry := at_fst (α := List Int) (β := (List DIns)) (p := (x.entry, x.ins)) (at_snd (α := List ByteArray) (β := (List Int) × (List DIns)) (p := (x.procs, x.entry, x.ins)) (at_snd (α := List ByteArray) (β := (List ByteArray) × (List Int) × (List DIns)) (p := (x.locks, x.procs, x.entry, x.ins)) (at_snd (α := List ByteArray) (β := (List ByteArray) × (List ByteArray) × (List Int) × (List DIns)) (p := (x.globals, x.locks, x.procs, x.entry, x.ins)) h)))
theorem at_DCode_4 {w : World} {b o : Nat} {x : DCode} (h : At w b o x) : At w b (o + 4) x.ins := at_snd (α := List Int) (β := (List DIns)) (p := (x.entry, x.ins)) (at_snd (α := List ByteArray) (β := (List Int) × (List DIns)) (p := (x.procs, x.entry, x.ins)) (at_snd (α := List ByteArray) (β := (List ByteArray) × (List Int) × (List DIns)) (p := (x.locks, x.procs, x.entry, x.ins)) (at_snd (α := List ByteArray) (β := (List ByteArray) × (List ByteArray) × (List Int) × (List DIns)) (p := (x.globals, x.locks, x.procs, x.entry, x.ins)) h)))
theorem rep_DCode {w : World} {x : DCode} {F0 : List Nat} {c0 : List Value} (h0 : rep F0 w c0 x.globals) {F1 : List Nat} {c1 : List Value} (h1 : rep F1 w c1 x.locks) {F2 : List Nat} {c2 : List Value} (h2 : rep F2 w c2 x.procs) {F3 : List Nat} {c3 : List Value} (h3 : rep F3 w c3 x.entry) {F4 : List Nat} {c4 : List Value} (h4 : rep F4 w c4 x.ins) : rep (F0 ++ (F1 ++ (F2 ++ (F3 ++ F4)))) w (c0 ++ (c1 ++ (c2 ++ (c3 ++ c4)))) x := mine_prod h0 (mine_prod h1 (mine_prod h2 (mine_prod h3 (h4))))
instance : RepZ DCode := ⟨⟨(RepZ.zv : List ByteArray), (RepZ.zv : List ByteArray), (RepZ.zv : List ByteArray), (RepZ.zv : List Int), (RepZ.zv : List DIns)⟩, RepZ.zc ((List ByteArray) × (List ByteArray) × (List ByteArray) × (List Int) × (List DIns)), fun w => RepZ.zr (α := (List ByteArray) × (List ByteArray) × (List ByteArray) × (List Int) × (List DIns)) w⟩
theorem lens_DCode_0 {γ : Type} {H : List Nat → World → γ → Prop} {F : List Nat} {w : World} {b o : Nat} {G : List Nat} {x : DCode} {upd : DCode → γ} (h : Lens H F w b o G x upd) :
    ∃ G1, Lens H F w b (o + 0) G1 x.globals (fun y => upd ⟨y, x.locks, x.procs, x.entry, x.ins⟩) := by
  have h' : Lens H F w b o G (x.globals, x.locks, x.procs, x.entry, x.ins) (fun p : (List ByteArray) × (List ByteArray) × (List ByteArray) × (List Int) × (List DIns) => upd ⟨p.1, p.2.1, p.2.2.1, p.2.2.2.1, p.2.2.2.2⟩) := ⟨h.here, h.sub, fun w' G' y' hc hO hs => h.back w' G' _ hc hO hs⟩
  obtain ⟨G0, h'⟩ := h'.fst
  exact ⟨_, h'⟩
theorem lens_DCode_1 {γ : Type} {H : List Nat → World → γ → Prop} {F : List Nat} {w : World} {b o : Nat} {G : List Nat} {x : DCode} {upd : DCode → γ} (h : Lens H F w b o G x upd) :
    ∃ G1, Lens H F w b (o + 1) G1 x.locks (fun y => upd ⟨x.globals, y, x.procs, x.entry, x.ins⟩) := by
  have h' : Lens H F w b o G (x.globals, x.locks, x.procs, x.entry, x.ins) (fun p : (List ByteArray) × (List ByteArray) × (List ByteArray) × (List Int) × (List DIns) => upd ⟨p.1, p.2.1, p.2.2.1, p.2.2.2.1, p.2.2.2.2⟩) := ⟨h.here, h.sub, fun w' G' y' hc hO hs => h.back w' G' _ hc hO hs⟩
  obtain ⟨G0, h'⟩ := h'.snd
  obtain ⟨G1, h'⟩ := h'.fst
  exact ⟨_, h'⟩
theorem lens_DCode_2 {γ : Type} {H : List Nat → World → γ → Prop} {F : List Nat} {w : World} {b o : Nat} {G : List Nat} {x : DCode} {upd : DCode → γ} (h : Lens H F w b o G x upd) :
    ∃ G1, Lens H F w b (o + 2) G1 x.procs (fun y => upd ⟨x.globals, x.locks, y, x.entry, x.ins⟩) := by
  have h' : Lens H F w b o G (x.globals, x.locks, x.procs, x.entry, x.ins) (fun p : (List ByteArray) × (List ByteArray) × (List ByteArray) × (List Int) × (List DIns) => upd ⟨p.1, p.2.1, p.2.2.1, p.2.2.2.1, p.2.2.2.2⟩) := ⟨h.here, h.sub, fun w' G' y' hc hO hs => h.back w' G' _ hc hO hs⟩
  obtain ⟨G0, h'⟩ := h'.snd
  obtain ⟨G1, h'⟩ := h'.snd
  obtain ⟨G2, h'⟩ := h'.fst
  exact ⟨_, h'⟩
theorem lens_DCode_3 {γ : Type} {H : List Nat → World → γ → Prop} {F : List Nat} {w : World} {b o : Nat} {G : List Nat} {x : DCode} {upd : DCode → γ} (h : Lens H F w b o G x upd) :
    ∃ G1, Lens H F w b (o + 3) G1 x.entry (fun y => upd ⟨x.globals, x.locks, x.procs, y, x.ins⟩) := by
  have h' : Lens H F w b o G (x.globals, x.locks, x.procs, x.entry, x.ins) (fun p : (List ByteArray) × (List ByteArray) × (List ByteArray) × (List Int) × (List DIns) => upd ⟨p.1, p.2.1, p.2.2.1, p.2.2.2.1, p.2.2.2.2⟩) := ⟨h.here, h.sub, fun w' G' y' hc hO hs => h.back w' G' _ hc hO hs⟩
  obtain ⟨G0, h'⟩ := h'.snd
  obtain ⟨G1, h'⟩ := h'.snd
  obtain ⟨G2, h'⟩ := h'.snd
  obtain ⟨G3, h'⟩ := h'.fst
  exact ⟨_, h'⟩
theorem lens_DCode_4 {γ : Type} {H : List Nat → World → γ → Prop} {F : List Nat} {w : World} {b o : Nat} {G : List Nat} {x : DCode} {upd : DCode → γ} (h : Lens H F w b o G x upd) :
    ∃ G1, Lens H F w b (o + 4) G1 x.ins (fun y => upd ⟨x.globals, x.locks, x.procs, x.entry, y⟩) := by
  have h' : Lens H F w b o G (x.globals, x.locks, x.procs, x.entry, x.ins) (fun p : (List ByteArray) × (List ByteArray) × (List ByteArray) × (List Int) × (List DIns) => upd ⟨p.1, p.2.1, p.2.2.1, p.2.2.2.1, p.2.2.2.2⟩) := ⟨h.here, h.sub, fun w' G' y' hc hO hs => h.back w' G' _ hc hO hs⟩
  obtain ⟨G0, h'⟩ := h'.snd
  obtain ⟨G1, h'⟩ := h'.snd
  obtain ⟨G2, h'⟩ := h'.snd
  obtain ⟨G3, h'⟩ := h'.snd
  exact ⟨_, h'⟩
theorem inv_DCode {w : World} {F : List Nat} {cs : List Value} {x : DCode} (h : rep F w cs x) : ∃ F0 c0 F1 c1 F2 c2 F3 c3 F4 c4, F = (F0 ++ (F1 ++ (F2 ++ (F3 ++ F4)))) ∧ cs = (c0 ++ (c1 ++ (c2 ++ (c3 ++ c4)))) ∧ rep F0 w c0 x.globals ∧ rep F1 w c1 x.locks ∧ rep F2 w c2 x.procs ∧ rep F3 w c3 x.entry ∧ rep F4 w c4 x.ins := by
  obtain ⟨F0, G0, c0, d0, rfl, rfl, h0, h⟩ := h
  obtain ⟨F1, G1, c1, d1, rfl, rfl, h1, h⟩ := h
  obtain ⟨F2, G2, c2, d2, rfl, rfl, h2, h⟩ := h
  obtain ⟨F3, G3, c3, d3, rfl, rfl, h3, h⟩ := h
  exact ⟨_, _, _, _, _, _, _, _, _, _, rfl, rfl, h0, h1, h2, h3, h⟩

structure DTouch where
  at_ : Int
  global : Int
  write : Bool
  held : Int
theorem DTouch.ext_iff {x y : DTouch} : x = y ↔ (x.at_ = y.at_ ∧ x.global = y.global ∧ x.write = y.write ∧ x.held = y.held) := ⟨fun h => by rw [h]; exact ⟨rfl, rfl, rfl, rfl⟩, fun h => by obtain ⟨h0, h1, h2, h3⟩ := h; cases x; cases y; simp only at h0 h1 h2 h3; simp only [h0, h1, h2, h3]⟩
instance : DecidableEq DTouch := fun x y => decidable_of_iff (x.at_ = y.at_ ∧ x.global = y.global ∧ x.write = y.write ∧ x.held = y.held) DTouch.ext_iff.symm
instance : Rep DTouch := Rep.via fun x => (x.at_, x.global, x.write, x.held)
theorem at_DTouch_0 {w : World} {b o : Nat} {x : DTouch} (h : At w b o x) : At w b (o + 0) x.at_ := at_fst (α := Int) (β := Int × Bool × Int) (p := (x.at_, x.global, x.write, x.held)) h
theorem at_DTouch_1 {w : World} {b o : Nat} {x : DTouch} (h : At w b o x) : At w b (o + 1) x.global := at_fst (α := Int) (β := Bool × Int) (p := (x.global, x.write, x.held)) (at_snd (α := Int) (β := Int × Bool × Int) (p := (x.at_, x.global, x.write, x.held)) h)
theorem at_DTouch_2 {w : World} {b o : Nat} {x : DTouch} (h : At w b o x) : At w b (o + 2) x.write := at_fst (α := Bool) (β := Int) (p := (x.write, x.held)) (at_snd (α := Int) (β := Bool × Int) (p := (x.global, x.write, x.held)) (at_snd (α := Int) (β := Int × Bool × Int) (p := (x.at_, x.global, x.write, x.held)) h))
theorem at_DTouch_3 {w : World} {b o : Nat} {x : DTouch} (h : At w b o x) : At w b (o + 3) x.held := at_snd (α := Bool) (β := Int) (p := (x.write, x.held)) (at_snd (α := Int) (β := Bool × Int) (p := (x.global, x.write, x.held)) (at_snd (α := Int) (β := Int × Bool × Int) (p := (x.at_, x.global, x.write, x.held)) h))
theorem rep_DTouch {w : World} {x : DTouch} {F0 : List Nat} {c0 : List Value} (h0 : rep F0 w c0 x.at_) {F1 : List Nat} {c1 : List Value} (h1 : rep F1 w c1 x.global) {F2 : List Nat} {c2 : List Value} (h2 : rep F2 w c2 x.write) {F3 : List Nat} {c3 : List Value} (h3 : rep F3 w c3 x.held) : rep (F0 ++ (F1 ++ (F2 ++ F3))) w (c0 ++ (c1 ++ (c2 ++ c3))) x := mine_prod h0 (mine_prod h1 (mine_prod h2 (h3)))
instance : RepZ DTouch := ⟨⟨(RepZ.zv : Int), (RepZ.zv : Int), (RepZ.zv : Bool), (RepZ.zv : Int)⟩, RepZ.zc (Int × Int × Bool × Int), fun w => RepZ.zr (α := Int × Int × Bool × Int) w⟩
theorem lens_DTouch_0 {γ : Type} {H : List Nat → World → γ → Prop} {F : List Nat} {w : World} {b o : Nat} {G : List Nat} {x : DTouch} {upd : DTouch → γ} (h : Lens H F w b o G x upd) :
    ∃ G1, Lens H F w b (o + 0) G1 x.at_ (fun y => upd ⟨y, x.global, x.write, x.held⟩) := by
  have h' : Lens H F w b o G (x.at_, x.global, x.write, x.held) (fun p : Int × Int × Bool × Int => upd ⟨p.1, p.2.1, p.2.2.1, p.2.2.2⟩) := ⟨h.here, h.sub, fun w' G' y' hc hO hs => h.back w' G' _ hc hO hs⟩
  obtain ⟨G0, h'⟩ := h'.fst
  exact ⟨_, h'⟩
theorem lens_DTouch_1 {γ : Type} {H : List Nat → World → γ → Prop} {F : List Nat} {w : World} {b o : Nat} {G : List Nat} {x : DTouch} {upd : DTouch → γ} (h : Lens H F w b o G x upd) :
    ∃ G1, Lens H F w b (o + 1) G1 x.global (fun y => upd ⟨x.at_, y, x.write, x.held⟩) := by
  have h' : Lens H F w b o G (x.at_, x.global, x.write, x.held) (fun p : Int × Int × Bool × Int => upd ⟨p.1, p.2.1, p.2.2.1, p.2.2.2⟩) := ⟨h.here, h.sub, fun w' G' y' hc hO hs => h.back w' G' _ hc hO hs⟩
  obtain ⟨G0, h'⟩ := h'.snd
  obtain ⟨G1, h'⟩ := h'.fst
  exact ⟨_, h'⟩
theorem lens_DTouch_2 {γ : Type} {H : List Nat → World → γ → Prop} {F : List Nat} {w : World} {b o : Nat} {G : List Nat} {x : DTouch} {upd : DTouch → γ} (h : Lens H F w b o G x upd) :
    ∃ G1, Lens H F w b (o + 2) G1 x.write (fun y => upd ⟨x.at_, x.global, y, x.held⟩) := by
  have h' : Lens H F w b o G (x.at_, x.global, x.write, x.held) (fun p : Int × Int × Bool × Int => upd ⟨p.1, p.2.1, p.2.2.1, p.2.2.2⟩) := ⟨h.here, h.sub, fun w' G' y' hc hO hs => h.back w' G' _ hc hO hs⟩
  obtain ⟨G0, h'⟩ := h'.snd
  obtain ⟨G1, h'⟩ := h'.snd
  obtain ⟨G2, h'⟩ := h'.fst
  exact ⟨_, h'⟩
theorem lens_DTouch_3 {γ : Type} {H : List Nat → World → γ → Prop} {F : List Nat} {w : World} {b o : Nat} {G : List Nat} {x : DTouch} {upd : DTouch → γ} (h : Lens H F w b o G x upd) :
    ∃ G1, Lens H F w b (o + 3) G1 x.held (fun y => upd ⟨x.at_, x.global, x.write, y⟩) := by
  have h' : Lens H F w b o G (x.at_, x.global, x.write, x.held) (fun p : Int × Int × Bool × Int => upd ⟨p.1, p.2.1, p.2.2.1, p.2.2.2⟩) := ⟨h.here, h.sub, fun w' G' y' hc hO hs => h.back w' G' _ hc hO hs⟩
  obtain ⟨G0, h'⟩ := h'.snd
  obtain ⟨G1, h'⟩ := h'.snd
  obtain ⟨G2, h'⟩ := h'.snd
  exact ⟨_, h'⟩
theorem mk_DTouch {w : World} {x : DTouch} (h_at_ : I64 x.at_) (h_global : I64 x.global)  (h_held : I64 x.held) : Mine [] w (.agg #[.int .i64 x.at_, .int .i64 x.global, .bool x.write, .int .i64 x.held]) x := ⟨⟨[.int .i64 x.at_, .int .i64 x.global, .bool x.write, .int .i64 x.held], ⟨[], [], [.int .i64 x.at_], [.int .i64 x.global, .bool x.write, .int .i64 x.held], rfl, rfl, ⟨rfl, rfl, h_at_⟩, ⟨[], [], [.int .i64 x.global], [.bool x.write, .int .i64 x.held], rfl, rfl, ⟨rfl, rfl, h_global⟩, ⟨[], [], [.bool x.write], [.int .i64 x.held], rfl, rfl, ⟨rfl, rfl⟩, ⟨rfl, rfl, h_held⟩⟩⟩⟩, rfl⟩, List.nodup_nil, Wr.nil w⟩
theorem un_DTouch {w : World} {v : Value} {x : DTouch} (h : Is w v x) : v = .agg #[.int .i64 x.at_, .int .i64 x.global, .bool x.write, .int .i64 x.held] ∧ I64 x.at_ ∧ I64 x.global ∧ I64 x.held := by
  obtain ⟨F, cs, ⟨_, _, _, _, rfl, rfl, ⟨rfl, rfl, h0⟩, ⟨_, _, _, _, rfl, rfl, ⟨rfl, rfl, h1⟩, ⟨_, _, _, _, rfl, rfl, ⟨rfl, rfl⟩, ⟨rfl, rfl, h3⟩⟩⟩⟩, rfl⟩ := h
  exact ⟨rfl, h0, h1, h3⟩
instance : Flat DTouch := ⟨fun h => Flat.flat (α := Int × Int × Bool × Int) h⟩
theorem inv_DTouch {w : World} {F : List Nat} {cs : List Value} {x : DTouch} (h : rep F w cs x) : ∃ F0 c0 F1 c1 F2 c2 F3 c3, F = (F0 ++ (F1 ++ (F2 ++ F3))) ∧ cs = (c0 ++ (c1 ++ (c2 ++ c3))) ∧ rep F0 w c0 x.at_ ∧ rep F1 w c1 x.global ∧ rep F2 w c2 x.write ∧ rep F3 w c3 x.held := by
  obtain ⟨F0, G0, c0, d0, rfl, rfl, h0, h⟩ := h
  obtain ⟨F1, G1, c1, d1, rfl, rfl, h1, h⟩ := h
  obtain ⟨F2, G2, c2, d2, rfl, rfl, h2, h⟩ := h
  exact ⟨_, _, _, _, _, _, _, _, rfl, rfl, h0, h1, h2, h⟩

end Go.Sh
