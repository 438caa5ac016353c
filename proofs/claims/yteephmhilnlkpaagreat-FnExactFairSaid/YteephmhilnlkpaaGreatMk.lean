/-
  Marks in data of one's own: places within, and the values that lie there.
-/
import Derived.Test.YteephmhilnlkpaaGreatRow
namespace Go.Sh
set_option linter.unusedVariables false
set_option linter.unusedSimpArgs false
set_option linter.unusedSectionVars false
open Go.RowKit (Below)
open Rep (rep)

section
variable {P : Program} {w w0 w' : World} {α β γ : Type} [Rep α] [Rep β]
/-- v reads as x, by some of the blocks S, no two the same, that may be written -/
def OwnS (S : List Nat) (w : World) (v : Value) (x : α) : Prop := ∃ F, Mine F w v x ∧ ∀ b ∈ F, b ∈ S
theorem Mine.toS {F : List Nat} {v : Value} {x : α} (h : Mine F w v x) : OwnS F w v x := ⟨F, h, fun _ h => h⟩
theorem OwnS.mono {S T : List Nat} {v : Value} {x : α} (h : OwnS S w v x) (hs : ∀ b ∈ S, b ∈ T) : OwnS T w v x := by
  obtain ⟨F, hm, hF⟩ := h; exact ⟨F, hm, fun b hb => hs b (hF b hb)⟩
theorem OwnS.is {S : List Nat} {v : Value} {x : α} (h : OwnS S w v x) : Is w v x := by obtain ⟨F, hm, _⟩ := h; exact hm.is
theorem OwnS.ext {S : List Nat} {v : Value} {x : α} (h : OwnS S w v x) (hx : Ext w w') : OwnS S w' v x := by obtain ⟨F, hm, hF⟩ := h; exact ⟨F, hm.ext hx, hF⟩
theorem OwnS.chg {S T : List Nat} {v : Value} {x : α} (h : OwnS S w v x) (hc : Chg T w w') (hd : ∀ b ∈ S, b ∉ T) : OwnS S w' v x := by
  obtain ⟨F, hm, hF⟩ := h; exact ⟨F, hm.keep fun b hb => hc.block b (hm.lt b hb) (hd b (hF b hb)), hF⟩
theorem OwnS.toI {S : List Nat} {v : Value} {x : α} {lo hi : Nat} (h : OwnS S w v x) (hs : ∀ b ∈ S, lo ≤ b ∧ b < hi) : OwnI lo hi w v x := by
  obtain ⟨F, hm, hF⟩ := h; exact ⟨F, hm, fun b hb => hs b (hF b hb)⟩
/-- the place of an element -/
theorem rd_focus {t e : TypeId} {by_ : Nat} {F : List Nat} {v : Value} {l : List α} {k : Nat} {K : Value → Prop} (ht : P.underlying t = some (.slice e)) (he : tyI P e = some (Rep.size α, by_, Rep.agg α)) (hm : Mine F w v l) (hk : k < l.length)
    (kk : ∀ b o G, Lens (MH v) F w b o G l[k] (fun y => l.set k y) → K (.pointer (some ⟨b, o, none⟩))) : RD P (Instr.indexAt t v (.int .i64 (k : Int))) w K := by
  obtain ⟨b, a, cap, G, hv, hL⟩ := focus hm hk
  refine rd_of (v := .pointer (some ⟨b, a + k * Rep.size α, none⟩)) (fun w' _ => ?_) (kk _ _ _ hL)
  rw [hv, run_indexAt' ht he (by omega) (by omega)]; simp
/-- the slice that lies at such a place -/
theorem rd_lens_row {ft by_ b o : Nat} {H : List Nat → World → γ → Prop} {F G : List Nat} {l : List β} {upd : List β → γ} {K : Value → Prop} (hft : tyI P ft = some (1, by_, false)) (hL : Lens H F w b o G l upd)
    (k : ∀ u, Mine G w u l → (∀ c ∈ G, c ∈ F) → (∀ w' G' l', Chg G w w' → Mine G' w' u l' → (∀ c ∈ G', c ∈ G ∨ c ∉ F) → ∃ F', H F' w' (upd l') ∧ ∀ c ∈ F', c ∈ F ∨ c ∈ G') → K u) :
    RD P (Instr.loadAt ft (.pointer (some ⟨b, o, none⟩))) w K := by
  obtain ⟨u, hM, hr, hG, hb⟩ := hL.row
  refine rd_of (fun w' hx' => ?_) (k u hM hG hb)
  have h0 : w'.cell? ⟨b, o, none⟩ = some u := by simpa using (rangeAt_ext hr hx') 0 u rfl
  have hA := run_isAgg hft w'
  simp [Instr.loadAt, Instr.sureAddr, loadVar, hA, h0]
/-- the value in a cell of a block that is known whole -/
theorem rd_blkV {ft by_ g e o : Nat} {cs : List Value} {v : Value} {K : Value → Prop} (hft : tyI P ft = some (1, by_, false)) (hB : Blk g e w cs) (ho : cs[o]? = some v) (k : K v) :
    RD P (Instr.loadAt ft (.pointer (some ⟨g, o, none⟩))) w K := by
  refine rd_of (fun w' hx' => ?_) k
  have h0 : w'.cell? ⟨g, o, none⟩ = some v := by simpa using (rangeAt_ext hB.range hx') o v ho
  have hA := run_isAgg hft w'
  simp [Instr.loadAt, Instr.sureAddr, loadVar, hA, h0]
/-- a struct in hand is put into a variable: its cells -/
theorem op_boxB {t : TypeId} {cs : Array Value} {K : Value → World → Prop} (k : ∀ w', Ext w w' → Blk w.heap.size t w' cs.toList → K (.pointer (some ⟨w.heap.size, 0, none⟩)) w') : OP P (Instr.box t (.agg cs)) w K :=
  ⟨_, w.alloc (.cells cs t), by simp [Instr.box, newVar, newRow, Value.cells], k _ (ext_alloc w _) (by unfold Blk; rw [heap_alloc_new w _])⟩
/-- a store of what has no blocks at such a place -/
theorem opu_lensF {t by_ b o : Nat} {F G : List Nat} {v : Value} {y y' : β} {upd : β → α} {u : Value} {K : World → Prop} (ht : tyI P t = some (Rep.size β, by_, Rep.agg β)) (h : Lens (MH v) F w b o G y upd)
    (hu : Mine [] w u y') (k : ∀ w' F', Chg F w w' → Mine F' w' v (upd y') → (∀ c ∈ F', c ∈ F) → K w') : OPU P (Instr.storeAt t (.pointer (some ⟨b, o, none⟩)) u) w K :=
  opu_lens ht h hu (by simp) fun w' hc ⟨F', h1, h2⟩ => k w' F' hc h1 fun c hc => by
    rcases h2 c hc with h | h
    · exact h
    · simp at h
theorem mine_int {x : Int} (h : I64 x) : Mine [] w (.int .i64 x) x := ⟨⟨_, ⟨rfl, rfl, h⟩, rfl⟩, List.nodup_nil, Wr.nil w⟩
theorem mine_str {x : ByteArray} (h : x.size ≤ maxLen) : Mine [] w (.string x) x := ⟨⟨_, ⟨rfl, rfl, h⟩, rfl⟩, List.nodup_nil, Wr.nil w⟩
theorem mine_bool {x : Bool} : Mine [] w (.bool x) x := ⟨⟨_, ⟨rfl, rfl⟩, rfl⟩, List.nodup_nil, Wr.nil w⟩
theorem Chg.sub {F G : List Nat} {a b c : World} (h : Chg F a b) (k : Chg G b c) (hs : ∀ x ∈ G, x ∈ F) : Chg F a c := h.trans (k.mono hs)
theorem rd_max {ts : Array TypeId} {ty : TypeId} {a b : Int} {K : Value → Prop} (k : K (.int .i64 (max a b))) : RD P (Builtin.max_ ts ty [Value.int .i64 a, Value.int .i64 b].toArray) w K := by
  refine rd_of (fun w' _ => ?_) k
  have : (if b > a then b else a) = max a b := by split <;> omega
  simp only [Builtin.max_, List.toList_toArray, List.foldlM_cons, List.foldlM_nil, Builtin.max2, this]
  rfl
theorem rd_min {ts : Array TypeId} {ty : TypeId} {a b : Int} {K : Value → Prop} (k : K (.int .i64 (min a b))) : RD P (Builtin.min_ ts ty [Value.int .i64 a, Value.int .i64 b].toArray) w K := by
  refine rd_of (fun w' _ => ?_) k
  have : (if b < a then b else a) = min a b := by split <;> omega
  simp only [Builtin.min_, List.toList_toArray, List.foldlM_cons, List.foldlM_nil, Builtin.min2, this]
  rfl
/-- the slice in one cell -/
theorem mine_of_rep {F : List Nat} {cs : List Value} {l : List β} (hr : rep F w cs l) (hn : F.Nodup) (hw : Wr F w) : ∃ u, cs = [u] ∧ Mine F w u l := by
  have h := hr
  obtain ⟨a, cap, Fi, xs, rfl, _⟩ := h
  exact ⟨_, rfl, ⟨_, hr, rfl⟩, hn, hw⟩
/-- a[k].f = x -/
theorem st_fld {t e ft i off by_ by2 : Nat} {F : List Nat} {v u : Value} {l : List α} {k : Nat} {y' : β} {sel : α → β} {g : α → β → α} {K : World → Prop} (ht : P.underlying t = some (.slice e)) (he : tyI P e = some (Rep.size α, by_, Rep.agg α)) (hf : fldB P e i = some off) (hft : tyI P ft = some (Rep.size β, by2, Rep.agg β))
    (L : ∀ {a : α} {G : List Nat} {b o : Nat} {upd : α → List α}, Lens (MH v) F w b o G a upd → ∃ G1, Lens (MH v) F w b (o + off) G1 (sel a) (fun y => upd (g a y))) (hm : Mine F w v l) (hk : k < l.length) (hu : Mine [] w u y')
    (kk : ∀ w' F', Chg F w w' → Mine F' w' v (l.set k (g l[k] y')) → (∀ c ∈ F', c ∈ F) → K w') :
    RD P (Instr.indexAt t v (.int .i64 (k : Int))) w fun p => RD P (Instr.fieldAt e p i) w fun q => OPU P (Instr.storeAt ft q u) w K := by
  refine rd_focus ht he hm hk fun b o G hL => ?_
  refine rd_fld hf ?_
  obtain ⟨G1, hL1⟩ := L hL
  exact opu_lensF (upd := fun y => l.set k (g l[k] y)) hft hL1 hu kk
theorem st_fld2 {t e e2 ft i j off off2 by_ by2 : Nat} {F : List Nat} {v u : Value} {l : List α} {k : Nat} {y' : β} {sel : α → β} {g : α → β → α} {K : World → Prop} (ht : P.underlying t = some (.slice e)) (he : tyI P e = some (Rep.size α, by_, Rep.agg α)) (hf : fldB P e i = some off) (hf2 : fldB P e2 j = some off2) (hft : tyI P ft = some (Rep.size β, by2, Rep.agg β))
    (L : ∀ {a : α} {G : List Nat} {b o : Nat} {upd : α → List α}, Lens (MH v) F w b o G a upd → ∃ G1, Lens (MH v) F w b (o + off + off2) G1 (sel a) (fun y => upd (g a y))) (hm : Mine F w v l) (hk : k < l.length) (hu : Mine [] w u y')
    (kk : ∀ w' F', Chg F w w' → Mine F' w' v (l.set k (g l[k] y')) → (∀ c ∈ F', c ∈ F) → K w') :
    RD P (Instr.indexAt t v (.int .i64 (k : Int))) w fun p => RD P (Instr.fieldAt e p i) w fun q => RD P (Instr.fieldAt e2 q j) w fun q => OPU P (Instr.storeAt ft q u) w K := by
  refine rd_focus ht he hm hk fun b o G hL => ?_
  refine rd_fld hf ?_
  refine rd_fld hf2 ?_
  obtain ⟨G1, hL1⟩ := L hL
  exact opu_lensF (upd := fun y => l.set k (g l[k] y)) hft hL1 hu kk
/-- from i on cur is as l -/
def RestL (i : Nat) (cur l : List α) : Prop := cur.length = l.length ∧ ∀ j, i ≤ j → cur[j]? = l[j]?
theorem RestL.set {i : Nat} {cur l : List α} (h : RestL i cur l) (x : α) : RestL (i + 1) (cur.set i x) l :=
  ⟨by rw [List.length_set]; exact h.1, fun j hj => by rw [List.getElem?_set_ne (by omega)]; exact h.2 j (by omega)⟩
theorem RestL.set1 {i : Nat} {cur l : List α} (h : RestL (i + 1) cur l) (x : α) : RestL (i + 1) (cur.set i x) l :=
  ⟨by rw [List.length_set]; exact h.1, fun j hj => by rw [List.getElem?_set_ne (by omega)]; exact h.2 j (by omega)⟩
theorem RestL.get {i : Nat} {cur l : List α} (h : RestL i cur l) (hi : i < l.length) : cur[i]'(by rw [h.1]; exact hi) = l[i] := by
  have := h.2 i (Nat.le_refl _)
  rw [List.getElem?_eq_getElem (by rw [h.1]; exact hi), List.getElem?_eq_getElem hi] at this
  exact Option.some.inj this
/-- behind i cur is as l; at i its part f is as l's -/
def KeepF {γ : Type} (f : α → γ) (i : Nat) (cur l : List α) : Prop := RestL (i + 1) cur l ∧ ∃ (h : i < cur.length) (h' : i < l.length), f cur[i] = f l[i]
theorem RestL.keepF {γ : Type} {f : α → γ} {i : Nat} {cur l : List α} (h : RestL i cur l) (hi : i < l.length) : KeepF f i cur l :=
  ⟨⟨h.1, fun j hj => h.2 j (by omega)⟩, by rw [h.1]; exact hi, hi, by rw [h.get hi]⟩
theorem KeepF.set {γ : Type} {f : α → γ} {i : Nat} {cur l : List α} (h : KeepF f i cur l) {x : α} (hx : ∀ h : i < cur.length, f x = f cur[i]) : KeepF f i (cur.set i x) l := by
  obtain ⟨h1, h2, h3, h4⟩ := h
  exact ⟨h1.set1 x, by rw [List.length_set]; exact h2, h3, by rw [List.getElem_set_self, hx h2, h4]⟩
theorem Mine.chgD {α : Type} [Rep α] {F G : List Nat} {w w' : World} {v : Value} {x : α} (h : Mine F w v x) (hc : Chg G w w') (hd : ∀ b ∈ F, b ∉ G) : Mine F w' v x := h.keep fun b hb => hc.block b (h.lt b hb) (hd b hb)
theorem nodup_app {F G : List Nat} (h : (F ++ G).Nodup) : F.Nodup ∧ G.Nodup ∧ ∀ a ∈ F, a ∉ G := by
  rw [List.nodup_append] at h
  exact ⟨h.1, h.2.1, fun a ha hb => h.2.2 a ha a hb rfl⟩
theorem Var.chgI {t g a b : Nat} {v : Value} (h : Var P t w g v) (hc : ChgI a b w w') (hd : g < a ∨ b ≤ g) : Var P t w' g v := h.keep (hc.block g h.lt hd)
end
end Go.Sh
