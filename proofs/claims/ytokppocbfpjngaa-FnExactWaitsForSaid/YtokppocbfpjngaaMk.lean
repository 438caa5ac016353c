/-
  Marks in data of one's own: places within, and the values that lie there.
-/
import Derived.Test.YtokppocbfpjngaaRow
namespace Go.Sh
set_option linter.unusedVariables false
set_option linter.unusedSimpArgs false
set_option linter.unusedSectionVars false
open Go.RowKit (Below)
open Rep (rep)

section
variable {P : Program} {w w0 w' : World} {α β γ : Type} [Rep α] [Rep β]
/-- v reads as x, by some of the blocks S, no two the same, that may be written -/
def OwnS (S : List Nat) (w : World) (v : Value) (x : α) : Prop := ∃ F, Mine F w v x ∧ ∀ b ∈ F, b ∈ S
theorem Mine.toS {F : List Nat} {v : Value} {x : α} (h : Mine F w v x) : OwnS F w v x := ⟨F, h, fun _ h => h⟩
theorem OwnS.mono {S T : List Nat} {v : Value} {x : α} (h : OwnS S w v x) (hs : ∀ b ∈ S, b ∈ T) : OwnS T w v x := by
  obtain ⟨F, hm, hF⟩ := h; exact ⟨F, hm, fun b hb => hs b (hF b hb)⟩
theorem OwnS.is {S : List Nat} {v : Value} {x : α} (h : OwnS S w v x) : Is w v x := by obtain ⟨F, hm, _⟩ := h; exact hm.is
theorem OwnS.ext {S : List Nat} {v : Value} {x : α} (h : OwnS S w v x) (hx : Ext w w') : OwnS S w' v x := by obtain ⟨F, hm, hF⟩ := h; exact ⟨F, hm.ext hx, hF⟩
theorem OwnS.chg {S T : List Nat} {v : Value} {x : α} (h : OwnS S w v x) (hc : Chg T w w') (hd : ∀ b ∈ S, b ∉ T) : OwnS S w' v x := by
  obtain ⟨F, hm, hF⟩ := h; exact ⟨F, hm.keep fun b hb => hc.block b (hm.lt b hb) (hd b (hF b hb)), hF⟩
theorem OwnS.toI {S : List Nat} {v : Value} {x : α} {lo hi : Nat} (h : OwnS S w v x) (hs : ∀ b ∈ S, lo ≤ b ∧ b < hi) : OwnI lo hi w v x := by
  obtain ⟨F, hm, hF⟩ := h; exact ⟨F, hm, fun b hb => hs b (hF b hb)⟩
/-- the place of an element -/
theorem rd_focus {t e : TypeId} {by_ : Nat} {F : List Nat} {v : Value} {l : List α} {k : Nat} {K : Value → Prop} (ht : P.underlying t = some (.slice e)) (he : tyI P e = some (Rep.size α, by_, Rep.agg α)) (hm : Mine F w v l) (hk : k < l.length)
    (kk : ∀ b o G, Lens (MH v) F w b o G l[k] (fun y => l.set k y) → K (.pointer (some ⟨b, o, none⟩))) : RD P (Instr.indexAt t v (.int .i64 (k : Int))) w K := by
  obtain ⟨b, a, cap, G, hv, hL⟩ := focus hm hk
  refine rd_of (v := .pointer (some ⟨b, a + k * Rep.size α, none⟩)) (fun w' _ => ?_) (kk _ _ _ hL)
  rw [hv, run_indexAt' ht he (by omega) (by omega)]; simp
/-- the slice that lies at such a place -/
theorem rd_lens_row {ft by_ b o : Nat} {H : List Nat → World → γ → Prop} {F G : List Nat} {l : List β} {upd : List β → γ} {K : Value → Prop} (hft : tyI P ft = some (1, by_, false)) (hL : Lens H F w b o G l upd)
    (k : ∀ u, Mine G w u l → (∀ c ∈ G, c ∈ F) → (∀ w' G' l', Chg G w w' → Mine G' w' u l' → (∀ c ∈ G', c ∈ G ∨ c ∉ F) → ∃ F', H F' w' (upd l') ∧ ∀ c ∈ F', c ∈ F ∨ c ∈ G') → K u) :
    RD P (Instr.loadAt ft (.pointer (some ⟨b, o, none⟩))) w K := by
  obtain ⟨u, hM, hr, hG, hb⟩ := hL.row
  refine rd_of (fun w' hx' => ?_) (k u hM hG hb)
  have h0 : w'.cell? ⟨b, o, none⟩ = some u := by simpa using (rangeAt_ext hr hx') 0 u rfl
  have hA := run_isAgg hft w'
  simp [Instr.loadAt, Instr.sureAddr, loadVar, hA, h0]
/-- the value in a cell of a block that is known whole -/
theorem rd_blkV {ft by_ g e o : Nat} {cs : List Value} {v : Value} {K : Value → Prop} (hft : tyI P ft = some (1, by_, false)) (hB : Blk g e w cs) (ho : cs[o]? = some v) (k : K v) :
    RD P (Instr.loadAt ft (.pointer (some ⟨g, o, none⟩))) w K := by
  refine rd_of (fun w' hx' => ?_) k
  have h0 : w'.cell? ⟨g, o, none⟩ = some v := by simpa using (rangeAt_ext hB.range hx') o v ho
  have hA := run_isAgg hft w'
  simp [Instr.loadAt, Instr.sureAddr, loadVar, hA, h0]
/-- a struct in hand is put into a variable: its cells -/
theorem op_boxB {t : TypeId} {cs : Array Value} {K : Value → World → Prop} (k : ∀ w', Ext w w' → Blk w.heap.size t w' cs.toList → K (.pointer (some ⟨w.heap.size, 0, none⟩)) w') : OP P (Instr.box t (.agg cs)) w K :=
  ⟨_, w.alloc (.cells cs t), by simp [Instr.box, newVar, newRow, Value.cells], k _ (ext_alloc w _) (by unfold Blk; rw [heap_alloc_new w _])⟩
/-- a store of what has no blocks at such a place -/
theorem opu_lensF {t by_ b o : Nat} {F G : List Nat} {v : Value} {x : α} {y y' : β} {upd : β → α} {u : Value} {K : World → Prop} (ht : tyI P t = some (Rep.size β, by_, Rep.agg β)) (h : Lens (MH v) F w b o G y upd)
    (hu : Mine [] w u y') (k : ∀ w' F', Chg F w w' → Mine F' w' v (upd y') → (∀ c ∈ F', c ∈ F) → K w') : OPU P (Instr.storeAt t (.pointer (some ⟨b, o, none⟩)) u) w K :=
  opu_lens ht h hu (by simp) fun w' hc ⟨F', h1, h2⟩ => k w' F' hc h1 fun c hc => by
    rcases h2 c hc with h | h
    · exact h
    · simp at h
theorem mine_int {x : Int} (h : I64 x) : Mine [] w (.int .i64 x) x := ⟨⟨_, ⟨rfl, rfl, h⟩, rfl⟩, List.nodup_nil, Wr.nil w⟩
theorem mine_str {x : ByteArray} (h : x.size ≤ maxLen) : Mine [] w (.string x) x := ⟨⟨_, ⟨rfl, rfl, h⟩, rfl⟩, List.nodup_nil, Wr.nil w⟩
theorem mine_bool {x : Bool} : Mine [] w (.bool x) x := ⟨⟨_, ⟨rfl, rfl⟩, rfl⟩, List.nodup_nil, Wr.nil w⟩
theorem Chg.sub {F G : List Nat} {a b c : World} (h : Chg F a b) (k : Chg G b c) (hs : ∀ x ∈ G, x ∈ F) : Chg F a c := h.trans (k.mono hs)
theorem rd_max {ts : Array TypeId} {ty : TypeId} {a b : Int} {K : Value → Prop} (k : K (.int .i64 (max a b))) : RD P (Builtin.max_ ts ty [Value.int .i64 a, Value.int .i64 b].toArray) w K := by
  refine rd_of (fun w' _ => ?_) k
  have : (if b > a then b else a) = max a b := by split <;> omega
  simp only [Builtin.max_, List.toList_toArray, List.foldlM_cons, List.foldlM_nil, Builtin.max2, this]
  rfl
theorem rd_min {ts : Array TypeId} {ty : TypeId} {a b : Int} {K : Value → Prop} (k : K (.int .i64 (min a b))) : RD P (Builtin.min_ ts ty [Value.int .i64 a, Value.int .i64 b].toArray) w K := by
  refine rd_of (fun w' _ => ?_) k
  have : (if b < a then b else a) = min a b := by split <;> omega
  simp only [Builtin.min_, List.toList_toArray, List.foldlM_cons, List.foldlM_nil, Builtin.min2, this]
  rfl
/-- the slice in one cell -/
theorem mine_of_rep {F : List Nat} {cs : List Value} {l : List β} (hr : rep F w cs l) (hn : F.Nodup) (hw : Wr F w) : ∃ u, cs = [u] ∧ Mine F w u l := by
  have h := hr
  obtain ⟨a, cap, Fi, xs, rfl, _⟩ := h
  exact ⟨_, rfl, ⟨_, hr, rfl⟩, hn, hw⟩
end
end Go.Sh
