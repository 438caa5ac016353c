/-
  make: rows of zeros; structs put together.
-/
import Derived.Test.YteephmhilnlkpaaGreatMk
import Derived.Test.YteephmhilnlkpaaGreatData
import Derived.Laws.Tables
namespace Go.Sh
set_option linter.unusedVariables false
set_option linter.unusedSimpArgs false
open Rep (rep)
section
variable {P : Program} {w w0 : World} {α : Type} [Rep α]
theorem cells_rep [RepZ α] {z : Value} (hz : RepZ.zc α = [z]) (w : World) : ∀ n, Cells [] w (List.replicate n z) (List.replicate n (RepZ.zv : α))
  | 0 => ⟨rfl, rfl⟩
  | n + 1 => ⟨[], [], [z], List.replicate n z, rfl, rfl, hz ▸ RepZ.zr w, cells_rep hz w n⟩
theorem made_one (z : Value) (n : Nat) : (madeCells #[z] n).toList = List.replicate n z := by
  apply List.ext_getElem
  · simp [madeCells]
  · intro i h1 h2
    simp [madeCells, Nat.mod_one]
/-- make([]T, n) of what takes one cell -/
theorem op_makeZ [RepZ α] {t e : TypeId} {by_ : Nat} {z : Value} {K : Value → World → Prop} {n : Nat} (ht : P.underlying t = some (.slice e)) (he : tyI P e = some (Rep.size α, by_, Rep.agg α)) (h1 : Rep.size α = 1) (hzc : RepZ.zc α = [z]) (hz : zeroL P e = some [z])
    (hb : by_ * n ≤ 281474976710656) (hm : n ≤ 9223372036854775807)
    (k : ∀ w', Ext w w' → RowI w.heap.size w'.heap.size e w' (.slice (some ⟨w.heap.size, 0, none⟩) n n) (List.replicate n (RepZ.zv : α)) → K (.slice (some ⟨w.heap.size, 0, none⟩) n n) w') :
    OP P (Instr.makeSlice t (.int .i64 (n : Int)) (.int .i64 (n : Int))) w K := by
  obtain ⟨i, d, hi, hd, hs, hby, hg⟩ := tyI_info he
  unfold zeroL at hz
  rw [hi] at hz
  obtain ⟨zz, hzz, hcz⟩ := Option.map_eq_some_iff.1 hz
  have hb' : (i.bytes : Int) * (n : Int) ≤ 281474976710656 := by
    have h : ((i.bytes * n : Nat) : Int) ≤ 281474976710656 := by rw [hby]; omega
    rwa [Int.natCast_mul] at h
  have hr := run_make (P := P) w t e i zz ht hi hzz .i64 .i64 n n (by omega) (Int.le_refl _) hb' (by omega)
  simp only [Int.toNat_natCast] at hr
  have hcells : zz.cells = #[z] := by apply Array.ext'; simpa using hcz
  have hlen : n * i.size = n := by rw [hs, h1, Nat.mul_one]
  rw [hcells, hlen] at hr
  refine ⟨_, _, hr, k _ (ext_alloc w _) (.inr ⟨[w.heap.size], ⟨List.replicate n z, [], ⟨?_, .inr ⟨w.heap.size, n, madeCells #[z] n, ?_, Nat.zero_le _, heap_alloc_new w _, by simp, by rw [maxLen_eq]; omega, ?_, ?_⟩⟩, cells_rep hzc _ n, rfl, Wr.nil _⟩, by simp, ?_⟩)⟩
  · simp [h1]
  · simp
  · rw [h1]; simp [madeCells]
  · rw [made_one, List.length_replicate, h1, Nat.mul_one, List.take_of_length_le (by simp)]
  · intro b hb
    simp only [List.mem_cons, List.not_mem_nil, or_false] at hb
    subst hb
    exact ⟨Nat.le_refl _, (Array.getElem?_eq_some_iff.1 (heap_alloc_new w _)).1⟩
theorem rd_build {K : Value → Prop} {t : TypeId} {parts : Array (Nat × Value)} {cells : Array Value} (h : P.built t parts.toList = some cells) (k : K (.agg cells)) : RD P (Instr.build t parts) w K :=
  rd_of (fun w' _ => run_build w' t parts cells h) k
/-- a variable of a struct type, known whole: what is read there -/
theorem rd_blkS {t by_ g e : Nat} {cs : List Value} {K : Value → Prop} (hB : Blk g e w cs) (ht : tyI P t = some (cs.length, by_, true)) (k : K (.agg cs.toArray)) : RD P (Instr.loadAt t (.pointer (some ⟨g, 0, none⟩))) w K :=
  rd_var ⟨e, cs, by_, hB, rfl, ht⟩ (Ext.refl w) k
theorem rd_blkR {t by_ g e : Nat} {cs : List Value} {K : Value → Prop} (hB : Blk g e w cs) (ht : tyI P t = some (cs.length, by_, true)) (k : K (.agg cs.toArray)) : RD P (loadRes t (.pointer (some ⟨g, 0, none⟩))) w K := by
  obtain ⟨i, d, hi, hd, hs, _, hg⟩ := tyI_info ht
  refine rd_of (fun w' hx' => ?_) k
  have := run_loadAt_mid w' g 0 t cs d (hB.ext hx').range hd hg (by simp [hi, hs])
  simpa [loadRes, asAddr, Instr.loadAt, Instr.sureAddr] using this
/-- .. what is written there whole -/
theorem opu_blkS {t by_ g e : Nat} {cs : List Value} {us : Array Value} {lo hi : Nat} {x : α} {K : World → Prop} (ht : tyI P t = some (Rep.size α, by_, true)) (ha : Rep.agg α = true) (hB : Blk g e w cs) (hl : cs.length = Rep.size α) (hu : OwnI lo hi w (.agg us) x)
    (k : ∀ w', ChgI g (g + 1) w w' → Blk g e w' us.toList → K w') : OPU P (Instr.storeAt t (.pointer (some ⟨g, 0, none⟩)) (.agg us)) w K := by
  obtain ⟨F, ⟨⟨cs', hr, hv⟩, _⟩, _⟩ := hu
  have hus : us.toList = cs' := by
    simp only [mkv, ha, cond_true, Value.agg.injEq] at hv
    rw [hv]
  have hl' := Rep.len hr
  rw [hv]
  refine opu_blk (by rw [ha]; exact ht) hB hr rfl (by omega) fun w' hc hB' => k w' (hc.toI (by simp)) ?_
  rw [hus]
  rw [List.take_zero, List.nil_append, Nat.zero_add, List.drop_of_length_le (by omega), List.append_nil] at hB'
  exact hB'
/-- .. what is written into one cell -/
theorem opu_blkC {t by_ g e o : Nat} {cs : List Value} {u : Value} {lo hi : Nat} {x : α} {K : World → Prop} (ht : tyI P t = some (1, by_, false)) (h1 : Rep.size α = 1) (ha : Rep.agg α = false) (hB : Blk g e w cs) (ho : o < cs.length) (hu : OwnI lo hi w u x)
    (k : ∀ w', ChgI g (g + 1) w w' → Blk g e w' (cs.set o u) → K w') : OPU P (Instr.storeAt t (.pointer (some ⟨g, o, none⟩)) u) w K := by
  obtain ⟨F, ⟨⟨cs', hr, hv⟩, _⟩, _⟩ := hu
  have hl' := Rep.len hr
  rw [h1] at hl'
  obtain ⟨c, rfl⟩ := List.length_eq_one_iff.1 hl'
  have huc : u = c := by simpa [mkv, ha] using hv
  subst huc
  refine opu_blk (by rw [h1, ha]; exact ht) hB hr hv (by omega) fun w' hc hB' => k w' (hc.toI (by simp)) ?_
  have : cs.set o u = cs.take o ++ [u] ++ cs.drop (o + 1) := by
    rw [List.set_eq_take_append_cons_drop, if_pos ho]; simp
  rw [this]; exact hB'
theorem Blk.chgI {g e a b : Nat} {w' : World} {cs : List Value} (h : Blk g e w cs) (hc : ChgI a b w w') (hd : g < a ∨ b ≤ g) : Blk g e w' cs := h.keep (hc.block g h.lt hd)
theorem ownI_state {a b c : Value} {s : DState} {lo hi l0 h0 l1 h1 l2 h2 : Nat} (m0 : OwnI l0 h0 w a s.vars) (m1 : OwnI l1 h1 w b s.owner) (m2 : OwnI l2 h2 w c s.stacks) (d01 : h0 ≤ l1 ∨ h1 ≤ l0) (d02 : h0 ≤ l2 ∨ h2 ≤ l0) (d12 : h1 ≤ l2 ∨ h2 ≤ l1)
    (b0 : lo ≤ l0 ∧ h0 ≤ hi) (b1 : lo ≤ l1 ∧ h1 ≤ hi) (b2 : lo ≤ l2 ∧ h2 ≤ hi) : OwnI lo hi w (.agg #[a, b, c]) s := by
  obtain ⟨F0, M0, B0⟩ := m0
  obtain ⟨F1, M1, B1⟩ := m1
  obtain ⟨F2, M2, B2⟩ := m2
  refine ⟨F0 ++ (F1 ++ F2), mine_state M0 M1 M2 ?_, fun x hx => ?_⟩
  · rw [List.nodup_append, List.nodup_append]
    refine ⟨M0.nodup, ⟨M1.nodup, M2.nodup, fun p hp q hq e => ?_⟩, fun p hp q hq e => ?_⟩
    · subst e; have := B1 p hp; have := B2 p hq; omega
    · subst e
      have := B0 p hp
      rcases List.mem_append.1 hq with hq | hq
      · have := B1 p hq; omega
      · have := B2 p hq; omega
  · rcases List.mem_append.1 hx with hx | hx
    · have := B0 x hx; omega
    · rcases List.mem_append.1 hx with hx | hx
      · have := B1 x hx; omega
      · have := B2 x hx; omega
end
end Go.Sh
