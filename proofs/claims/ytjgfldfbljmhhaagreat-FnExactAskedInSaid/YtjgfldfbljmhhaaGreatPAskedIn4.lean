/-
  Parts of the proof, put together by program.
-/
import Derived.Test.YtjgfldfbljmhhaaGreatPAskedIn3
namespace Go.Sh
set_option linter.unusedVariables false
set_option linter.unusedSimpArgs false
open Rep (rep)
section
variable {P : Program} {w w0 : World} {α : Type} [Rep α]
theorem cells_rep [RepZ α] {z : Value} (hz : RepZ.zc α = [z]) (w : World) : ∀ n, Cells [] w (List.replicate n z) (List.replicate n (RepZ.zv : α))
  | 0 => ⟨rfl, rfl⟩
  | n + 1 => ⟨[], [], [z], List.replicate n z, rfl, rfl, hz ▸ RepZ.zr w, cells_rep hz w n⟩
theorem made_one (z : Value) (n : Nat) : (madeCells #[z] n).toList = List.replicate n z := by
  apply List.ext_getElem
  · simp [madeCells]
  · intro i h1 h2
    simp [madeCells, Nat.mod_one]
/-- make([]T, n) of what takes one cell -/
theorem op_makeZ [RepZ α] {t e : TypeId} {by_ : Nat} {z : Value} {K : Value → World → Prop} {n : Nat} (ht : P.underlying t = some (.slice e)) (he : tyI P e = some (Rep.size α, by_, Rep.agg α)) (h1 : Rep.size α = 1) (hzc : RepZ.zc α = [z]) (hz : zeroL P e = some [z])
    (hb : by_ * n ≤ 281474976710656) (hm : n ≤ 9223372036854775807)
    (k : ∀ w', Ext w w' → RowI w.heap.size w'.heap.size e w' (.slice (some ⟨w.heap.size, 0, none⟩) n n) (List.replicate n (RepZ.zv : α)) → K (.slice (some ⟨w.heap.size, 0, none⟩) n n) w') :
    OP P (Instr.makeSlice t (.int .i64 (n : Int)) (.int .i64 (n : Int))) w K := by
  obtain ⟨i, d, hi, hd, hs, hby, hg⟩ := tyI_info he
  unfold zeroL at hz
  rw [hi] at hz
  obtain ⟨zz, hzz, hcz⟩ := Option.map_eq_some_iff.1 hz
  have hb' : (i.bytes : Int) * (n : Int) ≤ 281474976710656 := by
    have h : ((i.bytes * n : Nat) : Int) ≤ 281474976710656 := by rw [hby]; omega
    rwa [Int.natCast_mul] at h
  have hr := run_make (P := P) w t e i zz ht hi hzz .i64 .i64 n n (by omega) (Int.le_refl _) hb' (by omega)
  simp only [Int.toNat_natCast] at hr
  have hcells : zz.cells = #[z] := by apply Array.ext'; simpa using hcz
  have hlen : n * i.size = n := by rw [hs, h1, Nat.mul_one]
  rw [hcells, hlen] at hr
  refine ⟨_, _, hr, k _ (ext_alloc w _) (.inr ⟨[w.heap.size], ⟨List.replicate n z, [], ⟨?_, .inr ⟨w.heap.size, n, madeCells #[z] n, ?_, Nat.zero_le _, heap_alloc_new w _, by simp, by rw [maxLen_eq]; omega, ?_, ?_⟩⟩, cells_rep hzc _ n, rfl, Wr.nil _⟩, by simp, ?_⟩)⟩
  · simp [h1]
  · simp
  · rw [h1]; simp [madeCells]
  · rw [made_one, List.length_replicate, h1, Nat.mul_one, List.take_of_length_le (by simp)]
  · intro b hb
    simp only [List.mem_cons, List.not_mem_nil, or_false] at hb
    subst hb
    exact ⟨Nat.le_refl _, (Array.getElem?_eq_some_iff.1 (heap_alloc_new w _)).1⟩
theorem rd_build {K : Value → Prop} {t : TypeId} {parts : Array (Nat × Value)} {cells : Array Value} (h : P.built t parts.toList = some cells) (k : K (.agg cells)) : RD P (Instr.build t parts) w K :=
  rd_of (fun w' _ => run_build w' t parts cells h) k
/-- .. what is written into one cell -/
theorem opu_blkC {t by_ g e o : Nat} {cs : List Value} {u : Value} {lo hi : Nat} {x : α} {K : World → Prop} (ht : tyI P t = some (1, by_, false)) (h1 : Rep.size α = 1) (ha : Rep.agg α = false) (hB : Blk g e w cs) (ho : o < cs.length) (hu : OwnI lo hi w u x)
    (k : ∀ w', ChgI g (g + 1) w w' → Blk g e w' (cs.set o u) → K w') : OPU P (Instr.storeAt t (.pointer (some ⟨g, o, none⟩)) u) w K := by
  obtain ⟨F, ⟨⟨cs', hr, hv⟩, _⟩, _⟩ := hu
  have hl' := Rep.len hr
  rw [h1] at hl'
  obtain ⟨c, rfl⟩ := List.length_eq_one_iff.1 hl'
  have huc : u = c := by simpa [mkv, ha] using hv
  subst huc
  refine opu_blk (by rw [h1, ha]; exact ht) hB hr hv (by omega) fun w' hc hB' => k w' (hc.toI (by simp)) ?_
  have : cs.set o u = cs.take o ++ [u] ++ cs.drop (o + 1) := by
    rw [List.set_eq_take_append_cons_drop, if_pos ho]; simp
  rw [this]; exact hB'
theorem Blk.chgI {g e a b : Nat} {w' : World} {cs : List Value} (h : Blk g e w cs) (hc : ChgI a b w w') (hd : g < a ∨ b ≤ g) : Blk g e w' cs := h.keep (hc.block g h.lt hd)
end
end Go.Sh
namespace Go.Sh
set_option linter.unusedVariables false
set_option linter.unusedSimpArgs false
set_option linter.unusedSectionVars false
open Rep (rep)
/-- a row, or a slice that holds nothing and has no room -/
def RowG {α : Type} [Rep α] (F : List Nat) (e : TypeId) (w : World) (v : Value) (l : List α) : Prop := (∃ a, v = .slice a 0 0 ∧ l = [] ∧ F = []) ∨ RowF F e w v l
section
variable {P : Program} {w w0 w' : World} {α β γ : Type} [Rep α] [Rep β] {e lo hi : Nat} {v : Value} {l : List α} {F : List Nat}
theorem RowG.lt (h : RowG F e w v l) : ∀ b ∈ F, b < w.heap.size := by
  rcases h with ⟨a, _, _, rfl⟩ | h
  · simp
  · exact h.lt
theorem RowG.keep (h : RowG F e w v l) (hk : ∀ b ∈ F, w'.heap[b]? = w.heap[b]?) : RowG F e w' v l := by
  rcases h with h | h
  · exact .inl h
  · exact .inr (h.keep hk)
theorem RowG.own (h : RowG F e w v l) : OwnF F w v l := by
  rcases h with ⟨a, rfl, rfl, rfl⟩ | h
  · exact ⟨_, ⟨a, 0, [], [], rfl, Nat.le_refl _, Nat.zero_le _, ⟨rfl, rfl⟩, .inl ⟨rfl, rfl⟩⟩, rfl⟩
  · exact h.own
theorem RowG.wr (h : RowG F e w v l) : Wr F w := by
  rcases h with ⟨a, _, _, rfl⟩ | h
  · exact Wr.nil w
  · exact h.wr
theorem RowG.one (h : RowG F e w v l) : v.oneCell' = true := by
  obtain ⟨cs, ⟨a, cap, Fi, xs, rfl, _⟩, rfl⟩ := h.own
  rfl
theorem rowI_iff : RowI lo hi e w v l ↔ ∃ F, RowG F e w v l ∧ F.Nodup ∧ ∀ b ∈ F, lo ≤ b ∧ b < hi := by
  constructor
  · rintro (⟨a, h1, h2⟩ | ⟨F, h1, h2, h3⟩)
    · exact ⟨[], .inl ⟨a, h1, h2, rfl⟩, List.nodup_nil, by simp⟩
    · exact ⟨F, .inr h1, h2, h3⟩
  · rintro ⟨F, (⟨a, h1, h2, _⟩ | h1), h2', h3⟩
    · exact .inl ⟨a, h1, h2⟩
    · exact .inr ⟨F, h1, h2', h3⟩
end
/-- a slice that is appended to, with its value -/
structure RV (α : Type) (e : TypeId) where
  v : Value
  l : List α
instance {α : Type} [Rep α] {e : TypeId} : Rep (RV α e) where
  size := 1
  agg := false
  rep F w cs x := cs = [x.v] ∧ RowG F e w x.v x.l
  pos := by decide
  sz _ := rfl
  len := by rintro _ _ _ _ ⟨rfl, _⟩; rfl
  one := by rintro _ _ _ _ ⟨rfl, h⟩ v hv; simp at hv; subst hv; exact h.one
  keep := by rintro _ _ _ _ _ ⟨rfl, h⟩ hk; exact ⟨rfl, h.keep hk⟩
  lt := by rintro _ _ _ _ ⟨rfl, h⟩; exact h.lt
section
variable {P : Program} {w w0 w' : World} {α β γ : Type} [Rep α] [Rep β] {e lo hi : Nat} {v : Value} {l : List α} {F : List Nat}
instance : RepZ (RV α e) := ⟨⟨.slice none 0 0, []⟩, [.slice none 0 0], fun _ => ⟨rfl, .inl ⟨none, rfl, rfl, rfl⟩⟩⟩
end
end Go.Sh
namespace Go.Sh
set_option linter.unusedVariables false
open Rep (rep)
abbrev RInts := RV Int 3
abbrev RIntss := RV RInts 23
structure DStV where
  vars : List Int
  owner : List Int
  stacks : RIntss
theorem DStV.ext_iff {x y : DStV} : x = y ↔ (x.vars = y.vars ∧ x.owner = y.owner ∧ x.stacks = y.stacks) := ⟨fun h => by rw [h]; exact ⟨rfl, rfl, rfl⟩, fun h => by obtain ⟨h0, h1, h2⟩ := h; cases x; cases y; simp only at h0 h1 h2; simp only [h0, h1, h2]⟩
instance : Rep DStV := Rep.via fun x => (x.vars, x.owner, x.stacks)
instance : RepZ DStV := ⟨⟨(RepZ.zv : List Int), (RepZ.zv : List Int), (RepZ.zv : RIntss)⟩, RepZ.zc ((List Int) × (List Int) × RIntss), fun w => RepZ.zr (α := (List Int) × (List Int) × RIntss) w⟩
section
variable {w : World}
end
end Go.Sh
namespace Go.Proofs.YtjgfldfbljmhhaaGreat
open Go Go.Sh Go.Proofs
set_option linter.unusedVariables false
set_option linter.unusedVariables false
set_option linter.unusedSimpArgs false
end Go.Proofs.YtjgfldfbljmhhaaGreat
namespace Go.Sh
set_option linter.unusedVariables false
set_option linter.unusedSimpArgs false
set_option linter.unusedSectionVars false
open Rep (rep)
/-- a cell as it is -/
structure Raw where
  v : Value
instance : Rep Raw where
  size := 1
  agg := false
  rep F _ cs x := F = [] ∧ cs = [x.v] ∧ x.v.oneCell' = true
  pos := by decide
  sz _ := rfl
  len := by rintro _ _ _ _ ⟨_, rfl, _⟩; rfl
  one := by rintro _ _ _ _ ⟨_, rfl, h⟩ v hv; simp at hv; subst hv; exact h
  keep := by rintro _ _ _ _ _ h _; exact h
  lt := by rintro _ _ _ _ ⟨rfl, _⟩ b hb; cases hb
section
variable {P : Program} {w w0 w' w1 : World} {α β γ : Type} [Rep α] [Rep β] {e lo hi : Nat} {v : Value} {F G S : List Nat} {b o g : Nat}
theorem ChgAt.ext_left {n : Nat} (hx : Ext w w1) (h : ChgAt b o n G w1 w') : ChgAt b o n G w w' :=
  ⟨(hx.chg _).trans h.chg, fun c e hc => h.cell c e (by rw [hx.heap (Array.getElem?_eq_some_iff.1 hc).1]; exact hc)⟩
theorem OAt.ext {x : α} (h : OAt G w b o x) (hx : Ext w w1) : OAt G w1 b o x := h.keep fun c hc => hx.heap (h.lts c hc)
/-- a place stays while the world grows -/
theorem Lens.ext {H : List Nat → World → γ → Prop} {y : β} {upd : β → γ} (h : Lens H S w b o G y upd) (hx : Ext w w1) : Lens H S w1 b o G y upd :=
  ⟨h.here.ext hx, h.sub, fun w' G' y' hch hO hs => h.back w' G' y' (hch.ext_left hx) hO hs⟩
theorem VarI.mono {lo' hi' : Nat} {x : α} (h : VarI lo hi w g x) (h1 : lo' ≤ lo) (h2 : hi ≤ hi') : VarI lo' hi' w g x := by
  obtain ⟨F, h, hF⟩ := h; exact ⟨F, h, fun b hb => by have := hF b hb; omega⟩
/-- append(v, x), told by the blocks -/
theorem op_pushB {t ty : TypeId} {by_ : Nat} {u : Value} {x : β} {l : List β} {GX : List Nat} {K : World → Value → World → Prop} {C : Value → World → Prop} (ht : P.underlying t = some (.slice e)) (he : tyI P e = some (Rep.size β, by_, Rep.agg β)) (hz : zeroOf P e = true)
    (hzc : (P.info? e).map (fun i => (i.zero.map (·.cells.size))) = some (some (Rep.size β))) (hsz : Rep.size β ≤ 1000) (hv : RowG G e w v l) (hn : G.Nodup) (hx : Mine GX w u x) (hd : ∀ c ∈ GX, c ∉ G) (hm : l.length + 1 ≤ maxLen) (hb : (l.length + 1) * by_ ≤ 140737488355328)
    (k : ∀ w1 v' w' G', Ext w w1 → Chg G w1 w' → RowG G' e w' v' (l ++ [x]) → G'.Nodup → (∀ c ∈ G', c ∈ G ∨ c ∈ GX ∨ w.heap.size ≤ c) → K w1 v' w')
    (hC : ∀ s w1, Ext w w1 → OP P (Builtin.append_ #[t, t] ty [v, s].toArray) w1 (K w1) → C s w1) : OP P (Instr.buildSlice t 1 #[(0, u)]) w C := by
  refine op_build1 ht he hz hsz hx fun w1 hx1 hm1 => ?_
  obtain ⟨⟨cs, ⟨a, cap, Fi, xs, rfl, h1, h2, hc, h4⟩, hveq⟩, hn1, hw1⟩ := hm1
  simp only [mkv, Rep.agg, cond_false, List.headD_cons, Value.slice.injEq, List.length_cons, List.length_nil] at hveq
  obtain ⟨rfl, _, rfl⟩ := hveq
  rcases h4 with ⟨h4, _⟩ | ⟨b, o, hab, hFe, hra, hbl⟩
  · simp at h4
  simp only [List.cons.injEq] at hFe
  obtain ⟨_, rfl⟩ := hFe
  refine hC _ w1 hx1 ?_
  have key : ∀ (v : Value) (F : List Nat), RowF F e w v l → F.Nodup → (∀ c ∈ F, c ∈ G) → OP P (Builtin.append_ #[t, t] ty [v, .slice (some ⟨w.heap.size, 0, none⟩) 1 1].toArray) w1 (K w1) := by
    intro v F hF hFn hFG
    have hF1 := hF.ext hx1
    have hdd : (GX ++ F).Nodup := by
      rw [List.nodup_append]
      exact ⟨hx.nodup, hFn, fun p hp q hq e => hd p hp (hFG _ (e ▸ hq))⟩
    refine op_append (m := [x]) ht he hzc hF1 hFn rfl hc (.inr ⟨b, o, hab, hra⟩) (hw1.sub (by simp +contextual)) hdd (by simpa using hm) (by simpa using hb) fun v' w' F' hch hfull hr' hn' hs' => ?_
    have hown : ∀ c ∈ v.ownBlock.toList, c ∈ G := fun c hc => by
      obtain ⟨xs, Fi, _, _, rfl, _⟩ := hF
      exact hFG c (by simp only [List.mem_append]; exact .inl hc)
    refine k w1 v' w' F' hx1 (hch.mono hown) (.inr hr') hn' fun c hc => ?_
    rcases hs' c hc with h | h | h
    · exact .inl (hFG c h)
    · exact .inr (.inl h)
    · exact .inr (.inr (Nat.le_trans hx1.size h))
  rcases hv with ⟨a0, rfl, rfl, rfl⟩ | hF
  · have kn := key (.slice none 0 0) [] (rowF_none e w) List.nodup_nil (by simp)
    cases a0 with
    | none => exact kn
    | some x0 =>
      simp only [Option.some.injEq, Addr.mk.injEq] at hab
      obtain ⟨rfl, rfl, _⟩ := hab
      exact op_of_eq (append_zcap (α := β) (n := 1) ht he hzc (by simpa using Cells.len hc) hra (by omega) (by rw [maxLen_eq]; omega) (by simpa using hb)) kn
  · exact key v G hF hn (fun _ h => h)
/-- a literal of one element without blocks: a row -/
theorem op_build1R [Flat β] {t : TypeId} {by_ : Nat} {u : Value} {x : β} {K : Value → World → Prop} (ht : P.underlying t = some (.slice e)) (he : tyI P e = some (Rep.size β, by_, Rep.agg β)) (hz : zeroOf P e = true) (hsz : Rep.size β ≤ 1000) (hx : Mine [] w u x)
    (k : ∀ v w', Ext w w' → RowI w.heap.size w'.heap.size e w' v [x] → K v w') : OP P (Instr.buildSlice t 1 #[(0, u)]) w K := by
  obtain ⟨⟨cs, hr, rfl⟩, hn, hw⟩ := hx
  have hcl := mkv_cells hr
  have hlen := Rep.len hr
  have hvs : (mkv β cs).cells.size = Rep.size β := by rw [← Array.length_toList, hcl, hlen]
  obtain ⟨i, d, hi, hd, hs, hby, hg⟩ := tyI_info he
  unfold zeroOf at hz
  rw [hi] at hz
  obtain ⟨z, hz⟩ := Option.isSome_iff_exists.1 hz
  have hpos := Rep.pos (α := β)
  refine ⟨_, w.alloc (.cells (mkv β cs).cells e), ?_, k (.slice (some ⟨w.heap.size, 0, none⟩) 1 1) _ (ext_alloc w _) (.inr ⟨[w.heap.size], ⟨cs, [], ⟨by simp [hlen], .inr ⟨w.heap.size, 1, (mkv β cs).cells, rfl, Nat.zero_le _, heap_alloc_new w _, Nat.le_refl _, by rw [maxLen_eq]; omega, by rw [hvs, Nat.one_mul], ?_⟩⟩, Cells.single (rep_ext hr (ext_alloc w _)), rfl, Wr.nil _⟩, by simp, ?_⟩)⟩
  · have hne : ¬ Rep.size β = 0 := by omega
    have h24 : ¬ 2 ^ 24 < Rep.size β := by omega
    simp only [Instr.buildSlice, Sem.run_bind, run_underlying ht, Result.andThen_ok, run_sizeOf' he, Nat.one_mul]
    simp [h24, hne, zeroValue, typeInfo, hi, hz, fill_one _ _ _ hvs, newRow]
  · rw [hcl, List.length_singleton, Nat.one_mul, List.take_of_length_le (by omega)]
  · intro b hb
    simp only [List.mem_cons, List.not_mem_nil, or_false] at hb
    subst hb
    exact ⟨Nat.le_refl _, (Array.getElem?_eq_some_iff.1 (heap_alloc_new w _)).1⟩
end
end Go.Sh
namespace Go.Proofs.YtjgfldfbljmhhaaGreat
open Go Go.Sh Go.Proofs
set_option linter.unusedVariables false
set_option linter.unusedVariables false
set_option linter.unusedSimpArgs false
theorem main_lt {c : DCode} (hc : CodeR c) : 0 ≤ plc mainS c.procs ∧ (plc mainS c.procs).toNat < c.entry.length := by
  have h1 := plc_iff.2 hc.1.2.2.2.2.2.2
  have h2 := plc_lt (s := mainS) (l := c.procs)
  have h3 := hc.2.1.1
  omega
/-- spec.l14Main -/
def F188 (a0 : Value) (w : World) (R : Value → World → Prop) : Prop :=
  OP Tryz.prog (Instr.box 35 a0) w fun x1 w =>
  RD Tryz.prog (Instr.fieldAt 35 x1 2) w fun x3 =>
  RD Tryz.prog (Instr.loadAt 22 x3) w fun x4 =>
  CALL Tryz.prog 204 [x4, (Value.string (ByteArray.mk #[109, 97, 105, 110]))] w fun x5 w =>
  R x5 w
def cfg188 : Cfg := { ext := extL, joins := [], loops := [], draws := [], pars := [] }
theorem F188_eq (a0 : Value) (w : World) (R : Value → World → Prop) : vcF Tryz.prog cfg188 Tryz.f188 [a0] w R = F188 a0 w R := by kernel_rfl
theorem F188_call {a0 : Value} {w : World} {R : Value → World → Prop} (h : F188 a0 w R) : CALL Tryz.prog 188 [a0] w R :=
  call_of (g := cfg188) ent mixed Tryz.func188 (Nat.le_of_ble_eq_true (by kernel_rfl)) (by kernel_rfl) (F188_eq a0 w R ▸ h)
theorem l14Main_ok {w : World} {v0 : Value} {W0 : World} {c : DCode}  (h0 : Is W0 v0 c) (e0 : Ext W0 w)  :
    CALL Tryz.prog 188 [v0] w fun r w' => Ext w w' ∧ (r = .int .i64 (plc mainS c.procs)) := by
  refine F188_call ?_
  unfold F188
  refine op_boxS ty35 rfl h0 e0 fun w1_ hx1_ hA1 hV1 => ?_
  refine rd_fld fd35_2 ?_
  refine rd_load ty22 (at_DCode_2 hA1) (Ext.refl w1_) fun v4 h4 => ?_
  refine (specPlaceOf_ok h4 (Ext.refl w1_)).mono ?_
  rintro _ w2_ ⟨hx2_, rfl⟩
  refine ⟨(hx1_.trans hx2_), ?_⟩
  rfl
end Go.Proofs.YtjgfldfbljmhhaaGreat
namespace Go.Proofs.YtjgfldfbljmhhaaGreat
open Go Go.Sh Go.Proofs
set_option linter.unusedVariables false
set_option linter.unusedSimpArgs false
theorem mem_set {α : Type} {l : List α} {i : Nat} {x y : α} (h : y ∈ l.set i x) : y = x ∨ y ∈ l := by
  rcases List.mem_or_eq_of_mem_set h with h | h
  · exact .inr h
  · exact .inl h
/-- the place behind one that is no end lies in the same procedure -/
theorem proc_next {c : DCode} (hc : CodeR c) {a : Int} (h0 : 0 ≤ a) (h1 : a < c.ins.length) (ho : (insAt c a.toNat).op ≠ 9) : a + 1 < c.ins.length ∧ procOf c (a + 1) = procOf c a := by
  obtain ⟨i, hi, h2, h3, h4⟩ := hc.f.find hc.1.procs8.2 h0 h1
  have h5 := (hc.2.1.2.2.2 a.toNat (by omega))
  rw [Int.toNat_of_nonneg h0, h4, endOf_eq] at h5
  have h6 : endB c i - 1 ≠ a := fun e => ho (h5.2 e)
  have h7 := (hc.f.lt i hi).2
  exact ⟨by omega, by rw [h4]; exact hc.f.proc hi (by omega) (by omega)⟩
/-- where a jump leads lies in the same procedure -/
theorem proc_to {c : DCode} (hc : CodeR c) {a : Int} (h0 : 0 ≤ a) (h1 : a < c.ins.length) (ho : (insAt c a.toNat).op = 2 ∨ (insAt c a.toNat).op = 3) :
    0 ≤ (insAt c a.toNat).to ∧ (insAt c a.toNat).to < c.ins.length ∧ procOf c (insAt c a.toNat).to = procOf c a := by
  obtain ⟨i, hi, h2, h3, h4⟩ := hc.f.find hc.1.procs8.2 h0 h1
  have h5 := (ins_right hc (j := a.toNat) (by omega)).2.2.2
  rw [if_pos ho, Int.toNat_of_nonneg h0, h4, endOf_eq, Int.toNat_natCast] at h5
  have h6 := hc.f.nonneg hi
  have h7 := (hc.f.lt i hi).2
  exact ⟨by omega, by omega, by rw [h4]; exact hc.f.proc hi h5.1 (by omega)⟩
theorem proc_en {c : DCode} (hc : CodeR c) {i : Nat} (hi : i < c.entry.length) : 0 ≤ en c i ∧ en c i < c.ins.length ∧ procOf c (en c i) = i := by
  have h6 := hc.f.nonneg hi
  have h7 := hc.f.lt i hi
  exact ⟨h6, by omega, hc.f.proc hi (Int.le_refl _) h7.1⟩
end Go.Proofs.YtjgfldfbljmhhaaGreat
namespace Go.Sh
set_option linter.unusedVariables false
/-- numbers as the program's -/
def ints (l : List Nat) : List Int := l.map fun x : Nat => (x : Int)
theorem ints_len (l : List Nat) : (ints l).length = l.length := by simp [ints]
theorem ints_get {l : List Nat} {i : Nat} (h : i < (ints l).length) : (ints l)[i] = ((l[i]'(by rw [← ints_len]; exact h) : Nat) : Int) := by simp [ints]
theorem ints_append (l m : List Nat) : ints (l ++ m) = ints l ++ ints m := by simp [ints]
theorem ints_take (l : List Nat) (k : Nat) : ints (l.take k) = (ints l).take k := by simp [ints]
/-- is it marked? -/
def mkd (ms : List Bool) (i : Nat) : Prop := ms.getD i false = true
theorem mkd_get {ms : List Bool} {i : Nat} (h : i < ms.length) : mkd ms i ↔ ms[i] = true := by
  unfold mkd; rw [List.getD_eq_getElem?_getD, List.getElem?_eq_getElem h]; rfl
theorem mkd_lt {ms : List Bool} {i : Nat} (h : mkd ms i) : i < ms.length := by
  rcases Nat.lt_or_ge i ms.length with h' | h'
  · exact h'
  · unfold mkd at h; rw [List.getD_eq_getElem?_getD, List.getElem?_eq_none h'] at h; cases h
theorem mkd_set {ms : List Bool} {i j : Nat} (hi : i < ms.length) : mkd (ms.set i true) j ↔ mkd ms j ∨ j = i := by
  unfold mkd
  rw [List.getD_eq_getElem?_getD, List.getD_eq_getElem?_getD, List.getElem?_set]
  by_cases h : i = j
  · subst h; simp [hi]
  · have : ¬ j = i := fun e => h e.symm
    simp [h, this]
theorem mkd_replicate {n i : Nat} : ¬ mkd (List.replicate n false) i := by
  unfold mkd
  rw [List.getD_eq_getElem?_getD, List.getElem?_replicate]
  split <;> simp
theorem marks_ext {ms ns : List Bool} (hl : ms.length = ns.length) (h : ∀ i, i < ms.length → (mkd ms i ↔ mkd ns i)) : ms = ns := by
  refine List.ext_getElem hl fun i h1 h2 => ?_
  have := h i h1
  rw [mkd_get h1, mkd_get h2] at this
  cases e1 : ms[i] <;> cases e2 : ns[i] <;> simp_all
def cntM (ms : List Bool) : Nat := ms.count true
theorem cntM_le (ms : List Bool) : cntM ms ≤ ms.length := List.count_le_length
theorem cntM_set : ∀ {ms : List Bool} {i : Nat}, i < ms.length → ¬ mkd ms i → cntM (ms.set i true) = cntM ms + 1
  | b :: ms, 0, _, h => by
    have : b = false := by cases b <;> simp_all [mkd]
    subst this
    simp [cntM]
  | b :: ms, i + 1, hi, h => by
    have ih := cntM_set (ms := ms) (i := i) (by simpa using hi) (by simpa [mkd] using h)
    simp only [cntM, List.set_cons_succ, List.count_cons] at ih ⊢
    omega
/-- met by one step or more -/
inductive RP (nx : Nat → List Nat) (a : Nat) : Nat → Prop
  | one {b : Nat} (h : b ∈ nx a) : RP nx a b
  | more {b d : Nat} (h : RP nx a b) (k : d ∈ nx b) : RP nx a d
theorem RP.trans {nx : Nat → List Nat} {a b d : Nat} (h : RP nx a b) (k : RP nx b d) : RP nx a d := by
  induction k with
  | one h1 => exact .more h h1
  | more _ h2 ih => exact .more ih h2
theorem RP.keeps {nx : Nat → List Nat} {p : Nat → Prop} {a b : Nat} (h : RP nx a b) (ha : p a) (hp : ∀ i j, p i → j ∈ nx i → p j) : p b := by
  induction h with
  | one h => exact hp _ _ ha h
  | more _ h ih => exact hp _ _ ih h
structure SInv (nx : Nat → List Nat) (n a : Nat) (M0 ms : List Bool) (td : List Nat) (k : Nat) : Prop where
  len : ms.length = n
  sub : ∀ i, mkd M0 i → mkd ms i
  src : ∀ i, mkd ms i → mkd M0 i ∨ RP nx a i
  tdo : ∀ i ∈ td, (i = a ∨ RP nx a i) ∧ i < n
  clo : ∀ i, (i = a ∨ (mkd ms i ∧ ¬ mkd M0 i)) → i ∈ td ∨ ∀ j ∈ nx i, mkd ms j
  cnt : td.length + k + cntM M0 = 1 + cntM ms
/-- inside a round: q of x's steps are done -/
structure SIn2 (nx : Nat → List Nat) (n a : Nat) (M0 ms : List Bool) (td : List Nat) (k x q : Nat) : Prop where
  len : ms.length = n
  sub : ∀ i, mkd M0 i → mkd ms i
  src : ∀ i, mkd ms i → mkd M0 i ∨ RP nx a i
  tdo : ∀ i ∈ td, (i = a ∨ RP nx a i) ∧ i < n
  clo : ∀ i, (i = a ∨ (mkd ms i ∧ ¬ mkd M0 i)) → i ∈ td ∨ (i = x ∧ ∀ j ∈ (nx x).take q, mkd ms j) ∨ ∀ j ∈ nx i, mkd ms j
  cnt : td.length + k + 1 + cntM M0 = 1 + cntM ms
  met : x = a ∨ RP nx a x
section
variable {nx : Nat → List Nat} {n a k x q : Nat} {M0 ms : List Bool} {td td' : List Nat}
theorem SInv.start (hl : M0.length = n) (ha : a < n) : SInv nx n a M0 M0 [a] 0 :=
  ⟨hl, fun _ h => h, fun _ h => .inl h, fun i hi => by simp only [List.mem_cons, List.not_mem_nil, or_false] at hi; exact ⟨.inl hi, hi ▸ ha⟩, fun i hi => by
    rcases hi with rfl | ⟨h1, h2⟩
    · exact .inl (by simp)
    · exact absurd h1 h2, by simp⟩
theorem SInv.bound (h : SInv nx n a M0 ms td k) : td.length + k ≤ 1 + n := by
  have h1 := h.cnt
  have h2 := cntM_le ms
  rw [h.len] at h2
  omega
theorem SInv.pop (h : SInv nx n a M0 ms td k) (hm : ∀ i, i ∈ td ↔ i ∈ td' ∨ i = x) (hl : td.length = td'.length + 1) : SIn2 nx n a M0 ms td' k x 0 :=
  ⟨h.len, h.sub, h.src, fun i hi => h.tdo i ((hm i).2 (.inl hi)), fun i hi => by
    rcases h.clo i hi with h1 | h1
    · rcases (hm i).1 h1 with h1 | rfl
      · exact .inl h1
      · exact .inr (.inl ⟨rfl, by simp⟩)
    · exact .inr (.inr h1), by have := h.cnt; omega, (h.tdo x ((hm x).2 (.inr rfl))).1⟩
theorem SIn2.skip (h : SIn2 nx n a M0 ms td k x q) (hq : q < (nx x).length) (hmk : mkd ms (nx x)[q]) : SIn2 nx n a M0 ms td k x (q + 1) :=
  ⟨h.len, h.sub, h.src, h.tdo, fun i hi => by
    rcases h.clo i hi with h1 | ⟨rfl, h1⟩ | h1
    · exact .inl h1
    · refine .inr (.inl ⟨rfl, fun j hj => ?_⟩)
      rw [List.take_succ_eq_append_getElem hq] at hj
      rcases List.mem_append.1 hj with hj | hj
      · exact h1 j hj
      · simp only [List.mem_cons, List.not_mem_nil, or_false] at hj
        rw [hj]; exact hmk
    · exact .inr (.inr h1), h.cnt, h.met⟩
theorem SIn2.push (h : SIn2 nx n a M0 ms td k x q) (hq : q < (nx x).length) (hn : (nx x)[q] < n) (hmk : ¬ mkd ms (nx x)[q]) : SIn2 nx n a M0 (ms.set (nx x)[q] true) (td ++ [(nx x)[q]]) k x (q + 1) := by
  have hs := fun j => mkd_set (ms := ms) (i := (nx x)[q]) (j := j) (by rw [h.len]; exact hn)
  have hr : RP nx a (nx x)[q] := by
    rcases h.met with e | e
    · exact .one (e ▸ List.getElem_mem hq)
    · exact .more e (List.getElem_mem hq)
  refine ⟨by simp [h.len], fun i hi => (hs i).2 (.inl (h.sub i hi)), fun i hi => ?_, fun i hi => ?_, fun i hi => ?_, ?_, h.met⟩
  · rcases (hs i).1 hi with h1 | h1
    · exact h.src i h1
    · exact .inr (h1 ▸ hr)
  · rcases List.mem_append.1 hi with h1 | h1
    · exact h.tdo i h1
    · simp only [List.mem_cons, List.not_mem_nil, or_false] at h1
      exact ⟨.inr (h1 ▸ hr), h1 ▸ hn⟩
  · have hi' : i = (nx x)[q] ∨ (i = a ∨ (mkd ms i ∧ ¬ mkd M0 i)) := by
      rcases hi with h1 | ⟨h1, h2⟩
      · exact .inr (.inl h1)
      · rcases (hs i).1 h1 with h1 | h1
        · exact .inr (.inr ⟨h1, h2⟩)
        · exact .inl h1
    rcases hi' with h1 | h1
    · exact .inl (List.mem_append_right _ (by simp [h1]))
    · rcases h.clo i h1 with h1 | ⟨rfl, h1⟩ | h1
      · exact .inl (List.mem_append_left _ h1)
      · refine .inr (.inl ⟨rfl, fun j hj => ?_⟩)
        rw [List.take_succ_eq_append_getElem hq] at hj
        rcases List.mem_append.1 hj with hj | hj
        · exact (hs j).2 (.inl (h1 j hj))
        · simp only [List.mem_cons, List.not_mem_nil, or_false] at hj
          exact (hs j).2 (.inr hj)
      · exact .inr (.inr fun j hj => (hs j).2 (.inl (h1 j hj)))
  · have := h.cnt
    rw [cntM_set (by rw [h.len]; exact hn) hmk, List.length_append]
    simp only [List.length_cons, List.length_nil]
    omega
theorem SIn2.done (h : SIn2 nx n a M0 ms td k x q) (hq : (nx x).length ≤ q) : SInv nx n a M0 ms td (k + 1) :=
  ⟨h.len, h.sub, h.src, h.tdo, fun i hi => by
    rcases h.clo i hi with h1 | ⟨rfl, h1⟩ | h1
    · exact .inl h1
    · rw [List.take_of_length_le hq] at h1; exact .inr h1
    · exact .inr h1, by have := h.cnt; omega⟩
theorem SInv.fin (h : SInv nx n a M0 ms [] k) (hc : ∀ i, mkd M0 i → i ≠ a → ∀ j ∈ nx i, mkd M0 j) (i : Nat) : mkd ms i ↔ mkd M0 i ∨ RP nx a i := by
  refine ⟨h.src i, fun hi => ?_⟩
  rcases hi with hi | hi
  · exact h.sub i hi
  have hcl : ∀ b, (b = a ∨ mkd ms b) → ∀ j ∈ nx b, mkd ms j := fun b hb => by
    by_cases hba : b = a
    · rcases h.clo b (.inl hba) with h1 | h1
      · cases h1
      · exact h1
    · have hb := hb.resolve_left hba
      by_cases hm : mkd M0 b
      · exact fun j hj => h.sub j (hc b hm hba j hj)
      · rcases h.clo b (.inr ⟨hb, hm⟩) with h1 | h1
        · cases h1
        · exact h1
  induction hi with
  | one h1 => exact hcl a (.inl rfl) _ h1
  | more _ h2 ih => exact hcl _ (.inr ih) _ h2
end
/-- the marks of those below n that p holds of -/
noncomputable def setB (n : Nat) (p : Nat → Prop) : List Bool := (List.range n).map fun i => @decide (p i) (Classical.propDecidable _)
/-- those below n that p holds of -/
noncomputable def setL (n : Nat) (p : Nat → Prop) : List Nat := (List.range n).filter fun i => @decide (p i) (Classical.propDecidable _)
/-- the same by bits -/
noncomputable def setN (p : Nat → Prop) : Nat → Nat
  | 0 => 0
  | n + 1 => setN p n ||| (if @decide (p n) (Classical.propDecidable _) then 2 ^ n else 0)
section
variable {n : Nat} {p q : Nat → Prop}
theorem setB_len : (setB n p).length = n := by simp [setB]
theorem mkd_setB {i : Nat} : mkd (setB n p) i ↔ i < n ∧ p i := by
  constructor
  · intro h
    have hl := mkd_lt h
    rw [mkd_get hl] at h
    rw [setB_len] at hl
    refine ⟨hl, ?_⟩
    simpa [setB] using h
  · rintro ⟨h1, h2⟩
    rw [mkd_get (by rw [setB_len]; exact h1)]
    simpa [setB] using h2
theorem marks_setB {ms : List Bool} (hl : ms.length = n) (h : ∀ i, i < n → (mkd ms i ↔ p i)) : ms = setB n p :=
  marks_ext (by rw [hl, setB_len]) fun i hi => by
    rw [mkd_setB, h i (hl ▸ hi)]
    exact ⟨fun h => ⟨hl ▸ hi, h⟩, fun h => h.2⟩
theorem setB_congr (h : ∀ i, i < n → (p i ↔ q i)) : setB n p = setB n q := marks_setB setB_len fun i hi => by rw [mkd_setB, ← h i hi]; exact ⟨fun h => h.2, fun h => ⟨hi, h⟩⟩
theorem mem_setL {i : Nat} : i ∈ setL n p ↔ i < n ∧ p i := by simp [setL]
theorem setL_succ : setL (n + 1) p = setL n p ++ (if @decide (p n) (Classical.propDecidable _) then [n] else []) := by
  simp only [setL, List.range_succ, List.filter_append, List.filter_cons, List.filter_nil]
theorem setL_yes (h : p n) : setL (n + 1) p = setL n p ++ [n] := by rw [setL_succ]; simp [h]
theorem setL_no (h : ¬ p n) : setL (n + 1) p = setL n p := by rw [setL_succ]; simp [h]
theorem setL_len : (setL n p).length ≤ n := Nat.le_trans (List.length_filter_le _ _) (by simp)
theorem setN_bit {i : Nat} : (setN p n).testBit i = true ↔ i < n ∧ p i := by
  induction n with
  | zero => simp [setN]
  | succ n ih =>
    rw [setN, Nat.testBit_or, Bool.or_eq_true, ih]
    by_cases hp : p n
    · simp only [hp, decide_true, if_true, Nat.testBit_two_pow, decide_eq_true_eq]
      constructor
      · rintro (⟨h1, h2⟩ | rfl)
        · exact ⟨by omega, h2⟩
        · exact ⟨by omega, hp⟩
      · rintro ⟨h1, h2⟩
        rcases Nat.lt_or_eq_of_le (Nat.lt_succ_iff.1 h1) with h | h
        · exact .inl ⟨h, h2⟩
        · exact .inr h.symm
    · simp only [hp, decide_false, Bool.false_eq_true, if_false, Nat.zero_testBit, or_false]
      constructor
      · rintro ⟨h1, h2⟩; exact ⟨by omega, h2⟩
      · rintro ⟨h1, h2⟩
        rcases Nat.lt_or_eq_of_le (Nat.lt_succ_iff.1 h1) with h | h
        · exact ⟨h, h2⟩
        · exact absurd (h ▸ h2) hp
theorem setN_lt : setN p n < 2 ^ n := by
  refine Nat.lt_pow_two_of_testBit _ fun i hi => ?_
  cases h : (setN p n).testBit i
  · rfl
  · have := (setN_bit.1 h).1; omega
theorem eq_setN {m : Nat} (h : ∀ i, m.testBit i = true ↔ i < n ∧ p i) : m = setN p n :=
  Nat.eq_of_testBit_eq fun i => by
    have h1 := h i
    rw [← setN_bit] at h1
    cases e1 : m.testBit i <;> cases e2 : (setN p n).testBit i <;> simp_all
theorem setN_congr (h : ∀ i, i < n → (p i ↔ q i)) : setN p n = setN q n := eq_setN fun i => by
  rw [setN_bit]
  exact ⟨fun ⟨h1, h2⟩ => ⟨h1, (h i h1).1 h2⟩, fun ⟨h1, h2⟩ => ⟨h1, (h i h1).2 h2⟩⟩
end
end Go.Sh
namespace Go.Proofs.YtjgfldfbljmhhaaGreat
open Go Go.Sh Go.Proofs
set_option linter.unusedVariables false
/-- (*impl.world).nextIn -/
def F135 (a0 a1 : Value) (w : World) (R : Value → World → Prop) : Prop :=
  NIL a0 <|
  RD Tryz.prog (Instr.fieldAt 144 a0 0) w fun x8 =>
  RD Tryz.prog (Instr.fieldAt 35 x8 4) w fun x9 =>
  RD Tryz.prog (Instr.loadAt 33 x9) w fun x10 =>
  RD Tryz.prog (Instr.indexAt 33 x10 a1) w fun x12 =>
  RD Tryz.prog (Instr.loadAt 136 x12) w fun x13 =>
  OP Tryz.prog (Instr.alloc 136 true (.tuple #[])) w fun x5 w =>
  OPU Tryz.prog (Instr.storeAt 136 x5 x13) w fun w =>
  RD Tryz.prog (Instr.fieldAt 136 x5 0) w fun x14 =>
  RD Tryz.prog (Instr.loadAt 3 x14) w fun x15 =>
  RD Tryz.prog (bin .eql 3 (.tmp 0) (.const undef) x15 (Value.int .i64 9)) w fun x17 =>
  BR x17
   (R (Value.slice none 0 0) w)
   (RD Tryz.prog (bin .eql 3 (.tmp 0) (.const undef) x15 (Value.int .i64 3)) w fun x19 =>
   BR x19
    (RD Tryz.prog (Instr.fieldAt 136 x5 3) w fun x20 =>
    RD Tryz.prog (Instr.loadAt 3 x20) w fun x21 =>
    OP Tryz.prog (Instr.buildSlice 23 1 #[(0, x21)]) w fun x22 w =>
    R x22 w)
    (RD Tryz.prog (bin .eql 3 (.tmp 0) (.const undef) x15 (Value.int .i64 2)) w fun x24 =>
    BR x24
     (RD Tryz.prog (Instr.fieldAt 136 x5 3) w fun x25 =>
     RD Tryz.prog (Instr.loadAt 3 x25) w fun x26 =>
     RD Tryz.prog (bin .add 3 (.tmp 0) (.const undef) a1 (Value.int .i64 1)) w fun x28 =>
     RD Tryz.prog (bin .neq 3 (.tmp 0) (.tmp 0) x26 x28) w fun x29 =>
     BR x29
      (RD Tryz.prog (bin .add 3 (.tmp 0) (.const undef) a1 (Value.int .i64 1)) w fun x31 =>
      RD Tryz.prog (Instr.fieldAt 136 x5 3) w fun x32 =>
      RD Tryz.prog (Instr.loadAt 3 x32) w fun x33 =>
      OP Tryz.prog (Instr.buildSlice 23 2 #[(0, x31), (1, x33)]) w fun x34 w =>
      R x34 w)
      (RD Tryz.prog (bin .add 3 (.tmp 0) (.const undef) a1 (Value.int .i64 1)) w fun x36 =>
      OP Tryz.prog (Instr.buildSlice 23 1 #[(0, x36)]) w fun x37 w =>
      R x37 w))
     (RD Tryz.prog (bin .add 3 (.tmp 0) (.const undef) a1 (Value.int .i64 1)) w fun x36 =>
     OP Tryz.prog (Instr.buildSlice 23 1 #[(0, x36)]) w fun x37 w =>
     R x37 w)))
def cfg135 : Cfg := { ext := extL, joins := [], loops := [], draws := [], pars := [] }
theorem F135_eq (a0 a1 : Value) (w : World) (R : Value → World → Prop) : vcF Tryz.prog cfg135 Tryz.f135 [a0, a1] w R = F135 a0 a1 w R := by kernel_rfl
theorem F135_call {a0 a1 : Value} {w : World} {R : Value → World → Prop} (h : F135 a0 a1 w R) : CALL Tryz.prog 135 [a0, a1] w R :=
  call_of (g := cfg135) ent mixed Tryz.func135 (Nat.le_of_ble_eq_true (by kernel_rfl)) (by kernel_rfl) (F135_eq a0 a1 w R ▸ h)
/-- spec.l09Next -/
def F121 (a0 a1 : Value) (w : World) (R : Value → World → Prop) : Prop :=
  OP Tryz.prog (Instr.box 35 a0) w fun x2 w =>
  RD Tryz.prog (Instr.fieldAt 35 x2 4) w fun x6 =>
  RD Tryz.prog (Instr.loadAt 33 x6) w fun x7 =>
  RD Tryz.prog (Instr.indexAt 33 x7 a1) w fun x9 =>
  RD Tryz.prog (Instr.loadAt 136 x9) w fun x10 =>
  OP Tryz.prog (Instr.alloc 136 true (.tuple #[])) w fun x5 w =>
  OPU Tryz.prog (Instr.storeAt 136 x5 x10) w fun w =>
  RD Tryz.prog (Instr.fieldAt 136 x5 0) w fun x11 =>
  RD Tryz.prog (Instr.loadAt 3 x11) w fun x12 =>
  RD Tryz.prog (bin .eql 3 (.tmp 0) (.const undef) x12 (Value.int .i64 2)) w fun x14 =>
  BR x14
   (RD Tryz.prog (Instr.fieldAt 136 x5 3) w fun x15 =>
   RD Tryz.prog (Instr.loadAt 3 x15) w fun x16 =>
   RD Tryz.prog (bin .add 3 (.tmp 0) (.const undef) a1 (Value.int .i64 1)) w fun x18 =>
   RD Tryz.prog (bin .eql 3 (.tmp 0) (.tmp 0) x16 x18) w fun x19 =>
   BR x19
    (RD Tryz.prog (bin .add 3 (.tmp 0) (.const undef) a1 (Value.int .i64 1)) w fun x21 =>
    OP Tryz.prog (Instr.buildSlice 23 1 #[(0, x21)]) w fun x22 w =>
    R x22 w)
    (RD Tryz.prog (bin .add 3 (.tmp 0) (.const undef) a1 (Value.int .i64 1)) w fun x24 =>
    RD Tryz.prog (Instr.fieldAt 136 x5 3) w fun x25 =>
    RD Tryz.prog (Instr.loadAt 3 x25) w fun x26 =>
    OP Tryz.prog (Instr.buildSlice 23 2 #[(0, x24), (1, x26)]) w fun x27 w =>
    R x27 w))
   (RD Tryz.prog (bin .eql 3 (.tmp 0) (.const undef) x12 (Value.int .i64 3)) w fun x29 =>
   BR x29
    (RD Tryz.prog (Instr.fieldAt 136 x5 3) w fun x30 =>
    RD Tryz.prog (Instr.loadAt 3 x30) w fun x31 =>
    OP Tryz.prog (Instr.buildSlice 23 1 #[(0, x31)]) w fun x32 w =>
    R x32 w)
    (RD Tryz.prog (bin .eql 3 (.tmp 0) (.const undef) x12 (Value.int .i64 9)) w fun x34 =>
    BR x34
     (OP Tryz.prog (Instr.buildSlice 23 0 #[]) w fun x35 w =>
     R x35 w)
     (RD Tryz.prog (bin .add 3 (.tmp 0) (.const undef) a1 (Value.int .i64 1)) w fun x37 =>
     OP Tryz.prog (Instr.buildSlice 23 1 #[(0, x37)]) w fun x38 w =>
     R x38 w)))
def cfg121 : Cfg := { ext := extL, joins := [], loops := [], draws := [], pars := [] }
theorem F121_eq (a0 a1 : Value) (w : World) (R : Value → World → Prop) : vcF Tryz.prog cfg121 Tryz.f121 [a0, a1] w R = F121 a0 a1 w R := by kernel_rfl
theorem F121_call {a0 a1 : Value} {w : World} {R : Value → World → Prop} (h : F121 a0 a1 w R) : CALL Tryz.prog 121 [a0, a1] w R :=
  call_of (g := cfg121) ent mixed Tryz.func121 (Nat.le_of_ble_eq_true (by kernel_rfl)) (by kernel_rfl) (F121_eq a0 a1 w R ▸ h)
set_option linter.unusedVariables false
set_option linter.unusedSimpArgs false
/-- the places behind a place -/
def nextN (c : DCode) (i : Nat) : List Nat :=
  if (insAt c i).op = 9 then [] else if (insAt c i).op = 3 then [(insAt c i).to.toNat] else if (insAt c i).op = 2 ∧ (insAt c i).to ≠ (i : Int) + 1 then [i + 1, (insAt c i).to.toNat] else [i + 1]
theorem nextN_lt {c : DCode} (hc : CodeR c) {i j : Nat} (hi : i < c.ins.length) (h : j ∈ nextN c i) : j < c.ins.length ∧ procOf c j = procOf c i := by
  have h9 := proc_next hc (a := (i : Int)) (by omega) (by omega)
  have hto := proc_to hc (a := (i : Int)) (by omega) (by omega)
  simp only [Int.toNat_natCast] at h9 hto
  unfold nextN at h
  split at h
  · cases h
  · rename_i ho
    have h1 := h9 ho
    have e1 : ((i + 1 : Nat) : Int) = (i : Int) + 1 := by omega
    split at h
    · rename_i h3
      simp only [List.mem_cons, List.not_mem_nil, or_false] at h
      subst h
      have h2 := hto (.inr h3)
      rw [Int.toNat_of_nonneg h2.1]
      exact ⟨by omega, h2.2.2⟩
    · split at h
      · rename_i h2
        simp only [List.mem_cons, List.not_mem_nil, or_false] at h
        rcases h with rfl | rfl
        · exact ⟨by omega, by rw [e1]; exact h1.2⟩
        · have h2 := hto (.inl h2.1)
          rw [Int.toNat_of_nonneg h2.1]
          exact ⟨by omega, h2.2.2⟩
      · simp only [List.mem_cons, List.not_mem_nil, or_false] at h
        subst h
        exact ⟨by omega, by rw [e1]; exact h1.2⟩
theorem nextN_len (c : DCode) (i : Nat) : (nextN c i).length ≤ 2 := by
  unfold nextN
  split
  · simp
  · split
    · simp
    · split <;> simp
section
variable {P : Program} {w : World} {K : Value → World → Prop}
def vsI (l : List Int) : List Value := l.map fun x => .int .i64 x
theorem cells_vsI {w : World} : ∀ {l : List Int}, (∀ x ∈ l, I64 x) → Cells [] w (vsI l) l
  | [], _ => ⟨rfl, rfl⟩
  | x :: l, h => ⟨[], [], [.int .i64 x], vsI l, rfl, rfl, ⟨rfl, rfl, h x (by simp)⟩, cells_vsI fun y hy => h y (by simp [hy])⟩
theorem own_vsI {l : List Int} {e : Nat} (hl : ∀ x ∈ l, I64 x) (hm : l.length ≤ maxLen) : Own w.heap.size (w.alloc (.cells (vsI l).toArray e)) (.slice (some ⟨w.heap.size, 0, none⟩) l.length l.length) l := by
  have hB : Blk w.heap.size e (w.alloc (.cells (vsI l).toArray e)) (vsI l) := heap_alloc_new w _
  refine ⟨[w.heap.size], ⟨⟨_, ⟨some ⟨w.heap.size, 0, none⟩, l.length, [], vsI l, rfl, Nat.le_refl _, hm, cells_vsI hl, .inr ⟨_, _, rfl, rfl, hB.range, ?_⟩⟩, rfl⟩, by simp, fun i hi => ?_⟩, by simp⟩
  · exact (Array.getElem?_eq_some_iff.1 hB).1
  · simp only [List.mem_cons, List.not_mem_nil, or_false] at hi
    subst hi
    exact ⟨_, _, hB⟩
theorem op_build2I {t e : TypeId} {by_ : Nat} {x y : Int} (ht : P.underlying t = some (.slice e)) (he : tyI P e = some (1, by_, false)) (hz : zeroL P e = some [.int .i64 0]) (hx : I64 x) (hy : I64 y)
    (k : ∀ v w', Ext w w' → Own w.heap.size w' v [x, y] → K v w') : OP P (Instr.buildSlice t 2 #[(0, .int .i64 x), (1, .int .i64 y)]) w K := by
  unfold zeroL at hz
  cases hi : P.info? e with
  | none => simp [hi] at hz
  | some i =>
    simp only [hi] at hz
    obtain ⟨v, hv, hvc⟩ := Option.map_eq_some_iff.1 hz
    refine ⟨_, w.alloc (.cells (vsI [x, y]).toArray e), ?_, k _ _ (ext_alloc w _) (own_vsI (l := [x, y]) (e := e) (by simp [hx, hy]) (by simp [maxLen]))⟩
    have hvc' : v.cells = #[.int .i64 0] := Array.ext' (by simpa using hvc)
    have e1 : ∀ n : Int, (Value.int .i64 n).cells = #[.int .i64 n] := fun _ => rfl
    simp only [Instr.buildSlice, Sem.run_bind, run_underlying ht, Result.andThen_ok, run_sizeOf' he]
    have e2 : Array.range 2 = #[0, 1] := by decide
    simp [zeroValue, typeInfo, hi, hv, newRow, Instr.fill, hvc', vsI, e1, e2]
end
theorem zlIf : zeroL Tryz.prog 3 = some [.int .i64 0] := by kernel_rfl
theorem nextIn_ok {w W0 : World} {b : Nat} {c : DCode} {i : Nat} (hA : At W0 b 0 c) (e0 : Ext W0 w) (hc : CodeR c) (hi : i < c.ins.length) :
    CALL Tryz.prog 135 [.pointer (some ⟨b, 0, none⟩), .int .i64 (i : Int)] w fun r w' => Ext w w' ∧ Own w.heap.size w' r (ints (nextN c i)) := by
  refine F135_call ?_
  unfold F135
  have hil := hc.f.ins
  have hto := proc_to hc (a := (i : Int)) (by omega) (by omega)
  simp only [Int.toNat_natCast] at hto
  refine NIL.mk rfl ?_
  refine rd_fld fd144_0 ?_
  refine rd_fld fd35_4 ?_
  refine rd_load ty33 (at_DCode_4 hA) e0 fun v10 h10 => ?_
  refine rd_indexN u33 ty136 h10 hi fun b12 o12 h12 => ?_
  rw [insAt_get] at h12
  have hnx : nextN c i = if (insAt c i).op = 9 then [] else if (insAt c i).op = 3 then [(insAt c i).to.toNat] else if (insAt c i).op = 2 ∧ (insAt c i).to ≠ (i : Int) + 1 then [i + 1, (insAt c i).to.toNat] else [i + 1] := rfl
  generalize insAt c i = I at *
  refine rd_load ty136 h12 e0 fun v13 h13 => ?_
  refine op_var zl136 rfl ty136 rfl h13 e0 fun w1 hx1 hA5 hV5 => ?_
  refine rd_fld fd136_0 ?_
  refine rd_loadI ty3 (at_DIns_0 hA5) (Ext.refl _) fun _ => ?_
  refine rd_eql ?_
  refine br (fun c9 => ?_) (fun c9 => ?_)
  · rw [hnx, if_pos c9]
    exact ⟨hx1, own_nil rfl⟩
  rw [if_neg c9] at hnx
  refine rd_eql ?_
  refine br (fun c3 => ?_) (fun c3 => ?_)
  · rw [if_pos c3] at hnx
    have ht := hto (.inr c3)
    refine rd_fld fd136_3 ?_
    refine rd_loadI ty3 (at_DIns_3 hA5) (Ext.refl _) fun hI => ?_
    refine op_build1R (x := I.to) u23 ty3 z3 (by decide) (mine_int hI) fun v w2 hx2 hr => ?_
    refine ⟨hx1.trans hx2, ?_⟩
    rw [hnx]
    have e : ints [I.to.toNat] = [I.to] := by simp [ints, Int.toNat_of_nonneg ht.1]
    rw [e]
    have := hx1.size
    exact hr.own.own.mono (by omega)
  rw [if_neg c3] at hnx
  have e1 : ints [i + 1] = [((i + 1 : Nat) : Int)] := by simp [ints]
  refine rd_eql ?_
  refine br (fun c2 => ?_) (fun c2 => ?_)
  · have ht := hto (.inl c2)
    refine rd_fld fd136_3 ?_
    refine rd_loadI ty3 (at_DIns_3 hA5) (Ext.refl _) fun hI => ?_
    refine rd_inc (by omega) ?_
    refine rd_neq ?_
    refine br (fun cn => ?_) (fun cn => ?_)
    · rw [if_pos ⟨c2, by omega⟩] at hnx
      refine rd_inc (by omega) ?_
      refine rd_fld fd136_3 ?_
      refine rd_loadI ty3 (at_DIns_3 hA5) (Ext.refl _) fun _ => ?_
      refine op_build2I u23 ty3 zlIf (by unfold I64; omega) hI fun v w2 hx2 hr => ?_
      refine ⟨hx1.trans hx2, ?_⟩
      have e : ints [i + 1, I.to.toNat] = [((i + 1 : Nat) : Int), I.to] := by simp [ints, Int.toNat_of_nonneg ht.1]
      rw [hnx, e]
      have := hx1.size
      exact hr.mono (by omega)
    · rw [if_neg (fun h => cn (by have := h.2; omega))] at hnx
      refine rd_inc (by omega) ?_
      refine op_build1R (x := ((i + 1 : Nat) : Int)) u23 ty3 z3 (by decide) (mine_int (by unfold I64; omega)) fun v w2 hx2 hr => ?_
      refine ⟨hx1.trans hx2, ?_⟩
      rw [hnx, e1]
      have := hx1.size
      exact hr.own.own.mono (by omega)
  · rw [if_neg (fun h => c2 h.1)] at hnx
    refine rd_inc (by omega) ?_
    refine op_build1R (x := ((i + 1 : Nat) : Int)) u23 ty3 z3 (by decide) (mine_int (by unfold I64; omega)) fun v w2 hx2 hr => ?_
    refine ⟨hx1.trans hx2, ?_⟩
    rw [hnx, e1]
    have := hx1.size
    exact hr.own.own.mono (by omega)
theorem l09Next_ok {w W0 : World} {v0 : Value} {c : DCode} {i : Nat} (h0 : Is W0 v0 c) (e0 : Ext W0 w) (hc : CodeR c) (hi : i < c.ins.length) :
    CALL Tryz.prog 121 [v0, .int .i64 (i : Int)] w fun r w' => Ext w w' ∧ Own w.heap.size w' r (ints (nextN c i)) := by
  refine F121_call ?_
  unfold F121
  have hil := hc.f.ins
  have hto := proc_to hc (a := (i : Int)) (by omega) (by omega)
  simp only [Int.toNat_natCast] at hto
  refine op_box h0 e0 fun w0 hx0 hA => ?_
  refine rd_fld fd35_4 ?_
  refine rd_load ty33 (at_DCode_4 hA) (Ext.refl _) fun v10 h10 => ?_
  refine rd_indexN u33 ty136 h10 hi fun b12 o12 h12 => ?_
  rw [insAt_get] at h12
  have hnx : nextN c i = if (insAt c i).op = 9 then [] else if (insAt c i).op = 3 then [(insAt c i).to.toNat] else if (insAt c i).op = 2 ∧ (insAt c i).to ≠ (i : Int) + 1 then [i + 1, (insAt c i).to.toNat] else [i + 1] := rfl
  generalize insAt c i = I at *
  refine rd_load ty136 h12 (Ext.refl _) fun v13 h13 => ?_
  refine op_var zl136 rfl ty136 rfl h13 (Ext.refl _) fun w1 hx1 hA5 hV5 => ?_
  have hs0 := hx0.size
  have hs1 := hx1.size
  have hx01 := hx0.trans hx1
  have e1 : ints [i + 1] = [((i + 1 : Nat) : Int)] := by simp [ints]
  refine rd_fld fd136_0 ?_
  refine rd_loadI ty3 (at_DIns_0 hA5) (Ext.refl _) fun _ => ?_
  refine rd_eql ?_
  refine br (fun c2 => ?_) (fun c2 => ?_)
  · have ht := hto (.inl c2)
    rw [if_neg (by omega), if_neg (by omega)] at hnx
    refine rd_fld fd136_3 ?_
    refine rd_loadI ty3 (at_DIns_3 hA5) (Ext.refl _) fun hI => ?_
    refine rd_inc (by omega) ?_
    refine rd_eql ?_
    refine br (fun cn => ?_) (fun cn => ?_)
    · rw [if_neg (fun h => h.2 (by omega))] at hnx
      refine rd_inc (by omega) ?_
      refine op_build1R (x := ((i + 1 : Nat) : Int)) u23 ty3 z3 (by decide) (mine_int (by unfold I64; omega)) fun v w2 hx2 hr => ?_
      refine ⟨hx01.trans hx2, ?_⟩
      rw [hnx, e1]
      exact hr.own.own.mono (by omega)
    · rw [if_pos ⟨c2, by omega⟩] at hnx
      refine rd_inc (by omega) ?_
      refine rd_fld fd136_3 ?_
      refine rd_loadI ty3 (at_DIns_3 hA5) (Ext.refl _) fun _ => ?_
      refine op_build2I u23 ty3 zlIf (by unfold I64; omega) hI fun v w2 hx2 hr => ?_
      refine ⟨hx01.trans hx2, ?_⟩
      have e : ints [i + 1, I.to.toNat] = [((i + 1 : Nat) : Int), I.to] := by simp [ints, Int.toNat_of_nonneg ht.1]
      rw [hnx, e]
      exact hr.mono (by omega)
  refine rd_eql ?_
  refine br (fun c3 => ?_) (fun c3 => ?_)
  · rw [if_neg (by omega), if_pos c3] at hnx
    have ht := hto (.inr c3)
    refine rd_fld fd136_3 ?_
    refine rd_loadI ty3 (at_DIns_3 hA5) (Ext.refl _) fun hI => ?_
    refine op_build1R (x := I.to) u23 ty3 z3 (by decide) (mine_int hI) fun v w2 hx2 hr => ?_
    refine ⟨hx01.trans hx2, ?_⟩
    rw [hnx]
    have e : ints [I.to.toNat] = [I.to] := by simp [ints, Int.toNat_of_nonneg ht.1]
    rw [e]
    exact hr.own.own.mono (by omega)
  refine rd_eql ?_
  refine br (fun c9 => ?_) (fun c9 => ?_)
  · rw [if_pos c9] at hnx
    rw [hnx]
    refine op_build0I (α := Int) u23 ty3 fun a w2 hx2 hr => ?_
    have hs2 := hx2.size
    exact ⟨hx01.trans hx2, hr.own.own.mono (by omega)⟩
  · rw [if_neg c9, if_neg c3, if_neg (fun h => c2 h.1)] at hnx
    refine rd_inc (by omega) ?_
    refine op_build1R (x := ((i + 1 : Nat) : Int)) u23 ty3 z3 (by decide) (mine_int (by unfold I64; omega)) fun v w2 hx2 hr => ?_
    refine ⟨hx01.trans hx2, ?_⟩
    rw [hnx, e1]
    exact hr.own.own.mono (by omega)
end Go.Proofs.YtjgfldfbljmhhaaGreat
namespace Go.Sh
set_option linter.unusedVariables false
set_option linter.unusedSimpArgs false
set_option linter.unusedSectionVars false
open Rep (rep)
section
variable {P : Program} {w w0 w' : World} {α : Type} [Rep α] {lo hi e : Nat} {v : Value} {l : List α}
theorem RowG.flat [Flat α] {F : List Nat} (h : RowG F e w v l) : F = [] ∨ ∃ b, F = [b] := by
  rcases h with ⟨_, _, _, rfl⟩ | ⟨xs, Fi, _, hc, rfl, _⟩
  · exact .inl rfl
  · have := Cells.flat (xs := xs) hc
    subst this
    rcases hv : v.ownBlock with _ | b
    · exact .inl (by simp)
    · exact .inr ⟨b, by simp⟩
theorem Chg.ofI {F : List Nat} (h : Chg F w w') (hF : ∀ b ∈ F, lo ≤ b ∧ b < hi) : ChgI lo hi w w' :=
  ⟨h.os, h.tape, h.output, h.size, fun b hb hx => h.block b hb fun hm => by have := hF b hm; omega⟩
theorem ChgI.ext_left {w1 : World} (hx : Ext w w1) (h : ChgI lo hi w1 w') : ChgI lo hi w w' :=
  ⟨h.os.trans hx.os, h.tape.trans hx.tape, h.output.trans hx.output, Nat.le_trans hx.size h.size, fun b hb ho => by rw [h.block b (Nat.lt_of_lt_of_le hb hx.size) ho, hx.block b hb]⟩
theorem op_pushD1 [Flat α] {t ty : TypeId} {by_ : Nat} {u : Value} {x : α} {lo2 hi2 : Nat} {K : Value → World → Prop} (ht : P.underlying t = some (.slice e)) (he : tyI P e = some (Rep.size α, by_, Rep.agg α)) (hz : zeroOf P e = true)
    (hzc : (P.info? e).map (fun i => (i.zero.map (·.cells.size))) = some (some (Rep.size α))) (hsz : Rep.size α ≤ 1000) (hv : RowI lo hi e w v l) (hx : OwnI lo2 hi2 w u x) (hm : l.length + 1 ≤ maxLen) (hb : (l.length + 1) * by_ ≤ 140737488355328)
    (k : ∀ v' w' lo' hi', ChgI lo hi w w' → RowI lo' hi' e w' v' (l ++ [x]) → (lo' = lo ∧ hi' = hi ∨ lo' = w.heap.size ∧ hi' = w'.heap.size) → K v' w') : OP P (Instr.buildSlice t 1 #[(0, u)]) w fun s w1 => OP P (Builtin.append_ #[t, t] ty [v, s].toArray) w1 K := by
  obtain ⟨F, h1, h2, h3⟩ := rowI_iff.1 hv
  obtain ⟨G, hmx, hG⟩ := hx
  have hGn : G = [] := by obtain ⟨cs, hr, _⟩ := hmx.own; exact Flat.flat hr
  subst hGn
  refine op_pushB (K := fun _ => K) ht he hz hzc hsz h1 h2 hmx (by simp) hm hb (fun w1 v' w' G' hx1 hc hR hN hs => ?_) fun _ _ _ h => h
  have hcI := ChgI.ext_left hx1 (hc.ofI h3)
  have hlt := hR.lt
  rcases hR.flat with rfl | ⟨b, rfl⟩
  · exact k v' w' lo hi hcI (rowI_iff.2 ⟨[], hR, hN, by simp⟩) (.inl ⟨rfl, rfl⟩)
  · rcases hs b (by simp) with h | h | h
    · exact k v' w' lo hi hcI (rowI_iff.2 ⟨[b], hR, hN, fun c hc => by simp at hc; subst hc; exact h3 _ h⟩) (.inl ⟨rfl, rfl⟩)
    · cases h
    · exact k v' w' w.heap.size w'.heap.size hcI (rowI_iff.2 ⟨[b], hR, hN, fun c hc => by simp at hc; subst hc; exact ⟨h, hlt _ (by simp)⟩⟩) (.inr ⟨rfl, rfl⟩)
end
end Go.Sh
namespace Go.Proofs.YtjgfldfbljmhhaaGreat
open Go Go.Sh Go.Proofs
set_option linter.unusedVariables false
/-- spec.l09Reach -/
def F235 (a0 a1 : Value) (w : World) (R : Value → World → Prop) : Prop :=
  OP Tryz.prog (Instr.box 35 a0) w fun x2 w =>
  RD Tryz.prog (Instr.fieldAt 35 x2 4) w fun x10 =>
  RD Tryz.prog (Instr.loadAt 33 x10) w fun x11 =>
  RD Tryz.prog (Builtin.len_ #[33] 3 [x11].toArray) w fun x12 =>
  OP Tryz.prog (Instr.makeSlice 72 x12 x12) w fun x13 w =>
  OP Tryz.prog (Instr.buildSlice 23 1 #[(0, a1)]) w fun x15 w =>
  LOOPI [6, 7] [x15, (Value.int .i64 0)] w fun u4 w next4 =>
   RD Tryz.prog (Builtin.len_ #[23] 3 [(u4 6)].toArray) w fun x18 =>
   RD Tryz.prog (bin .lss 3 (.tmp 0) (.tmp 0) (u4 7) x18) w fun x19 =>
   BR x19
    ((fun w => RD Tryz.prog (Instr.loadAt 35 x2) w fun x22 =>
    RD Tryz.prog (Instr.indexAt 23 (u4 6) (u4 7)) w fun x25 =>
    RD Tryz.prog (Instr.loadAt 3 x25) w fun x26 =>
    CALL Tryz.prog 121 [x22, x26] w fun x27 w =>
    LOOPI [6, 9] [(u4 6), (Value.int .i64 0)] w fun u8 w next8 =>
     RD Tryz.prog (Builtin.len_ #[23] 3 [x27].toArray) w fun x30 =>
     RD Tryz.prog (bin .lss 3 (.tmp 0) (.tmp 0) (u8 9) x30) w fun x31 =>
     BR x31
      (RD Tryz.prog (Instr.indexAt 23 x27 (u8 9)) w fun x37 =>
      RD Tryz.prog (Instr.loadAt 3 x37) w fun x38 =>
      RD Tryz.prog (Instr.indexAt 72 x13 x38) w fun x39 =>
      RD Tryz.prog (Instr.loadAt 4 x39) w fun x40 =>
      RD Tryz.prog (Op.unary .not x40) w fun x41 =>
      BR x41
       (RD Tryz.prog (Instr.indexAt 23 x27 (u8 9)) w fun x45 =>
       RD Tryz.prog (Instr.loadAt 3 x45) w fun x46 =>
       RD Tryz.prog (Instr.indexAt 72 x13 x46) w fun x47 =>
       OPU Tryz.prog (Instr.storeAt 4 x47 (Value.bool true)) w fun w =>
       RD Tryz.prog (Instr.indexAt 23 x27 (u8 9)) w fun x51 =>
       RD Tryz.prog (Instr.loadAt 3 x51) w fun x52 =>
       OP Tryz.prog (Instr.buildSlice 23 1 #[(0, x52)]) w fun x53 w =>
       OP Tryz.prog (Builtin.append_ #[23, 23] 23 [(u8 6), x53].toArray) w fun x54 w =>
       RD Tryz.prog (bin .add 3 (.tmp 0) (.const undef) (u8 9) (Value.int .i64 1)) w fun x33 =>
       next8 [x54, x33] w)
       (RD Tryz.prog (bin .add 3 (.tmp 0) (.const undef) (u8 9) (Value.int .i64 1)) w fun x33 =>
       next8 [(u8 6), x33] w))
      (RD Tryz.prog (bin .add 3 (.tmp 0) (.const undef) (u4 7) (Value.int .i64 1)) w fun x21 =>
      next4 [(u8 6), x21] w)) (World.drew1 w))
    (R x13 w)
def cfg235 : Cfg := { ext := extL, joins := [], loops := [(4, 36028797018899392, [6, 7]), (8, 36028796750529088, [6, 9])], draws := [(6, [0, 1, 2, 3, 4, 5, 6], 0)], pars := [] }
theorem F235_eq (a0 a1 : Value) (w : World) (R : Value → World → Prop) : vcF Tryz.prog cfg235 Tryz.f235 [a0, a1] w R = F235 a0 a1 w R := by kernel_rfl
theorem F235_call {a0 a1 : Value} {w : World} {R : Value → World → Prop} (h : F235 a0 a1 w R) : CALL Tryz.prog 235 [a0, a1] w R :=
  call_of (g := cfg235) ent mixed Tryz.func235 (Nat.le_of_ble_eq_true (by kernel_rfl)) (by kernel_rfl) (F235_eq a0 a1 w R ▸ h)
/-- (*impl.world).spread -/
def F126 (a0 a1 a2 : Value) (w : World) (R : Value → World → Prop) : Prop :=
  OP Tryz.prog (Instr.buildSlice 23 1 #[(0, a2)]) w fun x11 w =>
  LOOPI [6] [x11] w fun u1 w next1 =>
   RD Tryz.prog (Builtin.len_ #[23] 3 [(u1 6)].toArray) w fun x13 =>
   RD Tryz.prog (bin .gtr 3 (.tmp 0) (.const undef) x13 (Value.int .i64 0)) w fun x14 =>
   BR x14
    (RD Tryz.prog (Builtin.len_ #[23] 3 [(u1 6)].toArray) w fun x17 =>
    RD Tryz.prog (bin .sub 3 (.tmp 0) (.const undef) x17 (Value.int .i64 1)) w fun x18 =>
    RD Tryz.prog (Instr.indexAt 23 (u1 6) x18) w fun x19 =>
    RD Tryz.prog (Instr.loadAt 3 x19) w fun x20 =>
    RD Tryz.prog (Builtin.len_ #[23] 3 [(u1 6)].toArray) w fun x23 =>
    RD Tryz.prog (bin .sub 3 (.tmp 0) (.const undef) x23 (Value.int .i64 1)) w fun x24 =>
    RD Tryz.prog (Instr.sliceAt 23 (u1 6) none (some x24) none) w fun x25 =>
    CALL Tryz.prog 135 [a0, x20] w fun x28 w =>
    RD Tryz.prog (Builtin.len_ #[23] 3 [x28].toArray) w fun x29 =>
    LOOPI [6, 30] [x25, (Value.int .i64 0)] w fun u5 w next5 =>
     RD Tryz.prog (bin .lss 3 (.tmp 0) (.tmp 0) (u5 30) x29) w fun x31 =>
     BR x31
      (RD Tryz.prog (Instr.indexAt 23 x28 (u5 30)) w fun x32 =>
      RD Tryz.prog (Instr.loadAt 3 x32) w fun x33 =>
      RD Tryz.prog (Instr.indexAt 72 a1 x33) w fun x36 =>
      RD Tryz.prog (Instr.loadAt 4 x36) w fun x37 =>
      RD Tryz.prog (Op.unary .not x37) w fun x38 =>
      BR x38
       (RD Tryz.prog (Instr.indexAt 72 a1 x33) w fun x41 =>
       OPU Tryz.prog (Instr.storeAt 4 x41 (Value.bool true)) w fun w =>
       OP Tryz.prog (Instr.buildSlice 23 1 #[(0, x33)]) w fun x44 w =>
       OP Tryz.prog (Builtin.append_ #[23, 23] 23 [(u5 6), x44].toArray) w fun x45 w =>
       RD Tryz.prog (bin .add 3 (.tmp 0) (.const undef) (u5 30) (Value.int .i64 1)) w fun x46 =>
       next5 [x45, x46] w)
       (RD Tryz.prog (bin .add 3 (.tmp 0) (.const undef) (u5 30) (Value.int .i64 1)) w fun x46 =>
       next5 [(u5 6), x46] w))
      (next1 [(u5 6)] w))
    (R (Value.tuple #[]) w)
def cfg126 : Cfg := { ext := extL, joins := [], loops := [(1, 140737488351936, [6]), (5, 140736414614080, [6, 30])], draws := [], pars := [] }
theorem F126_eq (a0 a1 a2 : Value) (w : World) (R : Value → World → Prop) : vcF Tryz.prog cfg126 Tryz.f126 [a0, a1, a2] w R = F126 a0 a1 a2 w R := by kernel_rfl
theorem F126_call {a0 a1 a2 : Value} {w : World} {R : Value → World → Prop} (h : F126 a0 a1 a2 w R) : CALL Tryz.prog 126 [a0, a1, a2] w R :=
  call_of (g := cfg126) ent mixed Tryz.func126 (Nat.le_of_ble_eq_true (by kernel_rfl)) (by kernel_rfl) (F126_eq a0 a1 a2 w R ▸ h)
set_option linter.unusedVariables false
set_option linter.unusedSimpArgs false
set_option linter.unusedSectionVars false
section
variable {P : Program} {w w' : World}
theorem flat_one {α : Type} [Rep α] [Flat α] {F : List Nat} {v : Value} {l : List α} (hm : Mine F w v l) (hl : l ≠ []) : ∃ b o cap, v = .slice (some ⟨b, o, none⟩) l.length cap ∧ F = [b] := by
  obtain ⟨⟨cs, ⟨a, cap, Fi, xs, rfl, h1, h2, hc, h4⟩, rfl⟩, hn, hw⟩ := hm
  rcases h4 with ⟨h4, _⟩ | ⟨b, o, rfl, rfl, hr, hb⟩
  · exact absurd h4 hl
  have hFi := Cells.flat (xs := xs) hc
  subst hFi
  exact ⟨b, o, cap, rfl, rfl⟩
/-- a store into a list without inner blocks -/
theorem opu_elt {α : Type} [Rep α] [Flat α] (h1 : Rep.size α = 1) {t by_ m n i : Nat} {l : List α} {y : α} {u : Value} {K : World → Prop} (ht : tyI P t = some (1, by_, Rep.agg α)) (hm : Mine [m] w (.slice (some ⟨m, 0, none⟩) n n) l) (hl : l.length = n) (hi : i < n) (hu : Mine [] w u y)
    (k : ∀ w', Chg [m] w w' → Mine [m] w' (.slice (some ⟨m, 0, none⟩) n n) (l.set i y) → K w') : OPU P (Instr.storeAt t (.pointer (some ⟨m, i * 1, none⟩)) u) w K := by
  obtain ⟨b, a, cap, G, hv, hL⟩ := focus hm (k := i) (by omega)
  simp only [Value.slice.injEq, Option.some.injEq, Addr.mk.injEq, and_true] at hv
  obtain ⟨⟨rfl, rfl⟩, _⟩ := hv
  rw [h1, Nat.zero_add] at hL
  refine opu_lensF (y' := y) (by rw [h1]; exact ht) hL hu fun w8 F' hc8 hm8 hF8 => ?_
  have hF9 : F' = [m] := by
    obtain ⟨b, o, cap, hv, hF2⟩ := flat_one hm8 (by intro e; have h := congrArg List.length e; rw [List.length_set, hl] at h; simp only [List.length_nil] at h; omega)
    subst hF2
    have := hF8 b (by simp)
    simpa using this
  subst hF9
  exact k w8 hc8 hm8
theorem rd_elt {α : Type} [Rep α] {t e by_ m n i : Nat} {K : Value → Prop} (h1 : Rep.size α = 1) (ht : P.underlying t = some (.slice e)) (he : tyI P e = some (1, by_, Rep.agg α)) (hi : i < n) (kk : K (.pointer (some ⟨m, i * 1, none⟩))) :
    RD P (Instr.indexAt t (.slice (some ⟨m, 0, none⟩) n n) (.int .i64 (i : Int))) w K := rd_indexG ht he hi kk
end
/-- a search under way: what is to do, what is marked -/
structure WI (w1 w : World) (m n lo hi : Nat) (tv : Value) (L : List Nat) (ms : List Bool) : Prop where
  chg : ChgI m (m + 1) w1 w
  row : RowI lo hi 3 w tv (ints L)
  mks : Mine [m] w (.slice (some ⟨m, 0, none⟩) n n) ms
  l0 : w1.heap.size ≤ lo
  m1 : m < lo
  h2 : lo ≤ hi
  h3 : hi ≤ w.heap.size
section
variable {w1 w w' : World} {m n lo hi : Nat} {tv : Value} {L : List Nat} {ms : List Bool}
theorem WI.step (h : WI w1 w m n lo hi tv L ms) (hx : Ext w w') : WI w1 w' m n lo hi tv L ms :=
  ⟨h.chg.trans hx.toI, h.row.ext hx, h.mks.ext hx, h.l0, h.m1, h.h2, Nat.le_trans h.h3 hx.size⟩
theorem WI.push {tv' : Value} {x : Nat} {lo' hi' : Nat} (h : WI w1 w m n lo hi tv L ms) (hc : ChgI lo hi w w') (hr : RowI lo' hi' 3 w' tv' (ints L ++ [(x : Int)])) (hd : lo' = lo ∧ hi' = hi ∨ lo' = w.heap.size ∧ hi' = w'.heap.size) :
    WI w1 w' m n lo' hi' tv' (L ++ [x]) ms := by
  have hs := hc.size
  have h1 := h.l0
  have h2 := h.h2
  have h3 := h.h3
  have h4 := h.chg.size
  have h5 := h.m1
  have hml := h.mks.lt m (by simp)
  refine ⟨⟨hc.os.trans h.chg.os, hc.tape.trans h.chg.tape, hc.output.trans h.chg.output, Nat.le_trans h4 hs, fun b hb ho => (hc.block b (Nat.lt_of_lt_of_le hb h4) (by omega)).trans (h.chg.block b hb ho)⟩, by rw [ints_append]; exact hr, h.mks.keep fun b hb => ?_, by omega, by omega, by omega, by omega⟩
  simp only [List.mem_cons, List.not_mem_nil, or_false] at hb
  subst hb
  exact hc.block b hml (by omega)
theorem WI.mark {ms' : List Bool} (h : WI w1 w m n lo hi tv L ms) (hc : Chg [m] w w') (hm : Mine [m] w' (.slice (some ⟨m, 0, none⟩) n n) ms') : WI w1 w' m n lo hi tv L ms' := by
  have hc' : ChgI m (m + 1) w w' := hc.toI fun b hb => by simp only [List.mem_cons, List.not_mem_nil, or_false] at hb; omega
  have h5 := h.m1
  exact ⟨h.chg.trans hc', h.row.chg hc' (by omega), hm, h.l0, h5, h.h2, Nat.le_trans h.h3 hc'.size⟩
end
theorem zlBf : zeroL Tryz.prog 4 = some [.bool false] := by kernel_rfl
theorem ownI_int {w : World} {x : Int} (lo hi : Nat) (h : I64 x) : OwnI lo hi w (.int .i64 x) x := ⟨[], mine_int h, by simp⟩
theorem mine_boolT {w : World} {b : Bool} : Mine [] w (.bool b) b := ⟨⟨[.bool b], ⟨rfl, rfl⟩, rfl⟩, List.nodup_nil, Wr.nil w⟩
theorem l09ReachM_ok {w W0 : World} {v0 : Value} {c : DCode} {a : Nat} (h0 : Is W0 v0 c) (e0 : Ext W0 w) (hc : CodeR c) (ha : a < c.ins.length) :
    CALL Tryz.prog 235 [v0, .int .i64 (a : Int)] w fun r w' => Ext w w' ∧ ∃ m, r = .slice (some ⟨m, 0, none⟩) c.ins.length c.ins.length ∧ w.heap.size ≤ m ∧ Mine [m] w' (.slice (some ⟨m, 0, none⟩) c.ins.length c.ins.length) (setB c.ins.length (RP (nextN c) a)) := by
  refine F235_call ?_
  unfold F235
  have hil := hc.f.ins
  have hnl := fun {i j : Nat} => nextN_lt hc (i := i) (j := j)
  refine op_box h0 e0 fun w1 hx1 hA => ?_
  refine rd_fld fd35_4 ?_
  refine rd_load ty33 (at_DCode_4 hA) (Ext.refl _) fun v11 h11 => ?_
  refine rd_len u33 h11 ?_
  generalize hn : c.ins.length = n at *
  refine op_makeZ (α := Bool) u72 ty4 rfl rfl zlBf (by omega) (by omega) fun w2 hx2 hr2 => ?_
  have hs1 := hx1.size
  have hs2 := hx2.size
  have hM2 : Mine [w1.heap.size] w2 (.slice (some ⟨w1.heap.size, 0, none⟩) n n) (List.replicate n (RepZ.zv : Bool)) := by
    obtain ⟨F, hM, hF⟩ := hr2.own
    obtain ⟨b, o, cap, hv, hF2⟩ := flat_one hM (by intro e; have := congrArg List.length e; simp at this; omega)
    simp only [Value.slice.injEq, Option.some.injEq, Addr.mk.injEq, List.cons.injEq, and_true] at hv
    obtain ⟨⟨hb, ho⟩, _⟩ := hv
    rw [← hb] at hF2
    rwa [hF2] at hM
  have hzz : (List.replicate n (RepZ.zv : Bool)) = List.replicate n false := rfl
  rw [hzz] at hM2
  refine op_build1R (x := (a : Int)) u23 ty3 z3 (by decide) (mine_int (by unfold I64; omega)) fun v15 w3 hx3 hr3 => ?_
  have hs3 := hx3.size
  generalize hm : w1.heap.size = m at *
  have hW3 : WI w1 w3 m n w2.heap.size w3.heap.size v15 [a] (List.replicate n false) := ⟨(hx2.trans hx3).toI, hr3, hM2.ext hx3, by omega, by have := hM2.lt m (by simp); omega, hs3, Nat.le_refl _⟩
  refine loopC (1 + n) (fun h us w' => ∃ (tv : Value) (lo hi : Nat) (L : List Nat) (ms : List Bool), us = [tv, .int .i64 (h : Int)] ∧ h ≤ L.length ∧ WI w1 w' m n lo hi tv L ms ∧ SInv (nextN c) n a (List.replicate n false) ms (L.drop h) h) 0 (Nat.zero_le _) ⟨v15, _, _, [a], _, rfl, by simp, hW3, SInv.start (by simp) ha⟩ ?_
  rintro h mk u w4 hkm ⟨tv, lo, hi, L, ms, hu, hhL, hW4, hS4⟩
  simp only [List.map_cons, List.map_nil, List.cons.injEq, and_true] at hu
  obtain ⟨hu1, hu2⟩ := hu
  rw [hu1, hu2]
  have hb4 := hS4.bound
  rw [List.length_drop] at hb4
  refine rd_len u23 hW4.row.is ?_
  rw [ints_len]
  refine rd_lss ?_
  refine br (fun hlt => ?_) (fun hge => ?_)
  case refine_2 =>
    have hhe : h = L.length := by omega
    rw [hhe, List.drop_length] at hS4
    have hfin := hS4.fin fun i hi => absurd hi mkd_replicate
    have hms : ms = setB n (RP (nextN c) a) := marks_setB hS4.len fun i hi => by
      rw [hfin i]
      exact ⟨fun h => h.resolve_left mkd_replicate, .inr⟩
    rw [← hms]
    have hx4 : Ext w1 w4 := (Ext.refl w1).chgI hW4.chg (by omega)
    exact ⟨hx1.trans hx4, m, rfl, by omega, hW4.mks⟩
  have hh : h < L.length := by omega
  have hx5 := ext_drew w4
  have hW5 := hW4.step hx5
  generalize World.drew1 w4 = w5 at *
  have hxa : ∀ {w : World} {lo hi tv L ms}, WI w1 w m n lo hi tv L ms → Ext w1 w := fun h => (Ext.refl w1).chgI h.chg (by omega)
  refine rd_load ty35 hA (hxa hW5) fun v22 h22 => ?_
  refine rd_indexN u23 ty3 (i := h) hW5.row.is (by rw [ints_len]; exact hh) fun b1 o1 hA1 => ?_
  rw [ints_get] at hA1
  refine rd_loadI ty3 hA1 (Ext.refl _) fun _ => ?_
  generalize hx : L[h] = x at *
  have hdr : L.drop h = x :: L.drop (h + 1) := by rw [List.drop_eq_getElem_cons hh, hx]
  have hxn : x < n := (hS4.tdo x (by rw [hdr]; simp)).2
  refine (l09Next_ok h22 (hxa hW5) hc (by rw [hn]; exact hxn)).mono ?_
  rintro v27 w6 ⟨hx6, ho6⟩
  have hW6 := hW5.step hx6
  have hI6 := hW5.h3
  have hm6 := hW5.mks.lt m (by simp)
  have hS6 : SIn2 (nextN c) n a (List.replicate n false) ms (L.drop (h + 1)) h x 0 := hS4.pop (fun i => by rw [hdr]; simp [or_comm]) (by rw [hdr]; simp)
  have hl2 := nextN_len c x
  refine loopC (nextN c x).length (fun q us w' => ∃ (tv : Value) (lo hi : Nat) (L : List Nat) (ms : List Bool), us = [tv, .int .i64 (q : Int)] ∧ q ≤ (nextN c x).length ∧ h < L.length ∧ WI w1 w' m n lo hi tv L ms ∧ SIn2 (nextN c) n a (List.replicate n false) ms (L.drop (h + 1)) h x q ∧ OwnI w5.heap.size w6.heap.size w' v27 (ints (nextN c x)) ∧ (hi ≤ w5.heap.size ∨ w6.heap.size ≤ lo) ∧ w6.heap.size ≤ w'.heap.size) 0 (Nat.zero_le _) ⟨tv, lo, hi, L, ms, rfl, Nat.zero_le _, hh, hW6, hS6, ho6.toI, .inl hI6, Nat.le_refl _⟩ ?_
  rintro q mk8 u8 w7 hkm8 ⟨tv7, lo7, hi7, L7, ms7, hu8, hql, hh7, hW7, hS7, ho7, hd7, hz7⟩
  simp only [List.map_cons, List.map_nil, List.cons.injEq, and_true] at hu8
  obtain ⟨hu81, hu82⟩ := hu8
  rw [hu81, hu82]
  refine rd_len u23 ho7.is ?_
  rw [ints_len]
  refine rd_lss ?_
  refine br (fun hlt8 => ?_) (fun hge8 => ?_)
  case refine_2 =>
    refine rd_inc (by omega) ?_
    exact ⟨mk - 1, by omega, h + 1, by omega, tv7, lo7, hi7, L7, ms7, rfl, by omega, hW7, hS7.done (by omega)⟩
  have hq : q < (nextN c x).length := by omega
  have hrd : ∀ {w : World} {K : Value → Prop} (ho : OwnI w5.heap.size w6.heap.size w v27 (ints (nextN c x))) (k : K (.int .i64 (((nextN c x)[q] : Nat) : Int))), RD Tryz.prog (Instr.indexAt 23 v27 (.int .i64 (q : Int))) w fun x37 => RD Tryz.prog (Instr.loadAt 3 x37) w K := fun ho k => by
    refine rd_indexN u23 ty3 (i := q) ho.is (by rw [ints_len]; exact hq) fun b1 o1 hA1 => ?_
    rw [ints_get] at hA1
    exact rd_loadI ty3 hA1 (Ext.refl _) fun _ => k
  have hy := hnl hxn (List.getElem_mem hq)
  refine hrd ho7 ?_
  have hlen7 := hS7.len
  refine rd_indexN u72 ty4 hW7.mks.is (by rw [hlen7]; exact hy.1) fun b2 o2 hA2 => ?_
  refine rd_loadB ty4 hA2 (Ext.refl _) ?_
  refine rd_not ?_
  have hmk7 := mkd_get (ms := ms7) (i := (nextN c x)[q]) (by rw [hlen7]; exact hy.1)
  refine br_b (fun hf => ?_) (fun hf => ?_)
  · have hnm : ¬ mkd ms7 (nextN c x)[q] := by rw [hmk7]; simpa using hf
    refine hrd ho7 ?_
    refine rd_elt (α := Bool) rfl u72 ty4 hy.1 ?_
    refine opu_elt (α := Bool) rfl ty4 hW7.mks hlen7 hy.1 mine_boolT fun w8 hc8 hm8 => ?_
    have hW8 := hW7.mark hc8 hm8
    have hc8' : ChgI m (m + 1) w7 w8 := hc8.toI fun b hb => by simp only [List.mem_cons, List.not_mem_nil, or_false] at hb; omega
    have ho8 := ho7.chg hc8' (by omega)
    refine hrd ho8 ?_
    have hS8 := hS7.push hq hy.1 hnm
    generalize (nextN c x)[q] = y at *
    have hLb : L7.length ≤ 2 + n := by
      have h1 := hS7.cnt
      have h2 := cntM_le ms7
      rw [List.length_drop] at h1
      omega
    refine op_pushD1 (x := (y : Int)) u23 ty3 z3 zc3 (by decide) hW8.row (ownI_int 0 0 (by unfold I64; omega)) (by rw [maxLen_eq, ints_len]; omega) (by rw [ints_len]; omega) fun v54 w9 lo9 hi9 hc9 hr9 hd9 => ?_
    have hW9 := hW8.push hc9 hr9 hd9
    have hsz8 := hc8'.size
    have hsz7 := ho7.is
    refine rd_inc (by omega) ?_
    refine ⟨mk8 - 1, by omega, q + 1, by omega, v54, lo9, hi9, L7 ++ [y], _, rfl, by omega, by simp; omega, hW9, ?_, ho8.chg hc9 (by omega), by omega, by have := hc9.size; omega⟩
    rw [List.drop_append_of_le_length (by omega)]
    exact hS8
  · have hnm : mkd ms7 (nextN c x)[q] := by rw [hmk7]; simpa using hf
    refine rd_inc (by omega) ?_
    exact ⟨mk8 - 1, by omega, q + 1, by omega, tv7, lo7, hi7, L7, ms7, rfl, by omega, hh7, hW7, hS7.skip hq hnm, ho7, hd7, hz7⟩
section
variable {P : Program} {w : World} {α : Type} [Rep α] [Flat α] {lo hi e : Nat} {v : Value} {l : List α}
theorem rd_cutG {t e b o n cap k by_ : Nat} {K : Value → Prop} (ht : P.underlying t = some (.slice e)) (he : tyI P e = some (Rep.size α, by_, Rep.agg α)) (hk : k ≤ n) (hn : n ≤ cap) (kk : K (.slice (some ⟨b, o, none⟩) k cap)) :
    RD P (Instr.sliceAt t (.slice (some ⟨b, o, none⟩) n cap) none (some (.int .i64 (k : Int))) none) w K := by
  refine rd_of (fun w' _ => ?_) kk
  have hbd : (Instr.sliceBounds true n cap none (some (.int .i64 (k : Int))) none).run P w' = .ok (0, k, cap) w' := by
    have h5 : (k : Int) ≤ (cap : Int) := by omega
    simp [Instr.sliceBounds, Instr.sliceBound, asIntOf, h5]
    intro h6
    omega
  simp only [Instr.sliceAt, Instr.slice, Sem.run_bind, run_underlying ht, Result.andThen_ok, hbd, run_sizeOf' he]
  simp [Addr.add_mid]
/-- a row without its last elements is a row -/
theorem rowI_cut (h : RowI lo hi e w v l) (hl : l ≠ []) {k : Nat} (hk : k ≤ l.length) : ∃ g cap, v = .slice (some ⟨g, 0, none⟩) l.length cap ∧ l.length ≤ cap ∧ RowI lo hi e w (.slice (some ⟨g, 0, none⟩) k cap) (l.take k) := by
  rcases h with ⟨a, _, h⟩ | ⟨F, ⟨xs, Fi, ⟨hlen, ho⟩, hc, hF, hw⟩, hn, hb⟩
  · exact absurd h hl
  rcases ho with ⟨_, h0⟩ | ⟨g, cap, cur, rfl, _, hg, h1, h2, h3, h4⟩
  · exact absurd (List.eq_nil_of_length_eq_zero h0) hl
  refine ⟨g, cap, rfl, h1, .inr ⟨F, ⟨xs.take (k * Rep.size α), [], ⟨?_, .inr ⟨g, cap, cur, ?_, Nat.zero_le _, hg, by rw [List.length_take]; omega, h2, h3, ?_⟩⟩, ?_, ?_, Wr.nil w⟩, hn, hb⟩⟩
  · rw [List.length_take, List.length_take, hlen, Nat.min_eq_left hk]
    exact Nat.min_eq_left (Nat.mul_le_mul_right _ hk)
  · rw [List.length_take, Nat.min_eq_left hk]
  · rw [List.length_take, Nat.min_eq_left hk, ← h4, List.take_take, Nat.min_eq_left (Nat.mul_le_mul_right _ hk)]
  · have e1 : l = l.take k ++ l.drop k := by simp
    have hFi := Cells.flat (xs := xs) hc
    subst hFi
    rw [e1] at hc
    obtain ⟨F1, F2, x1, x2, hF12, hx12, c1, c2⟩ := Cells.split hc
    have hF1 := Cells.flat (xs := x1) c1
    subst hF1
    have hl1 := Cells.len c1
    rw [List.length_take, Nat.min_eq_left hk] at hl1
    rw [hx12, List.take_left' hl1]
    exact c1
  · have hFi := Cells.flat (xs := xs) hc
    subst hFi
    rw [hF]; rfl
end
/-- the code lies at the head of block b as it did in W0 -/
def KAt (W0 w : World) (b : Nat) (c : DCode) : Prop := ∃ F cs, Rep.rep F W0 cs c ∧ w.rangeAt b 0 cs ∧ b < w.heap.size
theorem KAt.at {W0 w : World} {b : Nat} {c : DCode} (h : KAt W0 w b c) (hx : Ext W0 w) : At w b 0 c := by
  obtain ⟨F, cs, hr, hc, _⟩ := h
  exact ⟨F, cs, rep_ext hr hx, hc⟩
theorem KAt.keep {W0 w w' : World} {b : Nat} {c : DCode} (h : KAt W0 w b c) (hb : w'.heap[b]? = w.heap[b]?) (hs : w.heap.size ≤ w'.heap.size) : KAt W0 w' b c := by
  obtain ⟨F, cs, hr, hc, hl⟩ := h
  exact ⟨F, cs, hr, rangeAt_keep hc hb, by omega⟩
theorem KAt.lt {W0 w : World} {b : Nat} {c : DCode} (h : KAt W0 w b c) : b < w.heap.size := by obtain ⟨_, _, _, _, h⟩ := h; exact h
theorem spread_ok {w W0 : World} {b m n a : Nat} {c : DCode} {ms0 : List Bool} (hk : KAt W0 w b c) (e0 : Ext W0 w) (hc : CodeR c) (hn : c.ins.length = n) (ha : a < n) (hM : Mine [m] w (.slice (some ⟨m, 0, none⟩) n n) ms0) (hl : ms0.length = n) (h0 : W0.heap.size ≤ m) (hb : b ≠ m)
    (hclo : ∀ i, mkd ms0 i → i ≠ a → ∀ j ∈ nextN c i, mkd ms0 j) :
    CALL Tryz.prog 126 [.pointer (some ⟨b, 0, none⟩), .slice (some ⟨m, 0, none⟩) n n, .int .i64 (a : Int)] w fun r w' => r = .tuple #[] ∧ ChgI m (m + 1) w w' ∧ Mine [m] w' (.slice (some ⟨m, 0, none⟩) n n) (setB n fun i => mkd ms0 i ∨ RP (nextN c) a i) := by
  refine F126_call ?_
  unfold F126
  have hil := hc.f.ins
  have hnl := fun {i j : Nat} => nextN_lt hc (i := i) (j := j)
  rw [hn] at hnl hil
  refine op_build1R (x := (a : Int)) u23 ty3 z3 (by decide) (mine_int (by unfold I64; omega)) fun v11 w1 hx1 hr1 => ?_
  have hW1 : WI w w1 m n w.heap.size w1.heap.size v11 [a] ms0 := ⟨hx1.toI, hr1, hM.ext hx1, Nat.le_refl _, hM.lt m (by simp), hx1.size, Nat.le_refl _⟩
  have hKA : ∀ {w' : World} {lo hi tv L ms}, WI w w' m n lo hi tv L ms → At w' b 0 c := fun h => (hk.keep (h.chg.block b hk.lt (by omega)) h.chg.size).at (e0.chgI h.chg h0)
  refine loopC (1 + n) (fun h us w' => ∃ (tv : Value) (lo hi : Nat) (L : List Nat) (ms : List Bool), us = [tv] ∧ WI w w' m n lo hi tv L ms ∧ SInv (nextN c) n a ms0 ms L h) 0 (Nat.zero_le _) ⟨v11, _, _, [a], _, rfl, hW1, SInv.start hl ha⟩ ?_
  rintro h mk u w4 hkm ⟨tv, lo, hi, L, ms, hu, hW4, hS4⟩
  simp only [List.map_cons, List.map_nil, List.cons.injEq, and_true] at hu
  rw [hu]
  have hb4 := hS4.bound
  refine rd_len u23 hW4.row.is ?_
  rw [ints_len]
  refine rd_gtr ?_
  refine br (fun hlt => ?_) (fun hge => ?_)
  case refine_2 =>
    have hL0 : L = [] := List.eq_nil_of_length_eq_zero (by omega)
    rw [hL0] at hS4
    have hfin := hS4.fin hclo
    have hms : ms = setB n (fun i => mkd ms0 i ∨ RP (nextN c) a i) := marks_setB hS4.len fun i hi => hfin i
    rw [← hms]
    exact ⟨rfl, hW4.chg, hW4.mks⟩
  obtain ⟨z, hz⟩ : ∃ z, L.length = z + 1 := ⟨L.length - 1, by omega⟩
  have hzl : z < L.length := by omega
  have hne : ints L ≠ [] := fun e => by have := congrArg List.length e; rw [ints_len, hz] at this; cases this
  refine rd_len u23 hW4.row.is ?_
  rw [ints_len]
  refine rd_sub (by unfold I64; omega) ?_
  have ez : (L.length : Int) - 1 = (z : Int) := by omega
  rw [ez]
  refine rd_indexN u23 ty3 (i := z) hW4.row.is (by rw [ints_len]; exact hzl) fun b1 o1 hA1 => ?_
  rw [ints_get] at hA1
  refine rd_loadI ty3 hA1 (Ext.refl _) fun _ => ?_
  generalize hx : L[z] = x at *
  refine rd_len u23 hW4.row.is ?_
  rw [ints_len]
  refine rd_sub (by unfold I64; omega) ?_
  rw [ez]
  obtain ⟨g, cap, hv4, hcap, hr4⟩ := rowI_cut hW4.row hne (k := z) (by rw [ints_len]; omega)
  rw [ints_len] at hv4 hcap
  rw [hv4]
  refine rd_cutG (α := Int) u23 ty3 (by omega) hcap ?_
  have hLz : L = L.take z ++ [x] := by
    have := List.take_succ_eq_append_getElem hzl
    rw [← hz, List.take_length, hx] at this
    exact this
  rw [← ints_take] at hr4
  have hW5 : WI w w4 m n lo hi (.slice (some ⟨g, 0, none⟩) z cap) (L.take z) ms := ⟨hW4.chg, hr4, hW4.mks, hW4.l0, hW4.m1, hW4.h2, hW4.h3⟩
  have hxn : x < n := (hS4.tdo x (by rw [hLz]; simp)).2
  refine (nextIn_ok (hKA hW5) (Ext.refl _) hc (by rw [hn]; exact hxn)).mono ?_
  rintro v27 w6 ⟨hx6, ho6⟩
  have hW6 := hW5.step hx6
  have hI6 := hW5.h3
  have hm6 := hW5.mks.lt m (by simp)
  have hLm : ∀ i, i ∈ L ↔ i ∈ L.take z ∨ i = x := fun i => by
    have : i ∈ L ↔ i ∈ L.take z ++ [x] := by rw [← hLz]
    rw [this]; simp
  have hS6 : SIn2 (nextN c) n a ms0 ms (L.take z) h x 0 := hS4.pop hLm (by rw [List.length_take]; omega)
  have hl2 := nextN_len c x
  refine rd_len u23 ho6.is ?_
  rw [ints_len]
  refine loopC (nextN c x).length (fun q us w' => ∃ (tv : Value) (lo hi : Nat) (L : List Nat) (ms : List Bool), us = [tv, .int .i64 (q : Int)] ∧ q ≤ (nextN c x).length ∧ WI w w' m n lo hi tv L ms ∧ SIn2 (nextN c) n a ms0 ms L h x q ∧ OwnI w4.heap.size w6.heap.size w' v27 (ints (nextN c x)) ∧ (hi ≤ w4.heap.size ∨ w6.heap.size ≤ lo) ∧ w6.heap.size ≤ w'.heap.size) 0 (Nat.zero_le _) ⟨_, lo, hi, _, ms, rfl, Nat.zero_le _, hW6, hS6, ho6.toI, .inl hI6, Nat.le_refl _⟩ ?_
  rintro q mk8 u8 w7 hkm8 ⟨tv7, lo7, hi7, L7, ms7, hu8, hql, hW7, hS7, ho7, hd7, hz7⟩
  simp only [List.map_cons, List.map_nil, List.cons.injEq, and_true] at hu8
  obtain ⟨hu81, hu82⟩ := hu8
  rw [hu81, hu82]
  refine rd_lss ?_
  refine br (fun hlt8 => ?_) (fun hge8 => ?_)
  case refine_2 =>
    exact ⟨mk - 1, by omega, h + 1, by omega, tv7, lo7, hi7, L7, ms7, rfl, hW7, hS7.done (by omega)⟩
  have hq : q < (nextN c x).length := by omega
  have hy := hnl hxn (List.getElem_mem hq)
  refine rd_indexN u23 ty3 (i := q) ho7.is (by rw [ints_len]; exact hq) fun b3 o3 hA3 => ?_
  rw [ints_get] at hA3
  refine rd_loadI ty3 hA3 (Ext.refl _) fun _ => ?_
  have hlen7 := hS7.len
  refine rd_indexN u72 ty4 hW7.mks.is (by rw [hlen7]; exact hy.1) fun b2 o2 hA2 => ?_
  refine rd_loadB ty4 hA2 (Ext.refl _) ?_
  refine rd_not ?_
  have hmk7 := mkd_get (ms := ms7) (i := (nextN c x)[q]) (by rw [hlen7]; exact hy.1)
  refine br_b (fun hf => ?_) (fun hf => ?_)
  · have hnm : ¬ mkd ms7 (nextN c x)[q] := by rw [hmk7]; simpa using hf
    refine rd_elt (α := Bool) rfl u72 ty4 hy.1 ?_
    refine opu_elt (α := Bool) rfl ty4 hW7.mks hlen7 hy.1 mine_boolT fun w8 hc8 hm8 => ?_
    have hW8 := hW7.mark hc8 hm8
    have hc8' : ChgI m (m + 1) w7 w8 := hc8.toI fun b hb => by simp only [List.mem_cons, List.not_mem_nil, or_false] at hb; omega
    have ho8 := ho7.chg hc8' (by omega)
    have hS8 := hS7.push hq hy.1 hnm
    generalize (nextN c x)[q] = y at *
    have hLb : L7.length ≤ 2 + n := by
      have h1 := hS7.cnt
      have h2 := cntM_le ms7
      omega
    refine op_pushD1 (x := (y : Int)) u23 ty3 z3 zc3 (by decide) hW8.row (ownI_int 0 0 (by unfold I64; omega)) (by rw [maxLen_eq, ints_len]; omega) (by rw [ints_len]; omega) fun v54 w9 lo9 hi9 hc9 hr9 hd9 => ?_
    have hW9 := hW8.push hc9 hr9 hd9
    have hsz8 := hc8'.size
    refine rd_inc (by omega) ?_
    exact ⟨mk8 - 1, by omega, q + 1, by omega, v54, lo9, hi9, L7 ++ [y], _, rfl, by omega, hW9, hS8, ho8.chg hc9 (by omega), by omega, by have := hc9.size; omega⟩
  · have hnm : mkd ms7 (nextN c x)[q] := by rw [hmk7]; simpa using hf
    refine rd_inc (by omega) ?_
    exact ⟨mk8 - 1, by omega, q + 1, by omega, tv7, lo7, hi7, L7, ms7, rfl, by omega, hW7, hS7.skip hq hnm, ho7, hd7, hz7⟩
end Go.Proofs.YtjgfldfbljmhhaaGreat
namespace Go.Proofs.YtjgfldfbljmhhaaGreat
open Go Go.Sh Go.Proofs
set_option linter.unusedVariables false
/-- spec.l09Marked -/
def F77 (a0 : Value) (w : World) (R : Value → World → Prop) : Prop :=
  OP Tryz.prog (Instr.buildSlice 23 0 #[]) w fun x5 w =>
  LOOPI [3, 4] [x5, (Value.int .i64 0)] w fun u3 w next3 =>
   RD Tryz.prog (Builtin.len_ #[72] 3 [a0].toArray) w fun x8 =>
   RD Tryz.prog (bin .lss 3 (.tmp 0) (.tmp 0) (u3 4) x8) w fun x9 =>
   BR x9
    (RD Tryz.prog (Instr.indexAt 72 a0 (u3 4)) w fun x14 =>
    RD Tryz.prog (Instr.loadAt 4 x14) w fun x15 =>
    BR x15
     (OP Tryz.prog (Instr.buildSlice 23 1 #[(0, (u3 4))]) w fun x18 w =>
     OP Tryz.prog (Builtin.append_ #[23, 23] 23 [(u3 3), x18].toArray) w fun x19 w =>
     RD Tryz.prog (bin .add 3 (.tmp 0) (.const undef) (u3 4) (Value.int .i64 1)) w fun x11 =>
     next3 [x19, x11] w)
     (RD Tryz.prog (bin .add 3 (.tmp 0) (.const undef) (u3 4) (Value.int .i64 1)) w fun x11 =>
     next3 [(u3 3), x11] w))
    (R (u3 3) w)
def cfg77 : Cfg := { ext := extL, joins := [], loops := [(3, 1048536, [3, 4])], draws := [], pars := [] }
theorem F77_eq (a0 : Value) (w : World) (R : Value → World → Prop) : vcF Tryz.prog cfg77 Tryz.f77 [a0] w R = F77 a0 w R := by kernel_rfl
theorem F77_call {a0 : Value} {w : World} {R : Value → World → Prop} (h : F77 a0 w R) : CALL Tryz.prog 77 [a0] w R :=
  call_of (g := cfg77) ent mixed Tryz.func77 (Nat.le_of_ble_eq_true (by kernel_rfl)) (by kernel_rfl) (F77_eq a0 w R ▸ h)
/-- spec.l09Live -/
def F185 (a0 a1 : Value) (w : World) (R : Value → World → Prop) : Prop :=
  OP Tryz.prog (Instr.box 35 a0) w fun x2 w =>
  (fun w => RD Tryz.prog (Instr.loadAt 35 x2) w fun x6 =>
  RD Tryz.prog (Instr.fieldAt 35 x2 3) w fun x7 =>
  RD Tryz.prog (Instr.loadAt 23 x7) w fun x8 =>
  RD Tryz.prog (Instr.indexAt 23 x8 a1) w fun x10 =>
  RD Tryz.prog (Instr.loadAt 3 x10) w fun x11 =>
  CALL Tryz.prog 235 [x6, x11] w fun x12 w =>
  RD Tryz.prog (Instr.fieldAt 35 x2 3) w fun x14 =>
  RD Tryz.prog (Instr.loadAt 23 x14) w fun x15 =>
  RD Tryz.prog (Instr.indexAt 23 x15 a1) w fun x17 =>
  RD Tryz.prog (Instr.loadAt 3 x17) w fun x18 =>
  RD Tryz.prog (Instr.indexAt 72 x12 x18) w fun x19 =>
  OPU Tryz.prog (Instr.storeAt 4 x19 (Value.bool true)) w fun w =>
  R x12 w) (World.drew1 w)
def cfg185 : Cfg := { ext := extL, joins := [], loops := [], draws := [(1, [0, 1, 2, 3, 4, 5, 6, 7], 0)], pars := [] }
theorem F185_eq (a0 a1 : Value) (w : World) (R : Value → World → Prop) : vcF Tryz.prog cfg185 Tryz.f185 [a0, a1] w R = F185 a0 a1 w R := by kernel_rfl
theorem F185_call {a0 a1 : Value} {w : World} {R : Value → World → Prop} (h : F185 a0 a1 w R) : CALL Tryz.prog 185 [a0, a1] w R :=
  call_of (g := cfg185) ent mixed Tryz.func185 (Nat.le_of_ble_eq_true (by kernel_rfl)) (by kernel_rfl) (F185_eq a0 a1 w R ▸ h)
/-- spec.l10Ops -/
def F189 (a0 a1 a2 : Value) (w : World) (R : Value → World → Prop) : Prop :=
  OP Tryz.prog (Instr.box 35 a0) w fun x3 w =>
  RD Tryz.prog (Instr.loadAt 35 x3) w fun x10 =>
  CALL Tryz.prog 185 [x10, a1] w fun x12 w =>
  RD Tryz.prog (Instr.fieldAt 35 x3 2) w fun x13 =>
  RD Tryz.prog (Instr.loadAt 22 x13) w fun x14 =>
  RD Tryz.prog (Builtin.len_ #[22] 3 [x14].toArray) w fun x15 =>
  OP Tryz.prog (Instr.makeSlice 72 x15 x15) w fun x16 w =>
  LOOPI [9] [(Value.int .i64 0)] w fun u4 w next4 =>
   RD Tryz.prog (Instr.fieldAt 35 x3 4) w fun x18 =>
   RD Tryz.prog (Instr.loadAt 33 x18) w fun x19 =>
   RD Tryz.prog (Builtin.len_ #[33] 3 [x19].toArray) w fun x20 =>
   RD Tryz.prog (bin .lss 3 (.tmp 0) (.tmp 0) (u4 9) x20) w fun x21 =>
   BR x21
    (RD Tryz.prog (Instr.indexAt 72 x12 (u4 9)) w fun x26 =>
    RD Tryz.prog (Instr.loadAt 4 x26) w fun x27 =>
    BR x27
    (RD Tryz.prog (Instr.fieldAt 35 x3 4) w fun x29 =>
    RD Tryz.prog (Instr.loadAt 33 x29) w fun x30 =>
    RD Tryz.prog (Instr.indexAt 33 x30 (u4 9)) w fun x32 =>
    RD Tryz.prog (Instr.fieldAt 136 x32 0) w fun x33 =>
    RD Tryz.prog (Instr.loadAt 3 x33) w fun x34 =>
    RD Tryz.prog (bin .eql 3 (.tmp 0) (.tmp 0) x34 a2) w fun x36 =>
    BR x36
     (RD Tryz.prog (Instr.fieldAt 35 x3 4) w fun x39 =>
     RD Tryz.prog (Instr.loadAt 33 x39) w fun x40 =>
     RD Tryz.prog (Instr.indexAt 33 x40 (u4 9)) w fun x42 =>
     RD Tryz.prog (Instr.fieldAt 136 x42 1) w fun x43 =>
     RD Tryz.prog (Instr.loadAt 3 x43) w fun x44 =>
     RD Tryz.prog (Instr.indexAt 72 x16 x44) w fun x45 =>
     OPU Tryz.prog (Instr.storeAt 4 x45 (Value.bool true)) w fun w =>
     RD Tryz.prog (bin .add 3 (.tmp 0) (.const undef) (u4 9) (Value.int .i64 1)) w fun x23 =>
     next4 [x23] w)
     (RD Tryz.prog (bin .add 3 (.tmp 0) (.const undef) (u4 9) (Value.int .i64 1)) w fun x23 =>
     next4 [x23] w))
    (RD Tryz.prog (bin .add 3 (.tmp 0) (.const undef) (u4 9) (Value.int .i64 1)) w fun x23 =>
     next4 [x23] w))
    (CALL Tryz.prog 77 [x16] w fun x47 w =>
    R x47 w)
def cfg189 : Cfg := { ext := extL, joins := [], loops := [(4, 70368744047104, [9])], draws := [], pars := [] }
theorem F189_eq (a0 a1 a2 : Value) (w : World) (R : Value → World → Prop) : vcF Tryz.prog cfg189 Tryz.f189 [a0, a1, a2] w R = F189 a0 a1 a2 w R := by kernel_rfl
theorem F189_call {a0 a1 a2 : Value} {w : World} {R : Value → World → Prop} (h : F189 a0 a1 a2 w R) : CALL Tryz.prog 189 [a0, a1, a2] w R :=
  call_of (g := cfg189) ent mixed Tryz.func189 (Nat.le_of_ble_eq_true (by kernel_rfl)) (by kernel_rfl) (F189_eq a0 a1 a2 w R ▸ h)
set_option linter.unusedVariables false
set_option linter.unusedSimpArgs false
/-- the numbers that are marked -/
def idxM (ms : List Bool) (n : Nat) : List Nat := (List.range n).filter fun i => ms.getD i false
theorem idxM_succ (ms : List Bool) (n : Nat) : idxM ms (n + 1) = idxM ms n ++ (if ms.getD n false then [n] else []) := by
  simp only [idxM, List.range_succ, List.filter_append, List.filter_cons, List.filter_nil]
theorem idxM_len (ms : List Bool) (n : Nat) : (idxM ms n).length ≤ n := Nat.le_trans (List.length_filter_le _ _) (by simp)
theorem idxM_setB (n : Nat) (p : Nat → Prop) : idxM (setB n p) n = setL n p := by
  refine List.filter_congr fun i hi => ?_
  have hi' := List.mem_range.1 hi
  have := mkd_setB (n := n) (p := p) (i := i)
  unfold mkd at this
  by_cases h : p i
  · rw [this.2 ⟨hi', h⟩]; simp [h]
  · have h2 : (setB n p).getD i false ≠ true := fun e => h (this.1 e).2
    simp only [h, decide_false]
    cases hh : (setB n p).getD i false
    · rfl
    · exact absurd hh h2
theorem l09Marked_ok {w W0 : World} {v0 : Value} {ms : List Bool} (h0 : Is W0 v0 ms) (e0 : Ext W0 w) (hn : ms.length ≤ 1000000) :
    CALL Tryz.prog 77 [v0] w fun r w' => Ext w w' ∧ Own w.heap.size w' r (ints (idxM ms ms.length)) := by
  refine F77_call ?_
  unfold F77
  refine op_build0I (α := Int) u23 ty3 fun a w1 hx1 hr1 => ?_
  have hs1 := hx1.size
  refine loopC ms.length (fun k us w' => ∃ (v : Value), us = [v, .int .i64 (k : Int)] ∧ k ≤ ms.length ∧ Ext w w' ∧ RowI w.heap.size w'.heap.size 3 w' v (ints (idxM ms k))) 0 (Nat.zero_le _) ⟨_, rfl, Nat.zero_le _, hx1, hr1.mono hs1 (Nat.le_refl _)⟩ ?_
  rintro k mk u w2 hkm ⟨v, hu, hkl, hx2, hr2⟩
  simp only [List.map_cons, List.map_nil, List.cons.injEq, and_true] at hu
  obtain ⟨hu1, hu2⟩ := hu
  rw [hu1, hu2]
  refine rd_len u72 h0 ?_
  refine rd_lss ?_
  refine br (fun hlt => ?_) (fun hge => ?_)
  case refine_2 =>
    have : k = ms.length := by omega
    rw [this] at hr2
    exact ⟨hx2, hr2.own.own⟩
  have hk : k < ms.length := by omega
  have hs2 := hx2.size
  have hg : ms.getD k false = ms[k] := by rw [List.getD_eq_getElem?_getD, List.getElem?_eq_getElem hk]; rfl
  have hil := idxM_len ms k
  refine rd_indexN u72 ty4 h0 hk fun b2 o2 hA2 => ?_
  refine rd_loadB ty4 hA2 (e0.trans hx2) ?_
  refine br_b (fun hf => ?_) (fun hf => ?_)
  · refine op_push (lo2 := w2.heap.size) (hi2 := w2.heap.size) (x := (k : Int)) u23 ty3 z3 zc3 (by decide) hr2 hs2 (ownI_int _ _ (by unfold I64; omega)) (Nat.le_refl _) hs2 (by rw [maxLen_eq, ints_len]; omega) (by rw [ints_len]; omega) fun v54 w9 hc9 hr9 => ?_
    refine rd_inc (by omega) ?_
    refine ⟨mk - 1, by omega, k + 1, by omega, v54, rfl, by omega, hx2.chgI hc9 (Nat.le_refl _), ?_⟩
    rw [idxM_succ, hg, hf, if_pos rfl, ints_append]
    exact hr9
  · refine rd_inc (by omega) ?_
    refine ⟨mk - 1, by omega, k + 1, by omega, v, rfl, by omega, hx2, ?_⟩
    rw [idxM_succ, hg, hf]
    simpa using hr2
/-- what is met of a procedure -/
def LiveP (c : DCode) (p : Nat) (i : Nat) : Prop := i = (en c p).toNat ∨ RP (nextN c) (en c p).toNat i
theorem l09Live_ok {w W0 : World} {v0 : Value} {c : DCode} {p : Nat} (h0 : Is W0 v0 c) (e0 : Ext W0 w) (hc : CodeR c) (hp : p < c.entry.length) :
    CALL Tryz.prog 185 [v0, .int .i64 (p : Int)] w fun r w' => Ext w w' ∧ Own w.heap.size w' r (setB c.ins.length (LiveP c p)) := by
  refine F185_call ?_
  unfold F185
  have hen := proc_en hc hp
  refine op_box h0 e0 fun w1 hx1 hA => ?_
  have hx2 := ext_drew w1
  generalize World.drew1 w1 = w2 at *
  have hs1 := hx1.size
  have hs2 := hx2.size
  obtain ⟨a, hae⟩ : ∃ a : Nat, en c p = (a : Int) := ⟨(en c p).toNat, by omega⟩
  have hla : LiveP c p = fun i => i = a ∨ RP (nextN c) a i := by
    funext i; unfold LiveP; rw [hae]; rfl
  have ha : a < c.ins.length := by omega
  rw [hla]
  refine rd_load ty35 hA hx2 fun v6 h6 => ?_
  refine rd_fld fd35_3 ?_
  refine rd_load ty23 (at_DCode_3 hA) hx2 fun v8 h8 => ?_
  refine rd_indexN u23 ty3 h8 hp fun b1 o1 hA1 => ?_
  rw [en_get hp, hae] at hA1
  refine rd_loadI ty3 hA1 hx2 fun _ => ?_
  refine (l09ReachM_ok h6 hx2 hc ha).mono ?_
  rintro _ w3 ⟨hx3, m, rfl, hm, hM⟩
  have hs3 := hx3.size
  refine rd_fld fd35_3 ?_
  refine rd_load ty23 (at_DCode_3 hA) (hx2.trans hx3) fun v15 h15 => ?_
  refine rd_indexN u23 ty3 h15 hp fun b2 o2 hA2 => ?_
  rw [en_get hp, hae] at hA2
  refine rd_loadI ty3 hA2 (hx2.trans hx3) fun _ => ?_
  refine rd_elt (α := Bool) rfl u72 ty4 ha ?_
  refine opu_elt (α := Bool) rfl ty4 hM setB_len ha mine_boolT fun w4 hc4 hm4 => ?_
  have hset : (setB c.ins.length (RP (nextN c) a)).set a true = setB c.ins.length (fun i => i = a ∨ RP (nextN c) a i) := marks_setB (by rw [List.length_set, setB_len]) fun i hi => by
    rw [mkd_set (by rw [setB_len]; exact ha), mkd_setB]
    constructor
    · rintro (⟨_, h⟩ | h)
      · exact .inr h
      · exact .inl h
    · rintro (h | h)
      · exact .inr h
      · exact .inl ⟨hi, h⟩
  rw [hset] at hm4
  have hc4' : ChgI m (m + 1) w3 w4 := hc4.toI fun b hb => by simp only [List.mem_cons, List.not_mem_nil, or_false] at hb; omega
  exact ⟨((hx1.trans hx2).trans hx3).chgI hc4' (by omega), [m], hm4, fun b hb => by simp only [List.mem_cons, List.not_mem_nil, or_false] at hb; omega⟩
/-- a new list of marks, none set -/
theorem op_makeB {w : World} {n : Nat} {K : Value → World → Prop} (h0 : 0 < n) (hn : n ≤ 1000000)
    (k : ∀ w', Ext w w' → Mine [w.heap.size] w' (.slice (some ⟨w.heap.size, 0, none⟩) n n) (List.replicate n false) → K (.slice (some ⟨w.heap.size, 0, none⟩) n n) w') : OP Tryz.prog (Instr.makeSlice 72 (.int .i64 (n : Int)) (.int .i64 (n : Int))) w K :=
  op_makeZ (α := Bool) u72 ty4 rfl rfl zlBf (by omega) (by omega) fun w2 hx2 hr2 => by
    refine k w2 hx2 ?_
    obtain ⟨F, hM, hF⟩ := hr2.own
    obtain ⟨b, o, cap, hv, hF2⟩ := flat_one hM (by intro e; have := congrArg List.length e; simp at this; omega)
    simp only [Value.slice.injEq, Option.some.injEq, Addr.mk.injEq, List.cons.injEq, and_true] at hv
    obtain ⟨⟨hb, ho⟩, _⟩ := hv
    rw [← hb] at hF2
    rw [hF2] at hM
    exact hM
theorem replicate_setB (n : Nat) {p : Nat → Prop} (h : ∀ i, ¬ p i) : List.replicate n false = setB n p :=
  marks_setB (by simp) fun i _ => ⟨fun h => absurd h mkd_replicate, fun hp => absurd hp (h i)⟩
theorem setB_set {n q : Nat} {p p' : Nat → Prop} (hq : q < n) (h : ∀ i, p' i ↔ p i ∨ i = q) : (setB n p).set q true = setB n p' :=
  marks_setB (by rw [List.length_set, setB_len]) fun i hi => by
    rw [mkd_set (by rw [setB_len]; exact hq), mkd_setB, h]
    exact ⟨fun h => h.imp (·.2) id, fun h => h.imp (fun h => ⟨hi, h⟩) id⟩
/-- what a procedure does by an instruction of this kind, to q -/
def OpsP (c : DCode) (p : Nat) (op : Int) (q : Nat) : Prop := ∃ i, i < c.ins.length ∧ LiveP c p i ∧ (insAt c i).op = op ∧ (insAt c i).arg = (q : Int)
theorem l10Ops_ok {w W0 : World} {v0 : Value} {c : DCode} {p : Nat} {op : Int} (h0 : Is W0 v0 c) (e0 : Ext W0 w) (hc : CodeR c) (hp : p < c.entry.length) (hop : op = 4 ∨ op = 5) :
    CALL Tryz.prog 189 [v0, .int .i64 (p : Int), .int .i64 op] w fun r w' => Ext w w' ∧ Own w.heap.size w' r (ints (setL c.procs.length (OpsP c p op))) := by
  refine F189_call ?_
  unfold F189
  have hil := hc.f.ins
  have h8 := hc.1.procs8
  refine op_box h0 e0 fun w1 hx1 hA => ?_
  refine rd_load ty35 hA (Ext.refl _) fun v10 h10 => ?_
  refine (l09Live_ok h10 (Ext.refl _) hc hp).mono ?_
  rintro v12 w2 ⟨hx2, ho2⟩
  refine rd_fld fd35_2 ?_
  refine rd_load ty22 (at_DCode_2 hA) hx2 fun v14 h14 => ?_
  refine rd_len u22 h14 ?_
  have hs1 := hx1.size
  have hs2 := hx2.size
  refine op_makeB h8.2 (by omega) fun w3 hx3 hM3 => ?_
  have hs3 := hx3.size
  have ho3 := ho2.toI.ext hx3
  have hm3 := hM3.lt _ (List.mem_singleton.2 rfl)
  have hx13 := hx2.trans hx3
  generalize hm : w2.heap.size = m at *
  rw [replicate_setB c.procs.length (p := fun q => ∃ i, i < 0 ∧ LiveP c p i ∧ (insAt c i).op = op ∧ (insAt c i).arg = (q : Int)) (fun i ⟨j, h, _⟩ => by omega)] at hM3
  refine loopC c.ins.length (fun k us w' => us = [.int .i64 (k : Int)] ∧ k ≤ c.ins.length ∧ ChgI m (m + 1) w3 w' ∧ Mine [m] w' (.slice (some ⟨m, 0, none⟩) c.procs.length c.procs.length) (setB c.procs.length fun q => ∃ i, i < k ∧ LiveP c p i ∧ (insAt c i).op = op ∧ (insAt c i).arg = (q : Int))) 0 (Nat.zero_le _) ⟨rfl, Nat.zero_le _, ChgI.refl _, hM3⟩ ?_
  rintro k mk u w4 hkm ⟨hu, hkl, hc4, hM4⟩
  simp only [List.map_cons, List.map_nil, List.cons.injEq, and_true] at hu
  rw [hu]
  have hx4 : Ext w1 w4 := hx13.chgI hc4 (by omega)
  have ho4 := ho3.chg hc4 (by omega)
  refine rd_fld fd35_4 ?_
  refine rd_load ty33 (at_DCode_4 hA) hx4 fun v19 h19 => ?_
  refine rd_len u33 h19 ?_
  refine rd_lss ?_
  refine br (fun hlt => ?_) (fun hge => ?_)
  case refine_2 =>
    have hke : k = c.ins.length := by omega
    rw [hke] at hM4
    refine (l09Marked_ok hM4.is (Ext.refl _) (by rw [setB_len]; omega)).mono ?_
    rintro r w5 ⟨hx5, ho5⟩
    rw [setB_len, idxM_setB] at ho5
    have hsz := hx4.size
    exact ⟨(hx1.trans hx4).trans hx5, ho5.mono (by omega)⟩
  have hk : k < c.ins.length := by omega
  have hno : ¬ (LiveP c p k ∧ (insAt c k).op = op) → (setB c.procs.length fun q => ∃ i, i < k ∧ LiveP c p i ∧ (insAt c i).op = op ∧ (insAt c i).arg = (q : Int)) = setB c.procs.length fun q => ∃ i, i < k + 1 ∧ LiveP c p i ∧ (insAt c i).op = op ∧ (insAt c i).arg = (q : Int) := fun hn => setB_congr fun q _ => by
    constructor
    · rintro ⟨i, h1, h2⟩
      exact ⟨i, by omega, h2⟩
    · rintro ⟨i, h1, h2, h3, h4⟩
      by_cases h : i = k
      · subst h; exact absurd ⟨h2, h3⟩ hn
      · exact ⟨i, by omega, h2, h3, h4⟩
  refine rd_indexN u72 ty4 (i := k) ho4.is (by rw [setB_len]; exact hk) fun b2 o2 hA2 => ?_
  refine rd_loadB ty4 hA2 (Ext.refl _) ?_
  have hmk := mkd_setB (n := c.ins.length) (p := LiveP c p) (i := k)
  rw [mkd_get (by rw [setB_len]; exact hk)] at hmk
  refine br_b (fun hf => ?_) (fun hf => ?_)
  case refine_2 =>
    refine rd_inc (by omega) ?_
    refine ⟨mk - 1, by omega, k + 1, by omega, rfl, by omega, hc4, ?_⟩
    rw [← hno fun h => by rw [hmk.2 ⟨hk, h.1⟩] at hf; cases hf]
    exact hM4
  have hlive := (hmk.1 hf).2
  refine rd_fld fd35_4 ?_
  refine rd_load ty33 (at_DCode_4 hA) hx4 fun v30 h30 => ?_
  refine rd_indexN u33 ty136 h30 hk fun b3 o3 hA3 => ?_
  rw [insAt_get] at hA3
  refine rd_fld fd136_0 ?_
  refine rd_loadI ty3 (at_DIns_0 hA3) hx4 fun _ => ?_
  refine rd_eql ?_
  refine br (fun ho => ?_) (fun ho => ?_)
  case refine_2 =>
    refine rd_inc (by omega) ?_
    refine ⟨mk - 1, by omega, k + 1, by omega, rfl, by omega, hc4, ?_⟩
    rw [← hno fun h => ho h.2]
    exact hM4
  have harg := (ins_right hc hk).2.1
  unfold argMost at harg
  rw [if_neg (by omega), if_pos (by omega)] at harg
  obtain ⟨q, hq⟩ : ∃ q : Nat, (insAt c k).arg = (q : Int) := ⟨(insAt c k).arg.toNat, by omega⟩
  have hql : q < c.procs.length := by omega
  refine rd_fld fd35_4 ?_
  refine rd_load ty33 (at_DCode_4 hA) hx4 fun v40 h40 => ?_
  refine rd_indexN u33 ty136 h40 hk fun b5 o5 hA5 => ?_
  rw [insAt_get] at hA5
  refine rd_fld fd136_1 ?_
  refine rd_loadI ty3 (at_DIns_1 hA5) hx4 fun _ => ?_
  rw [hq]
  refine rd_elt (α := Bool) rfl u72 ty4 hql ?_
  refine opu_elt (α := Bool) rfl ty4 hM4 setB_len hql mine_boolT fun w5 hc5 hm5 => ?_
  have hc5' : ChgI m (m + 1) w4 w5 := hc5.toI fun b hb => by simp only [List.mem_cons, List.not_mem_nil, or_false] at hb; omega
  refine rd_inc (by omega) ?_
  refine ⟨mk - 1, by omega, k + 1, by omega, rfl, by omega, hc4.trans hc5', ?_⟩
  rw [← setB_set (p := fun q => ∃ i, i < k ∧ LiveP c p i ∧ (insAt c i).op = op ∧ (insAt c i).arg = (q : Int)) hql fun r => ?_]
  · exact hm5
  · constructor
    · rintro ⟨i, h1, h2, h3, h4⟩
      by_cases h : i = k
      · subst h; right; omega
      · exact .inl ⟨i, by omega, h2, h3, h4⟩
    · rintro (⟨i, h1, h2⟩ | rfl)
      · exact ⟨i, by omega, h2⟩
      · exact ⟨k, by omega, hlive, ho, hq⟩
end Go.Proofs.YtjgfldfbljmhhaaGreat
namespace Go.Sh
set_option linter.unusedVariables false
set_option linter.unusedSimpArgs false
/-- the bits of m that are not in n -/
def andN (m n : Nat) : Nat := Nat.bitwise (fun a b => a && !b) m n
theorem andN_bit (m n i : Nat) : (andN m n).testBit i = (m.testBit i && !n.testBit i) := Nat.testBit_bitwise rfl m n i
theorem andN_le (m n : Nat) : andN m n ≤ m := Nat.le_of_testBit fun i h => by rw [andN_bit] at h; simp at h; exact h.1
section
variable {P : Program} {w : World} {K : Value → Prop} {t : TypeId} {x y : Operand}
theorem rd_and {m n : Nat} (hm : m < 4611686018427387904) (hn : n < 4611686018427387904) (k : K (.int .i64 ((m &&& n : Nat) : Int))) : RD P (bin .and t x y (.int .i64 (m : Int)) (.int .i64 (n : Int))) w K := by
  have hlt : m &&& n ≤ m := Nat.and_le_left
  refine rd_of (fun w' _ => ?_) k
  have e1 : IntKind.i64.wrap ((m &&& n : Nat) : Int) = ((m &&& n : Nat) : Int) := IntWalk.i64_in _ (by omega)
  have e2 : ((BitVec.ofInt 64 (m : Int)) &&& (BitVec.ofInt 64 (n : Int))).toNat = m &&& n := by
    simp only [BitVec.toNat_and, BitVec.ofInt_natCast, BitVec.toNat_ofNat]
    rw [Nat.mod_eq_of_lt (by omega), Nat.mod_eq_of_lt (by omega)]
  show (do eqGuard .and t x y (.int .i64 (m : Int)) (.int .i64 (n : Int)); binOp .and t (.int .i64 (m : Int)) (.int .i64 (n : Int)) : Sem Value).run P w' = _
  simp only [eqGuard, binOp, Op.intBits]
  show Result.ok (Value.int .i64 (IntKind.i64.wrap (((BitVec.ofInt 64 (m : Int)) &&& (BitVec.ofInt 64 (n : Int))).toNat : Nat))) w' = _
  rw [e2, e1]
theorem rd_andNot {m n : Nat} (hm : m < 4611686018427387904) (hn : n < 4611686018427387904) (k : K (.int .i64 ((andN m n : Nat) : Int))) : RD P (bin .andNot t x y (.int .i64 (m : Int)) (.int .i64 (n : Int))) w K := by
  have hlt : andN m n ≤ m := andN_le m n
  refine rd_of (fun w' _ => ?_) k
  have e1 : IntKind.i64.wrap ((andN m n : Nat) : Int) = ((andN m n : Nat) : Int) := IntWalk.i64_in _ (by omega)
  have e2 : ((BitVec.ofInt 64 (m : Int)) &&& ~~~(BitVec.ofInt 64 (n : Int))).toNat = andN m n := by
    apply Nat.eq_of_testBit_eq
    intro i
    have hm64 : m < 2 ^ 64 := by omega
    have hn64 : n < 2 ^ 64 := by omega
    simp only [BitVec.testBit_toNat, BitVec.getLsbD_and, BitVec.getLsbD_not, BitVec.ofInt_natCast, BitVec.getLsbD_ofNat, andN_bit]
    by_cases hi : i < 64
    · simp [hi]
    · have : m.testBit i = false := Nat.testBit_lt_two_pow (Nat.lt_of_lt_of_le hm64 (Nat.pow_le_pow_right (by omega) (by omega)))
      simp [hi, this]
  show (do eqGuard .andNot t x y (.int .i64 (m : Int)) (.int .i64 (n : Int)); binOp .andNot t (.int .i64 (m : Int)) (.int .i64 (n : Int)) : Sem Value).run P w' = _
  simp only [eqGuard, binOp, Op.intBits]
  show Result.ok (Value.int .i64 (IntKind.i64.wrap (((BitVec.ofInt 64 (m : Int)) &&& ~~~(BitVec.ofInt 64 (n : Int))).toNat : Nat))) w' = _
  rw [e2, e1]
theorem rd_shr {m n : Nat} {ku : IntKind} (hm : m < 4611686018427387904) (k : K (.int .i64 ((m >>> n : Nat) : Int))) : RD P (bin .shr t x y (.int .i64 (m : Int)) (.int ku (n : Int))) w K := by
  refine rd_of (fun w' _ => ?_) k
  have e0 : ¬ ((n : Int) < 0) := by omega
  have e1 : (m : Int).fdiv (2 ^ (min n 64)) = ((m >>> n : Nat) : Int) := by
    rw [Nat.shiftRight_eq_div_pow]
    have h2 : ((2 : Int) ^ (min n 64)) = ((2 ^ (min n 64) : Nat) : Int) := by simp
    rw [h2, Int.fdiv_eq_ediv_of_nonneg _ (Int.natCast_nonneg _), ← Int.natCast_ediv]
    by_cases h : n ≤ 64
    · rw [Nat.min_eq_left h]
    · rw [Nat.min_eq_right (by omega), Nat.div_eq_of_lt (by omega), Nat.div_eq_of_lt (Nat.lt_of_lt_of_le (by omega : m < 2 ^ 64) (Nat.pow_le_pow_right (by omega) (by omega)))]
  show (do eqGuard .shr t x y (.int .i64 (m : Int)) (.int ku (n : Int)); binOp .shr t (.int .i64 (m : Int)) (.int ku (n : Int)) : Sem Value).run P w' = _
  simp only [eqGuard, binOp, Op.shift, e0, if_false, Int.toNat_natCast]
  show Result.ok (Value.int .i64 ((m : Int).fdiv (2 ^ (min n 64)))) w' = _
  rw [e1]
end
/-- the bits of a number below k, rising -/
def bitsTo (m : Nat) : Nat → List Int
  | 0 => []
  | k + 1 => if m.testBit k then bitsTo m k ++ [(k : Int)] else bitsTo m k
theorem bitsTo_len (m : Nat) : ∀ k, (bitsTo m k).length ≤ k
  | 0 => Nat.le_refl _
  | k + 1 => by
    have := bitsTo_len m k
    rw [bitsTo]
    split
    · simp; omega
    · omega
theorem bitsTo_past {m k : Nat} (h : m < 2 ^ k) : ∀ {j : Nat}, k ≤ j → bitsTo m j = bitsTo m k
  | 0, hj => by rw [Nat.le_zero.1 hj]
  | j + 1, hj => by
    by_cases e : k = j + 1
    · rw [e]
    · rw [bitsTo, if_neg, bitsTo_past h (by omega)]
      rw [Nat.testBit_lt_two_pow (Nat.lt_of_lt_of_le h (Nat.pow_le_pow_right (by omega) (by omega)))]
      simp
def bitsL (m : Nat) : List Int := bitsTo m 64
theorem bitsL_eq {m k : Nat} (h : m < 2 ^ k) (hk : k ≤ 64) : bitsL m = bitsTo m k := bitsTo_past h hk
theorem mem_bitsTo {m : Nat} {x : Int} : ∀ {k : Nat}, x ∈ bitsTo m k ↔ ∃ i, i < k ∧ x = (i : Int) ∧ m.testBit i = true
  | 0 => by simp [bitsTo]
  | k + 1 => by
    rw [bitsTo]
    constructor
    · intro h
      split at h
      · rename_i hb
        rcases List.mem_append.1 h with h | h
        · obtain ⟨i, h1, h2, h3⟩ := mem_bitsTo.1 h; exact ⟨i, by omega, h2, h3⟩
        · simp at h; exact ⟨k, by omega, h, hb⟩
      · obtain ⟨i, h1, h2, h3⟩ := mem_bitsTo.1 h; exact ⟨i, by omega, h2, h3⟩
    · rintro ⟨i, h1, h2, h3⟩
      by_cases e : i = k
      · subst e; rw [if_pos h3]; simp [h2]
      · have := (mem_bitsTo (m := m) (x := x) (k := k)).2 ⟨i, by omega, h2, h3⟩
        split
        · simp [this]
        · exact this
theorem bit_and (m i : Nat) : decide (((m >>> i &&& 1 : Nat) : Int) = 1) = m.testBit i := by
  have h : m >>> i &&& 1 = (m.testBit i).toNat := by
    rw [Nat.and_one_is_mod, Nat.testBit_eq_decide_div_mod_eq, Nat.shiftRight_eq_div_pow]
    rcases Nat.mod_two_eq_zero_or_one (m / 2 ^ i) with h | h <;> simp [h]
  rw [h]
  cases m.testBit i <;> rfl
theorem bit_and2 (m i : Nat) : decide (((m &&& 2 ^ i : Nat) : Int) ≠ 0) = m.testBit i := by
  have hp : 0 < 2 ^ i := Nat.pow_pos (by omega)
  cases hb : m.testBit i with
  | false =>
    have : m &&& 2 ^ i = 0 := by
      apply Nat.eq_of_testBit_eq
      intro j
      rw [Nat.testBit_and, Nat.testBit_two_pow]
      by_cases e : i = j
      · subst e; simp [hb]
      · simp [e]
    simp [this]
  | true =>
    have : m &&& 2 ^ i ≠ 0 := fun e => by
      have := congrArg (·.testBit i) e
      simp [Nat.testBit_and, Nat.testBit_two_pow, hb] at this
    simp only [ne_eq, decide_eq_true_eq]
    omega
theorem shr_zero {m i : Nat} : m >>> i = 0 ↔ m < 2 ^ i := by
  rw [Nat.shiftRight_eq_div_pow, Nat.div_eq_zero_iff]
  have : ¬ (2 ^ i = 0) := by have : 0 < 2 ^ i := Nat.pow_pos (by omega); omega
  simp [this]
end Go.Sh
namespace Go.Proofs.YtjgfldfbljmhhaaGreat
open Go Go.Sh Go.Proofs
set_option linter.unusedVariables false
set_option linter.unusedSimpArgs false
/-- impl.hasBit -/
def F164 (a0 a1 : Value) (w : World) (R : Value → World → Prop) : Prop :=
  RD Tryz.prog (convert 3 77 a1) w fun x7 =>
  RD Tryz.prog (bin .shr 3 (.tmp 0) (.tmp 0) a0 x7) w fun x8 =>
  RD Tryz.prog (bin .and 3 (.tmp 0) (.const undef) x8 (Value.int .i64 1)) w fun x9 =>
  RD Tryz.prog (bin .eql 3 (.tmp 0) (.const undef) x9 (Value.int .i64 1)) w fun x10 =>
  R x10 w
def cfg164 : Cfg := { ext := extL, joins := [], loops := [], draws := [], pars := [] }
theorem F164_eq (a0 a1 : Value) (w : World) (R : Value → World → Prop) : vcF Tryz.prog cfg164 Tryz.f164 [a0, a1] w R = F164 a0 a1 w R := by kernel_rfl
theorem F164_call {a0 a1 : Value} {w : World} {R : Value → World → Prop} (h : F164 a0 a1 w R) : CALL Tryz.prog 164 [a0, a1] w R :=
  call_of (g := cfg164) ent mixed Tryz.func164 (Nat.le_of_ble_eq_true (by kernel_rfl)) (by kernel_rfl) (F164_eq a0 a1 w R ▸ h)
theorem hasBit_ok {w : World} {m : Nat} {i : Nat}   (hm : m < 4611686018427387904) (hi : i < 4611686018427387904) :
    CALL Tryz.prog 164 [.int .i64 (m : Int), .int .i64 (i : Int)] w fun r w' => Ext w w' ∧ (r = .bool (m.testBit i)) := by
  refine F164_call ?_
  unfold F164
  refine rd_uint (by kernel_rfl) u77 (by omega) ?_
  refine rd_shr (by omega) ?_
  refine rd_and (n := 1) (Nat.lt_of_le_of_lt (Nat.shiftRight_le m i) hm) (by omega) ?_
  refine rd_eql ?_
  refine ⟨Ext.refl w, ?_⟩
  rw [bit_and]
/-- impl.bitsOf -/
def F97 (a0 : Value) (w : World) (R : Value → World → Prop) : Prop :=
  LOOPI [3, 4] [(Value.slice none 0 0), (Value.int .i64 0)] w fun u3 w next3 =>
   RD Tryz.prog (convert 3 77 (u3 4)) w fun x7 =>
   RD Tryz.prog (bin .shr 3 (.tmp 0) (.tmp 0) a0 x7) w fun x8 =>
   RD Tryz.prog (bin .neq 3 (.tmp 0) (.const undef) x8 (Value.int .i64 0)) w fun x9 =>
   BR x9
    (CALL Tryz.prog 164 [a0, (u3 4)] w fun x14 w =>
    BR x14
     (OP Tryz.prog (Instr.buildSlice 23 1 #[(0, (u3 4))]) w fun x17 w =>
     OP Tryz.prog (Builtin.append_ #[23, 23] 23 [(u3 3), x17].toArray) w fun x18 w =>
     RD Tryz.prog (bin .add 3 (.tmp 0) (.const undef) (u3 4) (Value.int .i64 1)) w fun x11 =>
     next3 [x18, x11] w)
     (RD Tryz.prog (bin .add 3 (.tmp 0) (.const undef) (u3 4) (Value.int .i64 1)) w fun x11 =>
     next3 [(u3 3), x11] w))
    (R (u3 3) w)
def cfg97 : Cfg := { ext := extL, joins := [], loops := [(3, 524280, [3, 4])], draws := [], pars := [] }
theorem F97_eq (a0 : Value) (w : World) (R : Value → World → Prop) : vcF Tryz.prog cfg97 Tryz.f97 [a0] w R = F97 a0 w R := by kernel_rfl
theorem F97_call {a0 : Value} {w : World} {R : Value → World → Prop} (h : F97 a0 w R) : CALL Tryz.prog 97 [a0] w R :=
  call_of (g := cfg97) ent mixed Tryz.func97 (Nat.le_of_ble_eq_true (by kernel_rfl)) (by kernel_rfl) (F97_eq a0 w R ▸ h)
theorem bitsOf_ok {w : World} {m : Nat}   (hm : m < 4611686018427387904) :
    CALL Tryz.prog 97 [.int .i64 (m : Int)] w fun r w' => Ext w w' ∧ (Own w.heap.size w' r (bitsL m)) := by
  refine F97_call ?_
  unfold F97
  refine loopC (62) (fun k us w' => ∃ v : Value, us = [v, .int .i64 (k : Int)] ∧ Ext w w' ∧ (RowI w.heap.size w'.heap.size 3 w' v (bitsTo m k))) (0) (by omega) ⟨_, rfl, Ext.refl w, rowI_nil _ _ _ _⟩ ?_
  rintro k m3 uu3 w1_ hk3 ⟨v3, hu, hx1_, hrow⟩
  have hs_hx1_ := hx1_.size
  simp only [List.map_cons, List.map_nil, List.cons.injEq, and_true] at hu
  obtain ⟨hu0, hu1⟩ := hu
  try rw [hu0]
  try rw [hu1]
  try clear hu0 hu1
  have hrl := bitsTo_len m k
  refine rd_uint (by kernel_rfl) u77 (by omega) ?_
  refine rd_shr (by omega) ?_
  refine rd_neq ?_
  refine br (fun c1 => ?_) (fun c1 => ?_)
  · have hk62 : k < 62 := by
      rcases Nat.lt_or_ge k 62 with h | h
      · exact h
      · have h1 : m < 2 ^ k := Nat.lt_of_lt_of_le (show m < 2 ^ 62 by omega) (Nat.pow_le_pow_right (by omega) h)
        exact absurd (by rw [shr_zero.2 h1]; rfl) c1
    refine (hasBit_ok (by omega) (by omega)).mono ?_
    rintro _ w2_ ⟨hx2_, rfl⟩
    have hs_hx2_ := hx2_.size
    refine br_b (fun c2 => ?_) (fun c2 => ?_)
    · refine op_push (α := Int) u23 ty3 z3 zc3 (by decide) (hrow.ext hx2_) (by omega) (ownI_int (lo := w2_.heap.size) (hi := w2_.heap.size) (by first | assumption | (unfold I64 at *; omega))) (by omega) (by omega) (by rw [maxLen_eq]; omega) (by omega) fun v18 w3_ hc3_ o18 => ?_
      have hs_hc3_ := hc3_.size
      refine rd_inc (by omega) ?_
      refine ⟨m3 - 1, by omega, k + 1, by omega, _, rfl, (Ext.chgI (hx1_.trans hx2_) hc3_ (by omega)), ?_⟩
      rw [bitsTo, if_pos c2]; exact o18
    · refine rd_inc (by omega) ?_
      refine ⟨m3 - 1, by omega, k + 1, by omega, _, rfl, (hx1_.trans hx2_), ?_⟩
      rw [bitsTo, if_neg (by simp [c2])]; exact (hrow.ext hx2_).mono (by omega) (by omega)
  · refine ⟨hx1_, ?_⟩
    have h1 : m >>> k = 0 := by have := Decidable.not_not.1 c1; omega
    rw [bitsL_eq (shr_zero.1 h1) (by omega)]
    exact hrow.own.own
/-- spec.l12Bit -/
def F119 (a0 : Value) (w : World) (R : Value → World → Prop) : Prop :=
  RD Tryz.prog (convert 3 77 a0) w fun x4 =>
  RD Tryz.prog (bin .shl 3 (.const undef) (.tmp 0) (Value.int .i64 1) x4) w fun x5 =>
  R x5 w
def cfg119 : Cfg := { ext := extL, joins := [], loops := [], draws := [], pars := [] }
theorem F119_eq (a0 : Value) (w : World) (R : Value → World → Prop) : vcF Tryz.prog cfg119 Tryz.f119 [a0] w R = F119 a0 w R := by kernel_rfl
theorem F119_call {a0 : Value} {w : World} {R : Value → World → Prop} (h : F119 a0 w R) : CALL Tryz.prog 119 [a0] w R :=
  call_of (g := cfg119) ent mixed Tryz.func119 (Nat.le_of_ble_eq_true (by kernel_rfl)) (by kernel_rfl) (F119_eq a0 w R ▸ h)
theorem l12Bit_ok {w : World} {i : Nat}   (hi : i < 62) :
    CALL Tryz.prog 119 [.int .i64 (i : Int)] w fun r w' => Ext w w' ∧ (r = .int .i64 ((2 ^ i : Nat) : Int)) := by
  refine F119_call ?_
  unfold F119
  refine rd_uint (by kernel_rfl) u77 (by omega) ?_
  refine rd_shl1 (by omega) ?_
  refine ⟨Ext.refl w, ?_⟩
  rfl
/-- spec.l12In -/
def F76 (a0 a1 : Value) (w : World) (R : Value → World → Prop) : Prop :=
  CALL Tryz.prog 119 [a1] w fun x7 w =>
  RD Tryz.prog (bin .and 3 (.tmp 0) (.tmp 0) a0 x7) w fun x8 =>
  RD Tryz.prog (bin .neq 3 (.tmp 0) (.const undef) x8 (Value.int .i64 0)) w fun x9 =>
  R x9 w
def cfg76 : Cfg := { ext := extL, joins := [], loops := [], draws := [], pars := [] }
theorem F76_eq (a0 a1 : Value) (w : World) (R : Value → World → Prop) : vcF Tryz.prog cfg76 Tryz.f76 [a0, a1] w R = F76 a0 a1 w R := by kernel_rfl
theorem F76_call {a0 a1 : Value} {w : World} {R : Value → World → Prop} (h : F76 a0 a1 w R) : CALL Tryz.prog 76 [a0, a1] w R :=
  call_of (g := cfg76) ent mixed Tryz.func76 (Nat.le_of_ble_eq_true (by kernel_rfl)) (by kernel_rfl) (F76_eq a0 a1 w R ▸ h)
theorem l12In_ok {w : World} {m : Nat} {i : Nat}   (hm : m < 4611686018427387904) (hi : i < 62) :
    CALL Tryz.prog 76 [.int .i64 (m : Int), .int .i64 (i : Int)] w fun r w' => Ext w w' ∧ (r = .bool (m.testBit i)) := by
  refine F76_call ?_
  unfold F76
  refine (l12Bit_ok (by omega)).mono ?_
  rintro _ w1_ ⟨hx1_, rfl⟩
  have hp : 2 ^ i < 4611686018427387904 := Nat.lt_of_lt_of_le (Nat.pow_lt_pow_right (by omega) hi) (by omega : 2 ^ 62 ≤ 4611686018427387904)
  refine rd_and (by omega) (by omega) ?_
  refine rd_neq ?_
  refine ⟨hx1_, ?_⟩
  rw [bit_and2]
/-- spec.l12Ok -/
def F123 (a0 : Value) (w : World) (R : Value → World → Prop) : Prop :=
  CALL Tryz.prog 122 [a0, (Value.int .i64 0), (Value.int .i64 63)] w fun x4 w =>
  R x4 w
def cfg123 : Cfg := { ext := extL, joins := [], loops := [], draws := [], pars := [] }
theorem F123_eq (a0 : Value) (w : World) (R : Value → World → Prop) : vcF Tryz.prog cfg123 Tryz.f123 [a0] w R = F123 a0 w R := by kernel_rfl
theorem F123_call {a0 : Value} {w : World} {R : Value → World → Prop} (h : F123 a0 w R) : CALL Tryz.prog 123 [a0] w R :=
  call_of (g := cfg123) ent mixed Tryz.func123 (Nat.le_of_ble_eq_true (by kernel_rfl)) (by kernel_rfl) (F123_eq a0 w R ▸ h)
theorem l12Ok_ok {w : World} {a : Int}    :
    CALL Tryz.prog 123 [.int .i64 a] w fun r w' => Ext w w' ∧ (r = .bool (decide (0 ≤ a ∧ a ≤ 63))) := by
  refine F123_call ?_
  unfold F123
  refine (l01In_ok ).mono ?_
  rintro _ w1_ ⟨hx1_, rfl⟩
  refine ⟨hx1_, ?_⟩
  rfl
theorem or_lt6 {m i : Nat} (hm : m < 64) (hi : i < 6) : m ||| 2 ^ i < 64 := Nat.or_lt_two_pow (n := 6) hm (Nat.pow_lt_pow_right (by omega) hi)
end Go.Proofs.YtjgfldfbljmhhaaGreat
namespace Go.Proofs.YtjgfldfbljmhhaaGreat
open Go Go.Sh Go.Proofs
set_option linter.unusedVariables false
/-- impl.unionOf -/
def F195 (a0 a1 : Value) (w : World) (R : Value → World → Prop) : Prop :=
  CALL Tryz.prog 97 [a1] w fun x9 w =>
  RD Tryz.prog (Builtin.len_ #[23] 3 [x9].toArray) w fun x10 =>
  LOOPI [5, 11] [(Value.int .i64 0), (Value.int .i64 0)] w fun u3 w next3 =>
   RD Tryz.prog (bin .lss 3 (.tmp 0) (.tmp 0) (u3 11) x10) w fun x12 =>
   BR x12
    (RD Tryz.prog (Instr.indexAt 23 x9 (u3 11)) w fun x13 =>
    RD Tryz.prog (Instr.loadAt 3 x13) w fun x14 =>
    RD Tryz.prog (Instr.indexAt 23 a0 x14) w fun x18 =>
    RD Tryz.prog (Instr.loadAt 3 x18) w fun x19 =>
    RD Tryz.prog (bin .or 3 (.tmp 0) (.tmp 0) (u3 5) x19) w fun x20 =>
    RD Tryz.prog (bin .add 3 (.tmp 0) (.const undef) (u3 11) (Value.int .i64 1)) w fun x21 =>
    next3 [x20, x21] w)
    (R (u3 5) w)
def cfg195 : Cfg := { ext := extL, joins := [], loops := [(3, 4192416, [5, 11])], draws := [], pars := [] }
theorem F195_eq (a0 a1 : Value) (w : World) (R : Value → World → Prop) : vcF Tryz.prog cfg195 Tryz.f195 [a0, a1] w R = F195 a0 a1 w R := by kernel_rfl
theorem F195_call {a0 a1 : Value} {w : World} {R : Value → World → Prop} (h : F195 a0 a1 w R) : CALL Tryz.prog 195 [a0, a1] w R :=
  call_of (g := cfg195) ent mixed Tryz.func195 (Nat.le_of_ble_eq_true (by kernel_rfl)) (by kernel_rfl) (F195_eq a0 a1 w R ▸ h)
set_option linter.unusedVariables false
set_option linter.unusedSimpArgs false
/-- the sets of the numbers of a list, joined -/
def orL (sets : List Nat) (l : List Int) : Nat := l.foldl (fun a i => a ||| sets.getD i.toNat 0) 0
theorem orL_snoc (sets : List Nat) (l : List Int) (i : Int) : orL sets (l ++ [i]) = orL sets l ||| sets.getD i.toNat 0 := by simp [orL]
theorem orL_lt {sets : List Nat} (hs : ∀ x ∈ sets, x < 256) (l : List Int) : orL sets l < 256 := by
  have key : ∀ (l : List Int) (a : Nat), a < 256 → l.foldl (fun a i => a ||| sets.getD i.toNat 0) a < 256 := fun l => by
    induction l with
    | nil => exact fun a h => h
    | cons i l ih =>
      intro a ha
      rw [List.foldl_cons]
      refine ih _ (Nat.or_lt_two_pow (n := 8) ha ?_)
      rw [List.getD_eq_getElem?_getD]
      cases h : sets[i.toNat]? with
      | none => simp
      | some x => exact hs x (List.mem_of_getElem? h)
  exact key l 0 (by omega)
theorem unionOf_ok {w W0 : World} {v0 : Value} {sets : List Nat} {m : Nat} (h0 : Is W0 v0 (ints sets)) (e0 : Ext W0 w) (hs : ∀ x ∈ sets, x < 256) (hl : sets.length ≤ 8) (hm : m < 2 ^ sets.length) :
    CALL Tryz.prog 195 [v0, .int .i64 (m : Int)] w fun r w' => Ext w w' ∧ r = .int .i64 (orL sets (bitsL m) : Nat) := by
  refine F195_call ?_
  unfold F195
  have h256 : 2 ^ sets.length ≤ 2 ^ 8 := Nat.pow_le_pow_right (by omega) hl
  refine (bitsOf_ok (m := m) (by omega)).mono ?_
  rintro v9 w1 ⟨hx1, ho1⟩
  have hbl : (bitsL m).length ≤ 64 := bitsTo_len m 64
  refine rd_len u23 ho1.is ?_
  refine loopC (bitsL m).length (fun k us w' => us = [.int .i64 ((orL sets ((bitsL m).take k) : Nat) : Int), .int .i64 (k : Int)] ∧ k ≤ (bitsL m).length ∧ Ext w1 w') 0 (Nat.zero_le _) ⟨rfl, Nat.zero_le _, Ext.refl _⟩ ?_
  rintro k mk u w2 hkm ⟨hu, hkl, hx2⟩
  simp only [List.map_cons, List.map_nil, List.cons.injEq, and_true] at hu
  obtain ⟨hu1, hu2⟩ := hu
  rw [hu1, hu2]
  refine rd_lss ?_
  refine br (fun hlt => ?_) (fun hge => ?_)
  case refine_2 =>
    have : k = (bitsL m).length := by omega
    rw [this, List.take_length]
    exact ⟨hx1.trans hx2, rfl⟩
  have hk : k < (bitsL m).length := by omega
  have hmem : (bitsL m)[k] ∈ bitsL m := List.getElem_mem hk
  obtain ⟨i, hi1, hi2, hi3⟩ := mem_bitsTo.1 hmem
  have hil : i < sets.length := Decidable.byContradiction fun hc => by
    have := Nat.testBit_lt_two_pow (Nat.lt_of_lt_of_le hm (Nat.pow_le_pow_right (by omega) (by omega : sets.length ≤ i)))
    rw [this] at hi3; cases hi3
  refine rd_indexN u23 ty3 (i := k) ho1.is hk fun b1 o1 hA1 => ?_
  refine rd_loadI ty3 hA1 hx2 fun _ => ?_
  rw [hi2]
  refine rd_indexN u23 ty3 (i := i) h0 (by rw [ints_len]; exact hil) fun b2 o2 hA2 => ?_
  rw [ints_get] at hA2
  refine rd_loadI ty3 hA2 ((e0.trans hx1).trans hx2) fun _ => ?_
  have h1 := orL_lt hs ((bitsL m).take k)
  have h2 := hs sets[i] (List.getElem_mem hil)
  refine rd_or (by omega) (by omega) ?_
  refine rd_inc (by omega) ?_
  refine ⟨mk - 1, by omega, k + 1, by omega, ?_, by omega, hx2⟩
  rw [List.take_succ_eq_append_getElem hk, orL_snoc, hi2, Int.toNat_natCast, List.getD_eq_getElem?_getD, List.getElem?_eq_getElem hil]
  rfl
end Go.Proofs.YtjgfldfbljmhhaaGreat
namespace Go.Proofs.YtjgfldfbljmhhaaGreat
open Go Go.Sh Go.Proofs
set_option linter.unusedVariables false
/-- spec.l10From -/
def F186 (a0 a1 : Value) (w : World) (R : Value → World → Prop) : Prop :=
  OP Tryz.prog (Instr.box 35 a0) w fun x2 w =>
  RD Tryz.prog (Instr.fieldAt 35 x2 2) w fun x10 =>
  RD Tryz.prog (Instr.loadAt 22 x10) w fun x11 =>
  RD Tryz.prog (Builtin.len_ #[22] 3 [x11].toArray) w fun x12 =>
  OP Tryz.prog (Instr.makeSlice 72 x12 x12) w fun x13 w =>
  RD Tryz.prog (Instr.indexAt 72 x13 a1) w fun x16 =>
  OPU Tryz.prog (Instr.storeAt 4 x16 (Value.bool true)) w fun w =>
  OP Tryz.prog (Instr.buildSlice 23 1 #[(0, a1)]) w fun x18 w =>
  LOOPI [6, 7] [x18, (Value.int .i64 0)] w fun u5 w next5 =>
   RD Tryz.prog (Builtin.len_ #[23] 3 [(u5 6)].toArray) w fun x21 =>
   RD Tryz.prog (bin .lss 3 (.tmp 0) (.tmp 0) (u5 7) x21) w fun x22 =>
   BR x22
    ((fun w => RD Tryz.prog (Instr.loadAt 35 x2) w fun x25 =>
    RD Tryz.prog (Instr.indexAt 23 (u5 6) (u5 7)) w fun x28 =>
    RD Tryz.prog (Instr.loadAt 3 x28) w fun x29 =>
    CALL Tryz.prog 189 [x25, x29, (Value.int .i64 4)] w fun x30 w =>
    LOOPI [6, 9] [(u5 6), (Value.int .i64 0)] w fun u9 w next9 =>
     RD Tryz.prog (Builtin.len_ #[23] 3 [x30].toArray) w fun x33 =>
     RD Tryz.prog (bin .lss 3 (.tmp 0) (.tmp 0) (u9 9) x33) w fun x34 =>
     BR x34
      (RD Tryz.prog (Instr.indexAt 23 x30 (u9 9)) w fun x40 =>
      RD Tryz.prog (Instr.loadAt 3 x40) w fun x41 =>
      RD Tryz.prog (Instr.indexAt 72 x13 x41) w fun x42 =>
      RD Tryz.prog (Instr.loadAt 4 x42) w fun x43 =>
      RD Tryz.prog (Op.unary .not x43) w fun x44 =>
      BR x44
       (RD Tryz.prog (Instr.indexAt 23 x30 (u9 9)) w fun x48 =>
       RD Tryz.prog (Instr.loadAt 3 x48) w fun x49 =>
       RD Tryz.prog (Instr.indexAt 72 x13 x49) w fun x50 =>
       OPU Tryz.prog (Instr.storeAt 4 x50 (Value.bool true)) w fun w =>
       RD Tryz.prog (Instr.indexAt 23 x30 (u9 9)) w fun x54 =>
       RD Tryz.prog (Instr.loadAt 3 x54) w fun x55 =>
       OP Tryz.prog (Instr.buildSlice 23 1 #[(0, x55)]) w fun x56 w =>
       OP Tryz.prog (Builtin.append_ #[23, 23] 23 [(u9 6), x56].toArray) w fun x57 w =>
       RD Tryz.prog (bin .add 3 (.tmp 0) (.const undef) (u9 9) (Value.int .i64 1)) w fun x36 =>
       next9 [x57, x36] w)
       (RD Tryz.prog (bin .add 3 (.tmp 0) (.const undef) (u9 9) (Value.int .i64 1)) w fun x36 =>
       next9 [(u9 6), x36] w))
      (RD Tryz.prog (bin .add 3 (.tmp 0) (.const undef) (u5 7) (Value.int .i64 1)) w fun x24 =>
      next5 [(u9 6), x24] w)) (World.drew1 w))
    (R x13 w)
def cfg186 : Cfg := { ext := extL, joins := [], loops := [(5, 288230376151188416, [6, 7]), (9, 288230374004228672, [6, 9])], draws := [(7, [0, 1, 2, 3, 4, 5, 6], 0)], pars := [] }
theorem F186_eq (a0 a1 : Value) (w : World) (R : Value → World → Prop) : vcF Tryz.prog cfg186 Tryz.f186 [a0, a1] w R = F186 a0 a1 w R := by kernel_rfl
theorem F186_call {a0 a1 : Value} {w : World} {R : Value → World → Prop} (h : F186 a0 a1 w R) : CALL Tryz.prog 186 [a0, a1] w R :=
  call_of (g := cfg186) ent mixed Tryz.func186 (Nat.le_of_ble_eq_true (by kernel_rfl)) (by kernel_rfl) (F186_eq a0 a1 w R ▸ h)
set_option linter.unusedVariables false
set_option linter.unusedSimpArgs false
/-- the procedures that may be called from one on -/
noncomputable def callN (c : DCode) (p : Nat) : List Nat := setL c.procs.length (OpsP c p 4)
theorem l10FromM_ok {w W0 : World} {v0 : Value} {c : DCode} {a : Nat} (h0 : Is W0 v0 c) (e0 : Ext W0 w) (hc : CodeR c) (ha : a < c.procs.length) :
    CALL Tryz.prog 186 [v0, .int .i64 (a : Int)] w fun r w' => Ext w w' ∧ ∃ m, r = .slice (some ⟨m, 0, none⟩) c.procs.length c.procs.length ∧ w.heap.size ≤ m ∧ Mine [m] w' (.slice (some ⟨m, 0, none⟩) c.procs.length c.procs.length) (setB c.procs.length fun i => i = a ∨ RP (callN c) a i) := by
  refine F186_call ?_
  unfold F186
  have h8 := hc.1.procs8
  have hep := hc.2.1.1
  have hcn : ∀ x, callN c x = setL c.procs.length (OpsP c x 4) := fun _ => rfl
  refine op_box h0 e0 fun w1 hx1 hA => ?_
  refine rd_fld fd35_2 ?_
  refine rd_load ty22 (at_DCode_2 hA) (Ext.refl _) fun v11 h11 => ?_
  refine rd_len u22 h11 ?_
  generalize hn : c.procs.length = n at *
  have hnl : ∀ {i j : Nat}, i < n → j ∈ callN c i → j < n ∧ True := fun {i j} _ hj => by rw [hcn] at hj; exact ⟨(mem_setL.1 hj).1, trivial⟩
  have hnxl : ∀ x, (callN c x).length ≤ n := fun x => by rw [hcn]; exact setL_len
  refine op_makeB h8.2 (by omega) fun w2 hx2 hM2 => ?_
  have hs1 := hx1.size
  have hs2 := hx2.size
  refine rd_elt (α := Bool) rfl u72 ty4 ha ?_
  refine opu_elt (α := Bool) rfl ty4 hM2 (by simp) ha mine_boolT fun w2b hc2 hM2b => ?_
  have hc2' : ChgI w1.heap.size (w1.heap.size + 1) w2 w2b := hc2.toI fun b hb => by simp only [List.mem_cons, List.not_mem_nil, or_false] at hb; omega
  have hs2b := hc2'.size
  have hM0l : ((List.replicate n false).set a true).length = n := by simp
  have hM0 : ∀ i, mkd ((List.replicate n false).set a true) i ↔ i = a := fun i => by
    rw [mkd_set (by simp; exact ha)]
    exact ⟨fun h => h.resolve_left mkd_replicate, .inr⟩
  generalize (List.replicate n false).set a true = M0 at *
  refine op_build1R (x := (a : Int)) u23 ty3 z3 (by decide) (mine_int (by unfold I64; omega)) fun v15 w3 hx3 hr3 => ?_
  have hs3 := hx3.size
  generalize hm : w1.heap.size = m at *
  have hW3 : WI w1 w3 m n w2b.heap.size w3.heap.size v15 [a] M0 := ⟨(hx2.toI.trans hc2').trans hx3.toI, hr3, hM2b.ext hx3, by omega, by have := hM2b.lt m (by simp); omega, hs3, Nat.le_refl _⟩
  generalize callN c = nx at *
  refine loopC (1 + n) (fun h us w' => ∃ (tv : Value) (lo hi : Nat) (L : List Nat) (ms : List Bool), us = [tv, .int .i64 (h : Int)] ∧ h ≤ L.length ∧ WI w1 w' m n lo hi tv L ms ∧ SInv nx n a M0 ms (L.drop h) h) 0 (Nat.zero_le _) ⟨v15, _, _, [a], _, rfl, by simp, hW3, SInv.start hM0l ha⟩ ?_
  rintro h mk u w4 hkm ⟨tv, lo, hi, L, ms, hu, hhL, hW4, hS4⟩
  simp only [List.map_cons, List.map_nil, List.cons.injEq, and_true] at hu
  obtain ⟨hu1, hu2⟩ := hu
  rw [hu1, hu2]
  have hb4 := hS4.bound
  rw [List.length_drop] at hb4
  refine rd_len u23 hW4.row.is ?_
  rw [ints_len]
  refine rd_lss ?_
  refine br (fun hlt => ?_) (fun hge => ?_)
  case refine_2 =>
    have hhe : h = L.length := by omega
    rw [hhe, List.drop_length] at hS4
    have hfin := hS4.fin fun i hi hne => absurd ((hM0 i).1 hi) hne
    have hms : ms = setB n (fun i => i = a ∨ RP nx a i) := marks_setB hS4.len fun i hi => by rw [hfin i, hM0]
    rw [← hms]
    have hx4 : Ext w1 w4 := (Ext.refl w1).chgI hW4.chg (by omega)
    exact ⟨hx1.trans hx4, m, rfl, by omega, hW4.mks⟩
  have hh : h < L.length := by omega
  have hx5 := ext_drew w4
  have hW5 := hW4.step hx5
  generalize World.drew1 w4 = w5 at *
  have hxa : ∀ {w : World} {lo hi tv L ms}, WI w1 w m n lo hi tv L ms → Ext w1 w := fun h => (Ext.refl w1).chgI h.chg (by omega)
  refine rd_load ty35 hA (hxa hW5) fun v22 h22 => ?_
  refine rd_indexN u23 ty3 (i := h) hW5.row.is (by rw [ints_len]; exact hh) fun b1 o1 hA1 => ?_
  rw [ints_get] at hA1
  refine rd_loadI ty3 hA1 (Ext.refl _) fun _ => ?_
  generalize hx : L[h] = x at *
  have hdr : L.drop h = x :: L.drop (h + 1) := by rw [List.drop_eq_getElem_cons hh, hx]
  have hxn : x < n := (hS4.tdo x (by rw [hdr]; simp)).2
  refine (l10Ops_ok h22 (hxa hW5) hc (by omega) (.inl rfl)).mono ?_
  rintro v27 w6 ⟨hx6, ho6⟩
  rw [hn, ← hcn] at ho6
  have hW6 := hW5.step hx6
  have hI6 := hW5.h3
  have hm6 := hW5.mks.lt m (by simp)
  have hS6 : SIn2 nx n a M0 ms (L.drop (h + 1)) h x 0 := hS4.pop (fun i => by rw [hdr]; simp [or_comm]) (by rw [hdr]; simp)
  have hl2 := hnxl x
  refine loopC (nx x).length (fun q us w' => ∃ (tv : Value) (lo hi : Nat) (L : List Nat) (ms : List Bool), us = [tv, .int .i64 (q : Int)] ∧ q ≤ (nx x).length ∧ h < L.length ∧ WI w1 w' m n lo hi tv L ms ∧ SIn2 nx n a M0 ms (L.drop (h + 1)) h x q ∧ OwnI w5.heap.size w6.heap.size w' v27 (ints (nx x)) ∧ (hi ≤ w5.heap.size ∨ w6.heap.size ≤ lo) ∧ w6.heap.size ≤ w'.heap.size) 0 (Nat.zero_le _) ⟨tv, lo, hi, L, ms, rfl, Nat.zero_le _, hh, hW6, hS6, ho6.toI, .inl hI6, Nat.le_refl _⟩ ?_
  rintro q mk8 u8 w7 hkm8 ⟨tv7, lo7, hi7, L7, ms7, hu8, hql, hh7, hW7, hS7, ho7, hd7, hz7⟩
  simp only [List.map_cons, List.map_nil, List.cons.injEq, and_true] at hu8
  obtain ⟨hu81, hu82⟩ := hu8
  rw [hu81, hu82]
  refine rd_len u23 ho7.is ?_
  rw [ints_len]
  refine rd_lss ?_
  refine br (fun hlt8 => ?_) (fun hge8 => ?_)
  case refine_2 =>
    refine rd_inc (by omega) ?_
    exact ⟨mk - 1, by omega, h + 1, by omega, tv7, lo7, hi7, L7, ms7, rfl, by omega, hW7, hS7.done (by omega)⟩
  have hq : q < (nx x).length := by omega
  have hrd : ∀ {w : World} {K : Value → Prop} (ho : OwnI w5.heap.size w6.heap.size w v27 (ints (nx x))) (k : K (.int .i64 (((nx x)[q] : Nat) : Int))), RD Tryz.prog (Instr.indexAt 23 v27 (.int .i64 (q : Int))) w fun x37 => RD Tryz.prog (Instr.loadAt 3 x37) w K := fun ho k => by
    refine rd_indexN u23 ty3 (i := q) ho.is (by rw [ints_len]; exact hq) fun b1 o1 hA1 => ?_
    rw [ints_get] at hA1
    exact rd_loadI ty3 hA1 (Ext.refl _) fun _ => k
  have hy := hnl hxn (List.getElem_mem hq)
  refine hrd ho7 ?_
  have hlen7 := hS7.len
  refine rd_indexN u72 ty4 hW7.mks.is (by rw [hlen7]; exact hy.1) fun b2 o2 hA2 => ?_
  refine rd_loadB ty4 hA2 (Ext.refl _) ?_
  refine rd_not ?_
  have hmk7 := mkd_get (ms := ms7) (i := (nx x)[q]) (by rw [hlen7]; exact hy.1)
  refine br_b (fun hf => ?_) (fun hf => ?_)
  · have hnm : ¬ mkd ms7 (nx x)[q] := by rw [hmk7]; simpa using hf
    refine hrd ho7 ?_
    refine rd_elt (α := Bool) rfl u72 ty4 hy.1 ?_
    refine opu_elt (α := Bool) rfl ty4 hW7.mks hlen7 hy.1 mine_boolT fun w8 hc8 hm8 => ?_
    have hW8 := hW7.mark hc8 hm8
    have hc8' : ChgI m (m + 1) w7 w8 := hc8.toI fun b hb => by simp only [List.mem_cons, List.not_mem_nil, or_false] at hb; omega
    have ho8 := ho7.chg hc8' (by omega)
    refine hrd ho8 ?_
    have hS8 := hS7.push hq hy.1 hnm
    generalize (nx x)[q] = y at *
    have hLb : L7.length ≤ 2 + n := by
      have h1 := hS7.cnt
      have h2 := cntM_le ms7
      rw [List.length_drop] at h1
      omega
    refine op_pushD1 (x := (y : Int)) u23 ty3 z3 zc3 (by decide) hW8.row (ownI_int 0 0 (by unfold I64; omega)) (by rw [maxLen_eq, ints_len]; omega) (by rw [ints_len]; omega) fun v54 w9 lo9 hi9 hc9 hr9 hd9 => ?_
    have hW9 := hW8.push hc9 hr9 hd9
    have hsz8 := hc8'.size
    have hsz7 := ho7.is
    refine rd_inc (by omega) ?_
    refine ⟨mk8 - 1, by omega, q + 1, by omega, v54, lo9, hi9, L7 ++ [y], _, rfl, by omega, by simp; omega, hW9, ?_, ho8.chg hc9 (by omega), by omega, by have := hc9.size; omega⟩
    rw [List.drop_append_of_le_length (by omega)]
    exact hS8
  · have hnm : mkd ms7 (nx x)[q] := by rw [hmk7]; simpa using hf
    refine rd_inc (by omega) ?_
    exact ⟨mk8 - 1, by omega, q + 1, by omega, tv7, lo7, hi7, L7, ms7, rfl, by omega, hh7, hW7, hS7.skip hq hnm, ho7, hd7, hz7⟩
end Go.Proofs.YtjgfldfbljmhhaaGreat
namespace Go.Proofs.YtjgfldfbljmhhaaGreat
open Go Go.Sh Go.Proofs
set_option linter.unusedVariables false
set_option linter.unusedSimpArgs false
/-- a set of locks by bits -/
noncomputable def m6 (p : Nat → Prop) : Nat := setN p 6
theorem m6_bit {p : Nat → Prop} {l : Nat} : (m6 p).testBit l = true ↔ l < 6 ∧ p l := setN_bit
theorem m6_lt {p : Nat → Prop} : m6 p < 64 := setN_lt (n := 6)
theorem bit_lt6 {m l : Nat} (h : m < 64) (hb : m.testBit l = true) : l < 6 := Decidable.byContradiction fun hc => by
  have := Nat.testBit_lt_two_pow (Nat.lt_of_lt_of_le (show m < 2 ^ 6 from h) (Nat.pow_le_pow_right (by omega) (by omega : 6 ≤ l)))
  rw [this] at hb; cases hb
theorem eq_m6 {m : Nat} {p : Nat → Prop} (h : m < 64) (hb : ∀ l, l < 6 → (m.testBit l = true ↔ p l)) : m = m6 p :=
  eq_setN fun l => ⟨fun e => ⟨bit_lt6 h e, (hb l (bit_lt6 h e)).1 e⟩, fun e => (hb l e.1).2 e.2⟩
theorem m6_congr {p q : Nat → Prop} (h : ∀ l, l < 6 → (p l ↔ q l)) : m6 p = m6 q := setN_congr h
theorem bit_of_not {m l : Nat} (h : ¬ m.testBit l = false) : m.testBit l = true := by simpa using h
/-- a number of a list -/
def nat0 (l : List Nat) (i : Nat) : Nat := l.getD i 0
theorem nat0_get {l : List Nat} {i : Nat} (h : i < l.length) : l[i] = nat0 l i := by unfold nat0; rw [List.getD_eq_getElem?_getD, List.getElem?_eq_getElem h]; rfl
theorem nat0_set {l : List Nat} {i j v : Nat} (hi : i < l.length) : nat0 (l.set i v) j = if i = j then v else nat0 l j := by
  unfold nat0
  rw [List.getD_eq_getElem?_getD, List.getD_eq_getElem?_getD, List.getElem?_set]
  by_cases h : i = j
  · subst h; simp [hi]
  · simp [h]
theorem sum_set : ∀ {l : List Nat} {i v : Nat}, i < l.length → (l.set i v).sum + nat0 l i = l.sum + v
  | x :: l, 0, v, _ => by simp [nat0]; omega
  | x :: l, i + 1, v, h => by
    have := sum_set (l := l) (i := i) (v := v) (by simpa using h)
    simp only [nat0, List.set_cons_succ, List.sum_cons, List.getD_cons_succ] at this ⊢
    omega
theorem ints_set (l : List Nat) (i v : Nat) : ints (l.set i v) = (ints l).set i (v : Int) := by simp [ints, List.map_set]
theorem sum_le {l : List Nat} {b : Nat} (h : ∀ x ∈ l, x ≤ b) : l.sum ≤ l.length * b := by
  induction l with
  | nil => simp
  | cons x l ih =>
    have h1 := ih fun y hy => h y (by simp [hy])
    have h2 := h x (by simp)
    rw [List.sum_cons, List.length_cons, Nat.add_mul]; omega
theorem nat0_mem {l : List Nat} {i : Nat} (h : i < l.length) : nat0 l i ∈ l := by rw [← nat0_get h]; exact List.getElem_mem h
theorem ints_nat0 {l : List Nat} {i : Nat} (h : i < (ints l).length) : (ints l)[i] = (nat0 l i : Int) := by rw [ints_get, nat0_get]
/-- the first place of a procedure, and its last; what an instruction is, and what it names -/
def eN (c : DCode) (p : Nat) : Nat := (en c p).toNat
def zN (c : DCode) (p : Nat) : Nat := (endB c p - 1).toNat
def agN (c : DCode) (i : Nat) : Nat := (insAt c i).arg.toNat
theorem eN_eq {c : DCode} (hc : CodeR c) {p : Nat} (hp : p < c.entry.length) : en c p = (eN c p : Int) ∧ eN c p < c.ins.length ∧ procOf c (eN c p) = p := by
  have h := proc_en hc hp
  unfold eN
  rw [Int.toNat_of_nonneg h.1]
  exact ⟨rfl, by omega, h.2.2⟩
theorem zN_eq {c : DCode} (hc : CodeR c) {p : Nat} (hp : p < c.entry.length) : endB c p = (zN c p : Int) + 1 ∧ eN c p ≤ zN c p ∧ zN c p < c.ins.length := by
  have h1 := hc.f.lt p hp
  have h2 := hc.f.nonneg hp
  have h4 := hc.f.lt p hp
  have h5 : endB c p ≤ c.ins.length := h4.2
  unfold zN eN
  omega
theorem live_lt {c : DCode} (hc : CodeR c) {p i : Nat} (hp : p < c.entry.length) (h : LiveP c p i) : i < c.ins.length ∧ procOf c i = p := by
  have he := eN_eq hc hp
  rcases h with rfl | h
  · exact ⟨he.2.1, he.2.2⟩
  · refine h.keeps (p := fun i => i < c.ins.length ∧ procOf c i = p) ⟨he.2.1, he.2.2⟩ fun i j hi hj => ?_
    have := nextN_lt hc hi.1 hj
    exact ⟨this.1, this.2.trans hi.2⟩
theorem live_next {c : DCode} {p i j : Nat} (h : LiveP c p i) (hj : j ∈ nextN c i) : LiveP c p j := by
  rcases h with rfl | h
  · exact .inr (.one hj)
  · exact .inr (.more h hj)
theorem in_proc {c : DCode} (hc : CodeR c) {p i : Nat} (hi : i < c.ins.length) (hp : p < c.entry.length) (h : procOf c i = p) : eN c p ≤ i ∧ i ≤ zN c p := by
  obtain ⟨q, hq, h1, h2, h3⟩ := hc.f.find hc.1.procs8.2 (a := (i : Int)) (by omega) (by omega)
  have : q = p := by omega
  subst this
  have h4 := zN_eq hc hp
  have h5 := eN_eq hc hp
  omega
theorem proc_in {c : DCode} (hc : CodeR c) {p i : Nat} (hp : p < c.entry.length) (h1 : eN c p ≤ i) (h2 : i ≤ zN c p) : procOf c i = p := by
  have h4 := zN_eq hc hp
  have h5 := eN_eq hc hp
  exact hc.f.proc hp (by omega) (by omega)
/-- the argument of a call or start; of a lock -/
theorem ag_proc {c : DCode} (hc : CodeR c) {i : Nat} (hi : i < c.ins.length) (ho : (insAt c i).op = 4 ∨ (insAt c i).op = 5) : (insAt c i).arg = (agN c i : Int) ∧ agN c i < c.procs.length := by
  have harg := (ins_right hc hi).2.1
  unfold argMost at harg
  rw [if_neg (by omega), if_pos (by omega)] at harg
  unfold agN
  omega
theorem ag_lock {c : DCode} (hc : CodeR c) {i : Nat} (hi : i < c.ins.length) (ho : (insAt c i).op = 6 ∨ (insAt c i).op = 7) : (insAt c i).arg = (agN c i : Int) ∧ agN c i < c.locks.length ∧ agN c i < 6 := by
  have h := lock_arg hc hi ho
  have h6 := hc.1.locks6
  unfold agN
  omega
/-- what an instruction loses, whatever was held; what is lost behind it where it was lost ahead of it -/
def genX (c : DCode) (K G : Nat → Nat → Prop) (i l : Nat) : Prop := ((insAt c i).op = 7 ∧ agN c i = l) ∨ ((insAt c i).op = 4 ∧ ¬ K (agN c i) l ∧ ¬ G (agN c i) l)
def passX (c : DCode) (G : Nat → Nat → Prop) (i l : Nat) : Prop := ¬ ((insAt c i).op = 6 ∧ agN c i = l) ∧ ¬ ((insAt c i).op = 4 ∧ G (agN c i) l)
/-- what may be lost at a place of a procedure that begins with h -/
inductive LostP (c : DCode) (K G : Nat → Nat → Prop) (p : Nat) (h : Nat → Prop) : Nat → Nat → Prop
  | ent {l : Nat} (h0 : ¬ h l) : LostP c K G p h (eN c p) l
  | gen {i j l : Nat} (h0 : LiveP c p i) (hj : j ∈ nextN c i) (h1 : genX c K G i l) : LostP c K G p h j l
  | pass {i j l : Nat} (h0 : LiveP c p i) (hj : j ∈ nextN c i) (h1 : LostP c K G p h i l) (h2 : passX c G i l) : LostP c K G p h j l
theorem LostP.mono {c : DCode} {K K' G G' : Nat → Nat → Prop} {p : Nat} {h h' : Nat → Prop} (hK : ∀ q l, K' q l → K q l) (hG : ∀ q l, G' q l → G q l) (hh : ∀ l, h' l → h l) {i l : Nat} (hl : LostP c K G p h i l) : LostP c K' G' p h' i l := by
  induction hl with
  | ent h0 => exact .ent fun e => h0 (hh _ e)
  | gen h0 hj h1 => exact .gen h0 hj (h1.imp id fun ⟨a, b, d⟩ => ⟨a, fun e => b (hK _ _ e), fun e => d (hG _ _ e)⟩)
  | pass h0 hj _ h2 ih => exact .pass h0 hj ih ⟨h2.1, fun ⟨a, b⟩ => h2.2 ⟨a, hG _ _ b⟩⟩
/-- a table: what each procedure keeps, and what it takes -/
abbrev Tab := List (Nat × Nat)
def tbl (T : Tab) (q : Nat) : Nat × Nat := T.getD q (0, 0)
def tK (T : Tab) (q l : Nat) : Prop := (tbl T q).1.testBit l = true
def tG (T : Tab) (q l : Nat) : Prop := (tbl T q).2.testBit l = true
theorem tbl_get {T : Tab} {q : Nat} (h : q < T.length) : T[q] = tbl T q := by unfold tbl; rw [List.getD_eq_getElem?_getD, List.getElem?_eq_getElem h]; rfl
theorem tbl_set {T : Tab} {q r : Nat} {v : Nat × Nat} (h : q < T.length) : tbl (T.set q v) r = if q = r then v else tbl T r := by
  unfold tbl
  rw [List.getD_eq_getElem?_getD, List.getD_eq_getElem?_getD, List.getElem?_set]
  by_cases e : q = r
  · subst e; simp [h]
  · simp [e]
def TabR (c : DCode) (T : Tab) : Prop := T.length = c.procs.length ∧ ∀ q, (tbl T q).1 < 64 ∧ (tbl T q).2 < 64
/-- what is held behind an instruction -/
def aft (c : DCode) (T : Tab) (i m : Nat) : Nat :=
  if (insAt c i).op = 6 then m ||| 2 ^ agN c i else if (insAt c i).op = 7 then andN m (2 ^ agN c i) else if (insAt c i).op = 4 then (m &&& (tbl T (agN c i)).1) ||| (tbl T (agN c i)).2 else m
theorem aft_bit {c : DCode} {T : Tab} {i m l : Nat} : (aft c T i m).testBit l = false ↔ genX c (tK T) (tG T) i l ∨ (passX c (tG T) i l ∧ m.testBit l = false) := by
  unfold aft genX passX tK tG
  split
  · rename_i h
    rw [Nat.testBit_or, Nat.testBit_two_pow]
    have e6 : ((insAt c i).op = 6) = True := eq_true h
    have e4 : ((insAt c i).op = 4) = False := eq_false (by omega)
    have e7 : ((insAt c i).op = 7) = False := eq_false (by omega)
    simp only [e6, e4, e7, true_and, false_and, false_or, or_false, not_false_eq_true, and_true, Bool.or_eq_false_iff, decide_eq_false_iff_not]
    exact ⟨fun ⟨a, b⟩ => ⟨b, a⟩, fun ⟨a, b⟩ => ⟨b, a⟩⟩
  · rename_i h6
    have e6 : ((insAt c i).op = 6) = False := eq_false h6
    split
    · rename_i h
      have e7 : ((insAt c i).op = 7) = True := eq_true h
      have e4 : ((insAt c i).op = 4) = False := eq_false (by omega)
      rw [andN_bit, Nat.testBit_two_pow]
      simp only [e6, e4, e7, true_and, false_and, false_or, or_false, not_false_eq_true, and_true, Bool.and_eq_false_iff, Bool.not_eq_false', decide_eq_true_eq]
      exact ⟨fun h => h.elim .inr .inl, fun h => h.elim .inr .inl⟩
    · rename_i h7
      have e7 : ((insAt c i).op = 7) = False := eq_false h7
      split
      · rename_i h
        have e4 : ((insAt c i).op = 4) = True := eq_true h
        rw [Nat.testBit_or, Nat.testBit_and]
        simp only [e6, e4, e7, true_and, false_and, false_or, not_false_eq_true]
        cases (tbl T (agN c i)).1.testBit l <;> cases (tbl T (agN c i)).2.testBit l <;> cases m.testBit l <;> simp
      · rename_i h4
        simp [h6, h7, h4]
/-- what is held for sure ahead of each place -/
noncomputable def flowN (c : DCode) (T : Tab) (p h : Nat) : List Nat := (List.range c.ins.length).map fun i => m6 fun l => ¬ LostP c (tK T) (tG T) p (fun l => h.testBit l = true) i l
theorem flowN_len (c : DCode) (T : Tab) (p h : Nat) : (flowN c T p h).length = c.ins.length := by simp [flowN]
theorem flowN_at {c : DCode} {T : Tab} {p h i : Nat} (hi : i < c.ins.length) : nat0 (flowN c T p h) i = m6 fun l => ¬ LostP c (tK T) (tG T) p (fun l => h.testBit l = true) i l := by
  rw [← nat0_get (by rw [flowN_len]; exact hi)]; simp [flowN]
/-- while it is found -/
structure FL (c : DCode) (T : Tab) (p h : Nat) (out : List Nat) : Prop where
  len : out.length = c.ins.length
  lt : ∀ x ∈ out, x < 64
  snd : ∀ i l, i < c.ins.length → l < 6 → (nat0 out i).testBit l = false → LostP c (tK T) (tG T) p (fun l => h.testBit l = true) i l
  ent : ∀ l, l < 6 → h.testBit l = false → (nat0 out (eN c p)).testBit l = false
theorem FL.lt0 {c : DCode} {T : Tab} {p h : Nat} {out : List Nat} (h : FL c T p h out) (i : Nat) : nat0 out i < 64 := by
  rcases Nat.lt_or_ge i out.length with hi | hi
  · exact h.lt _ (nat0_mem hi)
  · unfold nat0; rw [List.getD_eq_getElem?_getD, List.getElem?_eq_none hi]; simp
theorem full_bit {l : Nat} (h : l < 6) : (63 : Nat).testBit l = true := by
  have : l = 0 ∨ l = 1 ∨ l = 2 ∨ l = 3 ∨ l = 4 ∨ l = 5 := by omega
  rcases this with rfl | rfl | rfl | rfl | rfl | rfl <;> rfl
theorem FL.start {c : DCode} {T : Tab} {p h : Nat} (hc : CodeR c) (hp : p < c.entry.length) (hh : h < 64) : FL c T p h ((List.replicate c.ins.length 63).set (eN c p) h) := by
  have he := (eN_eq hc hp).2.1
  have hr : (List.replicate c.ins.length 63).length = c.ins.length := by simp
  have hg : ∀ i, i < c.ins.length → nat0 (List.replicate c.ins.length 63) i = 63 := fun i hi => by rw [← nat0_get (by rw [hr]; exact hi)]; simp
  refine ⟨by simp, fun x hx => ?_, fun i l hi hl hb => ?_, fun l hl hb => ?_⟩
  · rcases mem_set hx with rfl | hx
    · exact hh
    · rw [(List.mem_replicate.1 hx).2]; omega
  · rw [nat0_set (by rw [hr]; exact he)] at hb
    split at hb
    · rename_i e
      subst e
      exact .ent (by rw [hb]; simp)
    · rw [hg i hi, full_bit hl] at hb; cases hb
  · rw [nat0_set (by rw [hr]; exact he), if_pos rfl]; exact hb
theorem FL.upd {c : DCode} {T : Tab} {p h : Nat} {out : List Nat} (hF : FL c T p h out) (hc : CodeR c) (hp : p < c.entry.length) (hT : TabR c T) {i j : Nat} (hi : LiveP c p i) (hj : j ∈ nextN c i) :
    FL c T p h (out.set j (nat0 out j &&& aft c T i (nat0 out i))) := by
  have hil := (live_lt hc hp hi).1
  have hjl := (nextN_lt hc hil hj).1
  refine ⟨by simp [hF.len], fun x hx => ?_, fun k l hk hl hb => ?_, fun l hl hb => ?_⟩
  · rcases mem_set hx with rfl | hx
    · exact Nat.lt_of_le_of_lt Nat.and_le_left (hF.lt0 j)
    · exact hF.lt x hx
  · rw [nat0_set (by rw [hF.len]; exact hjl)] at hb
    split at hb
    · rename_i e
      subst e
      rw [Nat.testBit_and, Bool.and_eq_false_iff] at hb
      rcases hb with hb | hb
      · exact hF.snd j l hk hl hb
      · rcases aft_bit.1 hb with h1 | ⟨h1, h2⟩
        · exact .gen hi hj h1
        · exact .pass hi hj (hF.snd i l hil hl h2) h1
    · exact hF.snd k l hk hl hb
  · rw [nat0_set (by rw [hF.len]; exact hjl)]
    split
    · rename_i e
      rw [Nat.testBit_and, e, hF.ent l hl hb]; rfl
    · exact hF.ent l hl hb
theorem and_lt {a b : Nat} (h : a &&& b ≠ a) : a &&& b < a := by
  have : a &&& b ≤ a := Nat.and_le_left
  omega
/-- nothing more is lost at a place's next ones -/
def Shut (c : DCode) (T : Tab) (out : List Nat) (i : Nat) : Prop := ∀ j ∈ nextN c i, nat0 out j &&& aft c T i (nat0 out i) = nat0 out j
theorem FL.fin {c : DCode} {T : Tab} {p h : Nat} {out : List Nat} (hF : FL c T p h out) (hc : CodeR c) (hp : p < c.entry.length) (hs : ∀ i, LiveP c p i → Shut c T out i) : out = flowN c T p h := by
  refine List.ext_getElem (by rw [hF.len, flowN_len]) fun i h1 h2 => ?_
  rw [nat0_get h1, nat0_get h2, flowN_at (by rw [← hF.len]; exact h1)]
  refine eq_m6 (hF.lt0 i) fun l hl => ⟨fun hb hn => ?_, fun hn => bit_of_not fun hb => hn (hF.snd i l (by rw [← hF.len]; exact h1) hl hb)⟩
  have key : ∀ {i l : Nat}, LostP c (tK T) (tG T) p (fun l => h.testBit l = true) i l → l < 6 → (nat0 out i).testBit l = false := fun {i l} hn => by
    induction hn with
    | ent h0 => exact fun hl => hF.ent _ hl (by simpa using h0)
    | gen h0 hj h1 =>
      intro hl
      rw [← hs _ h0 _ hj, Nat.testBit_and, aft_bit.2 (.inl h1), Bool.and_false]
    | pass h0 hj _ h2 ih =>
      intro hl
      rw [← hs _ h0 _ hj, Nat.testBit_and, aft_bit.2 (.inr ⟨h2, ih hl⟩), Bool.and_false]
  rw [key hn hl] at hb; cases hb
end Go.Proofs.YtjgfldfbljmhhaaGreat
namespace Go.Proofs.YtjgfldfbljmhhaaGreat
open Go Go.Sh Go.Proofs
set_option linter.unusedVariables false
set_option linter.unusedSimpArgs false
/-- called from one on -/
def FromP (c : DCode) (p q : Nat) : Prop := q = p ∨ RP (callN c) p q
theorem FromP.lt {c : DCode} {p q : Nat} (hp : p < c.procs.length) (h : FromP c p q) : q < c.procs.length := by
  rcases h with rfl | h
  · exact hp
  · exact h.keeps (p := fun i => i < c.procs.length) hp fun i j _ hj => (mem_setL.1 hj).1
theorem FromP.trans {c : DCode} {p q r : Nat} (h : FromP c p q) (k : FromP c q r) : FromP c p r := by
  rcases h with rfl | h
  · exact k
  · rcases k with rfl | k
    · exact .inr h
    · exact .inr (h.trans k)
theorem FromP.call {c : DCode} {p q r : Nat} (h : FromP c p q) (hr : r < c.procs.length) (k : OpsP c q 4 r) : FromP c p r := h.trans (.inr (.one (mem_setL.2 ⟨hr, k⟩)))
/-- what no procedure that is called from one on gives -/
noncomputable def keepN (c : DCode) (p : Nat) : Nat := m6 fun l => ¬ ∃ q i, q < c.procs.length ∧ FromP c p q ∧ LiveP c q i ∧ (insAt c i).op = 7 ∧ agN c i = l
/-- what may be lost at a place of a procedure that begins with nothing, when the others are as lossy -/
inductive LostE (c : DCode) : Nat → Nat → Nat → Prop
  | ent {p l : Nat} : LostE c p (eN c p) l
  | unl {p i j l : Nat} (h0 : LiveP c p i) (hj : j ∈ nextN c i) (ho : (insAt c i).op = 7) (ha : agN c i = l) : LostE c p j l
  | cal {p i j l : Nat} (h0 : LiveP c p i) (hj : j ∈ nextN c i) (ho : (insAt c i).op = 4) (hk : (keepN c (agN c i)).testBit l = false) (h1 : LostE c (agN c i) (zN c (agN c i)) l) : LostE c p j l
  | bck {p i j l : Nat} (h0 : LiveP c p i) (hj : j ∈ nextN c i) (ho : (insAt c i).op = 4) (h2 : LostE c p i l) (h1 : LostE c (agN c i) (zN c (agN c i)) l) : LostE c p j l
  | pass {p i j l : Nat} (h0 : LiveP c p i) (hj : j ∈ nextN c i) (h6 : ¬ ((insAt c i).op = 6 ∧ agN c i = l)) (h4 : ¬ (insAt c i).op = 4) (h1 : LostE c p i l) : LostE c p j l
/-- the table of effects -/
noncomputable def effN (c : DCode) : Tab := (List.range c.procs.length).map fun p => (keepN c p, m6 fun l => ¬ LostE c p (zN c p) l)
theorem effN_len (c : DCode) : (effN c).length = c.procs.length := by simp [effN]
theorem effN_at {c : DCode} {p : Nat} (hp : p < c.procs.length) : tbl (effN c) p = (keepN c p, m6 fun l => ¬ LostE c p (zN c p) l) := by
  rw [← tbl_get (by rw [effN_len]; exact hp)]; simp [effN]
theorem tabR_of {c : DCode} {T : Tab} (hl : T.length = c.procs.length) (h : ∀ q, q < c.procs.length → (tbl T q).1 < 64 ∧ (tbl T q).2 < 64) : TabR c T := ⟨hl, fun q => by
  rcases Nat.lt_or_ge q c.procs.length with hq | hq
  · exact h q hq
  · unfold tbl; rw [List.getD_eq_getElem?_getD, List.getElem?_eq_none (by omega)]; simp⟩
/-- what is asked of a procedure -/
noncomputable def asked (c : DCode) (T : Tab) (p : Nat) : Nat := nat0 (flowN c T p 0) (zN c p)
theorem asked_bit {c : DCode} (hc : CodeR c) {T : Tab} {p l : Nat} (hp : p < c.procs.length) (hl : l < 6) : (asked c T p).testBit l = false ↔ LostP c (tK T) (tG T) p (fun l => (0 : Nat).testBit l = true) (zN c p) l := by
  have hz := (zN_eq hc (p := p) (by rw [hc.2.1.1]; exact hp)).2.2
  unfold asked
  rw [flowN_at hz]
  constructor
  · intro h
    refine Classical.byContradiction fun hn => ?_
    rw [m6_bit.2 ⟨hl, hn⟩] at h; cases h
  · intro h
    cases e : (m6 fun l => ¬ LostP c (tK T) (tG T) p (fun l => (0 : Nat).testBit l = true) (zN c p) l).testBit l
    · rfl
    · exact absurd h (m6_bit.1 e).2
theorem asked_lt {c : DCode} (hc : CodeR c) {T : Tab} {p : Nat} (hp : p < c.procs.length) : asked c T p < 64 := by
  have hz := (zN_eq hc (p := p) (by rw [hc.2.1.1]; exact hp)).2.2
  unfold asked
  rw [flowN_at hz]; exact m6_lt
structure EI (c : DCode) (T : Tab) : Prop where
  tab : TabR c T
  keep : ∀ p, p < c.procs.length → (tbl T p).1 = keepN c p
  snd : ∀ p l, p < c.procs.length → l < 6 → (tbl T p).2.testBit l = false → LostE c p (zN c p) l
  desc : ∀ p l, p < c.procs.length → l < 6 → (tbl T p).2.testBit l = false → (asked c T p).testBit l = false
theorem EI.lost {c : DCode} (hc : CodeR c) {T : Tab} (h : EI c T) {p i l : Nat} (hp : p < c.procs.length) (hl : l < 6) (k : LostP c (tK T) (tG T) p (fun l => (0 : Nat).testBit l = true) i l) : LostE c p i l := by
  have he := hc.2.1.1
  induction k with
  | ent _ => exact .ent
  | gen h0 hj h1 =>
    have hi := (live_lt hc (by rw [he]; exact hp) h0).1
    rcases h1 with ⟨h1, h2⟩ | ⟨h1, h2, h3⟩
    · exact .unl h0 hj h1 h2
    · have hq := (ag_proc hc hi (.inl h1)).2
      refine .cal h0 hj h1 ?_ (h.snd _ _ hq hl (by unfold tG at h3; simpa using h3))
      unfold tK at h2
      rw [h.keep _ hq] at h2
      simpa using h2
  | @pass i j l h0 hj _ h2 ih =>
    have hi := (live_lt hc (by rw [he]; exact hp) h0).1
    by_cases h4 : (insAt c i).op = 4
    · have hq := (ag_proc hc hi (.inl h4)).2
      refine .bck h0 hj h4 (ih hl) (h.snd _ _ hq hl ?_)
      have := h2.2
      unfold tG at this
      simpa [h4] using this
    · exact .pass h0 hj h2.1 h4 (ih hl)
theorem EI.start (c : DCode) (hc : CodeR c) : EI c ((List.range c.procs.length).map fun p => (keepN c p, 63)) := by
  have hl : ((List.range c.procs.length).map fun p => (keepN c p, 63)).length = c.procs.length := by simp
  have hat : ∀ p, p < c.procs.length → tbl ((List.range c.procs.length).map fun p => (keepN c p, 63)) p = (keepN c p, 63) := fun p hp => by
    rw [← tbl_get (by rw [hl]; exact hp)]; simp
  refine ⟨tabR_of hl fun q hq => by rw [hat q hq]; exact ⟨m6_lt, by omega⟩, fun p hp => by rw [hat p hp], fun p l hp h6 hb => ?_, fun p l hp h6 hb => ?_⟩
  · rw [hat p hp, full_bit h6] at hb; cases hb
  · rw [hat p hp, full_bit h6] at hb; cases hb
theorem EI.upd {c : DCode} (hc : CodeR c) {T : Tab} (h : EI c T) {p : Nat} (hp : p < c.procs.length) : EI c (T.set p ((tbl T p).1, asked c T p)) := by
  have hpl : p < T.length := by rw [h.tab.1]; exact hp
  have hat := fun r => tbl_set (T := T) (q := p) (r := r) (v := ((tbl T p).1, asked c T p)) hpl
  have hle : ∀ q l, l < 6 → (tbl T q).2.testBit l = false → (tbl (T.set p ((tbl T p).1, asked c T p)) q).2.testBit l = false := fun q l hl hb => by
    rw [hat]
    split
    · rename_i e; subst e; exact h.desc p l hp hl hb
    · exact hb
  have hmono : ∀ {q l : Nat}, q < c.procs.length → l < 6 → (asked c T q).testBit l = false → (asked c (T.set p ((tbl T p).1, asked c T p)) q).testBit l = false := fun {q l} hq hl hb => by
    rw [asked_bit hc hq hl] at hb ⊢
    have key : ∀ {i l : Nat}, l < 6 → LostP c (tK T) (tG T) q (fun l => (0 : Nat).testBit l = true) i l → LostP c (tK (T.set p ((tbl T p).1, asked c T p))) (tG (T.set p ((tbl T p).1, asked c T p))) q (fun l => (0 : Nat).testBit l = true) i l := fun {i l} hl k => by
      have hK : ∀ r l, tK (T.set p ((tbl T p).1, asked c T p)) r l ↔ tK T r l := fun r l => by
        unfold tK
        rw [hat]
        split
        · rename_i e; rw [← e]
        · exact Iff.rfl
      have hG : ∀ r, tG (T.set p ((tbl T p).1, asked c T p)) r l → tG T r l := fun r e => by
        unfold tG at e ⊢
        refine bit_of_not fun hf => ?_
        rw [hle r l hl hf] at e; cases e
      clear hb
      induction k with
      | ent h0 => exact .ent h0
      | gen h0 hj h1 => exact .gen h0 hj (h1.imp id fun ⟨a, b, d⟩ => ⟨a, fun e => b ((hK _ _).1 e), fun e => d (hG _ e)⟩)
      | pass h0 hj _ h2 ih => exact .pass h0 hj (ih hl hG) ⟨h2.1, fun ⟨a, b⟩ => h2.2 ⟨a, hG _ b⟩⟩
    exact key hl hb
  refine ⟨⟨by simp [h.tab.1], fun q => ?_⟩, fun q hq => ?_, fun q l hq hl hb => ?_, fun q l hq hl hb => ?_⟩
  · rw [hat]
    split
    · exact ⟨(h.tab.2 p).1, asked_lt hc hp⟩
    · exact h.tab.2 q
  · rw [hat]
    split
    · rename_i e; subst e; exact h.keep p hp
    · exact h.keep q hq
  · rw [hat] at hb
    split at hb
    · rename_i e; subst e
      exact h.lost hc hp hl ((asked_bit hc hp hl).1 hb)
    · exact h.snd q l hq hl hb
  · rw [hat] at hb
    split at hb
    · rename_i e; subst e
      exact hmono hp hl hb
    · exact hmono hq hl (h.desc q l hq hl hb)
theorem EI.le {c : DCode} (hc : CodeR c) {T : Tab} (h : EI c T) {p : Nat} (hp : p < c.procs.length) : asked c T p ≤ (tbl T p).2 := by
  refine Nat.le_of_testBit fun l hb => ?_
  have hl := bit_lt6 (asked_lt hc hp) hb
  refine bit_of_not fun hf => ?_
  rw [h.desc p l hp hl hf] at hb; cases hb
theorem EI.fin {c : DCode} (hc : CodeR c) {T : Tab} (h : EI c T) (hs : ∀ p, p < c.procs.length → asked c T p = (tbl T p).2) : T = effN c := by
  refine List.ext_getElem (by rw [h.tab.1, effN_len]) fun p h1 h2 => ?_
  have hp : p < c.procs.length := by rw [← h.tab.1]; exact h1
  rw [tbl_get h1, tbl_get h2, effN_at hp]
  have key : ∀ {p i l : Nat}, LostE c p i l → p < c.procs.length → l < 6 → LostP c (tK T) (tG T) p (fun l => (0 : Nat).testBit l = true) i l := fun {p i l} k => by
    have hz : ∀ {i l : Nat}, (insAt c i).op = 4 → i < c.ins.length → l < 6 → (agN c i < c.procs.length → l < 6 → LostP c (tK T) (tG T) (agN c i) (fun l => (0 : Nat).testBit l = true) (zN c (agN c i)) l) → ¬ tG T (agN c i) l := fun {i l} ho hi hl k1 => by
      have hq := (ag_proc hc hi (.inl ho)).2
      have := (asked_bit hc hq hl).2 (k1 hq hl)
      rw [hs _ hq] at this
      unfold tG
      rw [this]; simp
    induction k with
    | ent => exact fun _ _ => .ent (by simp)
    | unl h0 hj ho ha => exact fun _ _ => .gen h0 hj (.inl ⟨ho, ha⟩)
    | cal h0 hj ho hk _ ih =>
      intro hp hl
      have hi := (live_lt hc (by rw [hc.2.1.1]; exact hp) h0).1
      have hq := (ag_proc hc hi (.inl ho)).2
      refine .gen h0 hj (.inr ⟨ho, ?_, hz ho hi hl ih⟩)
      unfold tK
      rw [h.keep _ hq, hk]; simp
    | bck h0 hj ho _ _ ih2 ih1 =>
      intro hp hl
      have hi := (live_lt hc (by rw [hc.2.1.1]; exact hp) h0).1
      exact .pass h0 hj (ih2 hp hl) ⟨fun h => by omega, fun h => hz ho hi hl ih1 h.2⟩
    | pass h0 hj h6 h4 _ ih => exact fun hp hl => .pass h0 hj (ih hp hl) ⟨h6, fun h => h4 h.1⟩
  refine Prod.ext (h.keep p hp) (eq_m6 (h.tab.2 p).2 fun l hl => ⟨fun hb hn => ?_, fun hn => bit_of_not fun hb => hn (h.snd p l hp hl hb)⟩)
  have := (asked_bit hc hp hl).2 (key hn hp hl)
  rw [hs p hp] at this
  rw [this] at hb; cases hb
def gsum (T : Tab) : Nat := (T.map (·.2)).sum
theorem gsum_set {T : Tab} {p : Nat} {v : Nat × Nat} (hp : p < T.length) : gsum (T.set p v) + (tbl T p).2 = gsum T + v.2 := by
  unfold gsum
  rw [List.map_set]
  have := sum_set (l := T.map (·.2)) (i := p) (v := v.2) (by simpa using hp)
  rw [← nat0_get (by simpa using hp)] at this
  rw [← tbl_get hp]
  simpa using this
/-- with which procedures threads begin -/
def mainN (c : DCode) : Nat := (plc mainS c.procs).toNat
inductive RootP (c : DCode) : Nat → Prop
  | main : RootP c (mainN c)
  | spawn {r p q : Nat} (h0 : RootP c r) (h1 : FromP c r p) (h2 : OpsP c p 5 q) (hq : q < c.procs.length) : RootP c q
def UsedP (c : DCode) (p : Nat) : Prop := ∃ r, RootP c r ∧ FromP c r p
theorem main_lt' {c : DCode} (hc : CodeR c) : plc mainS c.procs = (mainN c : Int) ∧ mainN c < c.procs.length := by
  have h := main_lt hc
  have h2 := hc.2.1.1
  unfold mainN
  omega
theorem RootP.lt {c : DCode} (hc : CodeR c) {r : Nat} (h : RootP c r) : r < c.procs.length := by
  cases h with
  | main => exact (main_lt' hc).2
  | spawn _ _ _ hq => exact hq
theorem UsedP.lt {c : DCode} (hc : CodeR c) {p : Nat} (h : UsedP c p) : p < c.procs.length := by
  obtain ⟨r, h1, h2⟩ := h
  exact h2.lt (h1.lt hc)
theorem RootP.used {c : DCode} {r : Nat} (h : RootP c r) : UsedP c r := ⟨r, h, .inl rfl⟩
theorem UsedP.call {c : DCode} {p q : Nat} (h : UsedP c p) (hq : q < c.procs.length) (k : OpsP c p 4 q) : UsedP c q := by
  obtain ⟨r, h1, h2⟩ := h
  exact ⟨r, h1, h2.call hq k⟩
/-- what may be lost at a place (none: where a procedure begins) -/
inductive LostM (c : DCode) (K G : Nat → Nat → Prop) : Nat → Option Nat → Nat → Prop
  | root {p l : Nat} (h : RootP c p) : LostM c K G p none l
  | call {p i l : Nat} (hu : UsedP c p) (h0 : LiveP c p i) (ho : (insAt c i).op = 4) (h : LostM c K G p (some i) l) : LostM c K G (agN c i) none l
  | ent {p l : Nat} (h : LostM c K G p none l) : LostM c K G p (some (eN c p)) l
  | gen {p i j l : Nat} (h0 : LiveP c p i) (hj : j ∈ nextN c i) (h1 : genX c K G i l) : LostM c K G p (some j) l
  | pass {p i j l : Nat} (h0 : LiveP c p i) (hj : j ∈ nextN c i) (h1 : LostM c K G p (some i) l) (h2 : passX c G i l) : LostM c K G p (some j) l
/-- what is held for sure where a procedure begins -/
noncomputable def begN (c : DCode) (p : Nat) : Nat := m6 fun l => ¬ LostM c (tK (effN c)) (tG (effN c)) p none l
noncomputable def begs (c : DCode) : List Nat := (List.range c.procs.length).map (begN c)
theorem begs_len (c : DCode) : (begs c).length = c.procs.length := by simp [begs]
theorem begs_at {c : DCode} {p : Nat} (hp : p < c.procs.length) : nat0 (begs c) p = begN c p := by rw [← nat0_get (by rw [begs_len]; exact hp)]; simp [begs]
structure BI (c : DCode) (out : List Nat) : Prop where
  len : out.length = c.procs.length
  lt : ∀ x ∈ out, x < 64
  snd : ∀ p l, p < c.procs.length → l < 6 → (nat0 out p).testBit l = false → LostM c (tK (effN c)) (tG (effN c)) p none l
  root : ∀ p l, RootP c p → l < 6 → (nat0 out p).testBit l = false
theorem BI.lt0 {c : DCode} {out : List Nat} (h : BI c out) (i : Nat) : nat0 out i < 64 := by
  rcases Nat.lt_or_ge i out.length with hi | hi
  · exact h.lt _ (nat0_mem hi)
  · unfold nat0; rw [List.getD_eq_getElem?_getD, List.getElem?_eq_none hi]; simp
theorem flow_bit {c : DCode} {T : Tab} {p h i l : Nat} (hi : i < c.ins.length) (hl : l < 6) : (nat0 (flowN c T p h) i).testBit l = false ↔ LostP c (tK T) (tG T) p (fun l => h.testBit l = true) i l := by
  rw [flowN_at hi]
  constructor
  · intro h
    refine Classical.byContradiction fun hn => ?_
    rw [m6_bit.2 ⟨hl, hn⟩] at h; cases h
  · intro k
    cases e : (m6 fun l => ¬ LostP c (tK T) (tG T) p (fun l => h.testBit l = true) i l).testBit l
    · rfl
    · exact absurd k (m6_bit.1 e).2
theorem BI.start {c : DCode} (hc : CodeR c) (out : List Nat) (hl : out.length = c.procs.length) (h : ∀ p, p < c.procs.length → (RootP c p → nat0 out p = 0) ∧ (¬ RootP c p → nat0 out p = 63)) : BI c out := by
  refine ⟨hl, fun x hx => ?_, fun p l hp h6 hb => ?_, fun p l hr h6 => ?_⟩
  · obtain ⟨i, hi, rfl⟩ := List.getElem_of_mem hx
    rw [nat0_get hi]
    have := h i (by omega)
    by_cases hr : RootP c i
    · rw [this.1 hr]; omega
    · rw [this.2 hr]; omega
  · by_cases hr : RootP c p
    · exact .root hr
    · rw [(h p hp).2 hr, full_bit h6] at hb; cases hb
  · rw [(h p (hr.lt hc)).1 hr]; simp
theorem BI.lost {c : DCode} {out : List Nat} (h : BI c out) {p i l : Nat} (hp : p < c.procs.length) (hl : l < 6) (k : LostP c (tK (effN c)) (tG (effN c)) p (fun l => (nat0 out p).testBit l = true) i l) : LostM c (tK (effN c)) (tG (effN c)) p (some i) l := by
  induction k with
  | ent h0 => exact .ent (h.snd p _ hp hl (by simpa using h0))
  | gen h0 hj h1 => exact .gen h0 hj h1
  | pass h0 hj _ h2 ih => exact .pass h0 hj (ih hl) h2
theorem BI.upd {c : DCode} (hc : CodeR c) {out : List Nat} (h : BI c out) {p i : Nat} (hu : UsedP c p) (hi : LiveP c p i) (ho : (insAt c i).op = 4) :
    BI c (out.set (agN c i) (nat0 out (agN c i) &&& nat0 (flowN c (effN c) p (nat0 out p)) i)) := by
  have hp := hu.lt hc
  have hil := (live_lt hc (by rw [hc.2.1.1]; exact hp) hi).1
  have hq := (ag_proc hc hil (.inl ho)).2
  refine ⟨by simp [h.len], fun x hx => ?_, fun r l hr hl hb => ?_, fun r l hr hl => ?_⟩
  · rcases mem_set hx with rfl | hx
    · exact Nat.lt_of_le_of_lt Nat.and_le_left (h.lt0 _)
    · exact h.lt x hx
  · rw [nat0_set (by rw [h.len]; exact hq)] at hb
    split at hb
    · rename_i e
      subst e
      rw [Nat.testBit_and, Bool.and_eq_false_iff] at hb
      rcases hb with hb | hb
      · exact h.snd _ l hr hl hb
      · refine .call hu hi ho ?_
        exact h.lost hp hl ((flow_bit hil hl).1 hb)
    · exact h.snd r l hr hl hb
  · rw [nat0_set (by rw [h.len]; exact hq)]
    split
    · rename_i e
      rw [Nat.testBit_and, e, h.root r l hr hl]; rfl
    · exact h.root r l hr hl
theorem BI.fin {c : DCode} (hc : CodeR c) {out : List Nat} (h : BI c out) (hs : ∀ p i, UsedP c p → LiveP c p i → (insAt c i).op = 4 → nat0 out (agN c i) &&& nat0 (flowN c (effN c) p (nat0 out p)) i = nat0 out (agN c i)) : out = begs c := by
  refine List.ext_getElem (by rw [h.len, begs_len]) fun p h1 h2 => ?_
  have hp : p < c.procs.length := by rw [← h.len]; exact h1
  rw [nat0_get h1, nat0_get h2, begs_at hp]
  have key : ∀ {p : Nat} {o : Option Nat} {l : Nat}, LostM c (tK (effN c)) (tG (effN c)) p o l → l < 6 → match o with
      | none => (nat0 out p).testBit l = false
      | some i => LostP c (tK (effN c)) (tG (effN c)) p (fun l => (nat0 out p).testBit l = true) i l := fun {p o l} k => by
    induction k with
    | root hr => exact fun hl => h.root _ _ hr hl
    | @call p i l hu h0 ho _ ih =>
      intro hl
      have hil := (live_lt hc (by rw [hc.2.1.1]; exact hu.lt hc) h0).1
      simp only
      rw [← hs p i hu h0 ho, Nat.testBit_and, (flow_bit hil hl).2 (ih hl), Bool.and_false]
    | ent _ ih => exact fun hl => .ent (by have := ih hl; simp only at this; rw [this]; simp)
    | gen h0 hj h1 => exact fun hl => .gen h0 hj h1
    | pass h0 hj _ h2 ih => exact fun hl => .pass h0 hj (ih hl) h2
  refine eq_m6 (h.lt0 p) fun l hl => ⟨fun hb hn => ?_, fun hn => bit_of_not fun hb => hn (h.snd p l hp hl hb)⟩
  have := key hn hl
  simp only at this
  rw [this] at hb; cases hb
/-- what is held for sure at each place -/
noncomputable def mustAt (c : DCode) (i : Nat) : Nat := @ite _ (UsedP c (procOf c i).toNat) (Classical.propDecidable _) (nat0 (flowN c (effN c) (procOf c i).toNat (begN c (procOf c i).toNat)) i) 63
noncomputable def mustN (c : DCode) : List Nat := (List.range c.ins.length).map (mustAt c)
theorem mustN_len (c : DCode) : (mustN c).length = c.ins.length := by simp [mustN]
theorem mustN_at {c : DCode} {i : Nat} (hi : i < c.ins.length) : nat0 (mustN c) i = mustAt c i := by rw [← nat0_get (by rw [mustN_len]; exact hi)]; simp [mustN]
theorem nat0_lt {l : List Nat} (h : ∀ x ∈ l, x < 64) (i : Nat) : nat0 l i < 64 := by
  rcases Nat.lt_or_ge i l.length with hi | hi
  · exact h _ (nat0_mem hi)
  · unfold nat0; rw [List.getD_eq_getElem?_getD, List.getElem?_eq_none hi]; simp
/-- where a thread may come to -/
inductive MetP (c : DCode) : Nat → Prop
  | root {p : Nat} (h : RootP c p) : MetP c (eN c p)
  | call {i : Nat} (h : MetP c i) (ho : (insAt c i).op = 4) : MetP c (eN c (agN c i))
  | next {i j : Nat} (h : MetP c i) (ho : ¬ (insAt c i).op = 4) (hj : j ∈ nextN c i) : MetP c j
  | back {i j : Nat} (h : MetP c i) (ho : (insAt c i).op = 4) (hz : MetP c (zN c (agN c i))) (hj : j ∈ nextN c i) : MetP c j
theorem MetP.lt {c : DCode} (hc : CodeR c) {i : Nat} (h : MetP c i) : i < c.ins.length := by
  induction h with
  | root h => exact (eN_eq hc (by rw [hc.2.1.1]; exact h.lt hc)).2.1
  | call _ ho ih => exact (eN_eq hc (by rw [hc.2.1.1]; exact (ag_proc hc ih (.inl ho)).2)).2.1
  | next _ _ hj ih => exact (nextN_lt hc ih hj).1
  | back _ _ _ hj ih _ => exact (nextN_lt hc ih hj).1
/-- which lock may be held there -/
inductive MayP (c : DCode) : Nat → Nat → Prop
  | lock {i j l : Nat} (h : MetP c i) (ho : (insAt c i).op = 6) (ha : agN c i = l) (hj : j ∈ nextN c i) : MayP c j l
  | pass {i j l : Nat} (h : MetP c i) (ho : ¬ (insAt c i).op = 4) (ha : ¬ ((insAt c i).op = 7 ∧ agN c i = l)) (hm : MayP c i l) (hj : j ∈ nextN c i) : MayP c j l
  | call {i l : Nat} (h : MetP c i) (ho : (insAt c i).op = 4) (hm : MayP c i l) : MayP c (eN c (agN c i)) l
  | back {i j l : Nat} (h : MetP c i) (ho : (insAt c i).op = 4) (hz : MetP c (zN c (agN c i))) (hm : MayP c (zN c (agN c i)) l) (hj : j ∈ nextN c i) : MayP c j l
noncomputable def metN (c : DCode) : List Bool := setB c.ins.length (MetP c)
noncomputable def mayN (c : DCode) : List Nat := (List.range c.ins.length).map fun i => m6 (MayP c i)
theorem mayN_len (c : DCode) : (mayN c).length = c.ins.length := by simp [mayN]
theorem mayN_at {c : DCode} {i : Nat} (hi : i < c.ins.length) : nat0 (mayN c) i = m6 (MayP c i) := by rw [← nat0_get (by rw [mayN_len]; exact hi)]; simp [mayN]
theorem mayN_lt (c : DCode) : ∀ x ∈ mayN c, x < 64 := fun x hx => by
  obtain ⟨i, _, rfl⟩ := List.mem_map.1 hx
  exact m6_lt
/-- closed under steps -/
structure MetC (c : DCode) (M : Nat → Prop) : Prop where
  root : ∀ p, RootP c p → M (eN c p)
  call : ∀ i, M i → (insAt c i).op = 4 → M (eN c (agN c i))
  next : ∀ i j, M i → ¬ (insAt c i).op = 4 → j ∈ nextN c i → M j
  back : ∀ i j, M i → (insAt c i).op = 4 → M (zN c (agN c i)) → j ∈ nextN c i → M j
theorem MetC.all {c : DCode} {M : Nat → Prop} (h : MetC c M) {i : Nat} (k : MetP c i) : M i := by
  induction k with
  | root h1 => exact h.root _ h1
  | call _ ho ih => exact h.call _ ih ho
  | next _ ho hj ih => exact h.next _ _ ih ho hj
  | back _ ho _ hj ih1 ih2 => exact h.back _ _ ih1 ho ih2 hj
structure MayC (c : DCode) (H : Nat → Nat → Prop) : Prop where
  lock : ∀ i j, MetP c i → (insAt c i).op = 6 → j ∈ nextN c i → H j (agN c i)
  pass : ∀ i j l, MetP c i → l < 6 → ¬ (insAt c i).op = 4 → ¬ ((insAt c i).op = 7 ∧ agN c i = l) → H i l → j ∈ nextN c i → H j l
  call : ∀ i l, MetP c i → l < 6 → (insAt c i).op = 4 → H i l → H (eN c (agN c i)) l
  back : ∀ i j l, MetP c i → l < 6 → (insAt c i).op = 4 → MetP c (zN c (agN c i)) → H (zN c (agN c i)) l → j ∈ nextN c i → H j l
theorem MayC.all {c : DCode} {H : Nat → Nat → Prop} (h : MayC c H) {i l : Nat} (hl : l < 6) (k : MayP c i l) : H i l := by
  induction k with
  | lock hm ho ha hj => exact ha ▸ h.lock _ _ hm ho hj
  | pass hm ho ha _ hj ih => exact h.pass _ _ _ hm hl ho ha (ih hl) hj
  | call hm ho _ ih => exact h.call _ _ hm hl ho (ih hl)
  | back hm ho hz _ hj ih => exact h.back _ _ _ hm hl ho hz (ih hl) hj
end Go.Proofs.YtjgfldfbljmhhaaGreat
namespace Go.Proofs.YtjgfldfbljmhhaaGreat
open Go Go.Sh Go.Proofs
set_option linter.unusedVariables false
set_option linter.unusedVariables false
set_option linter.unusedSimpArgs false
open Rep (rep)
structure DEffect where
  keep : Int
  gen : Int
theorem DEffect.ext_iff {x y : DEffect} : x = y ↔ (x.keep = y.keep ∧ x.gen = y.gen) := ⟨fun h => by rw [h]; exact ⟨rfl, rfl⟩, fun h => by obtain ⟨h0, h1⟩ := h; cases x; cases y; simp only at h0 h1; simp only [h0, h1]⟩
instance : DecidableEq DEffect := fun x y => decidable_of_iff (x.keep = y.keep ∧ x.gen = y.gen) DEffect.ext_iff.symm
instance : Rep DEffect := Rep.via fun x => (x.keep, x.gen)
instance : RepZ DEffect := ⟨⟨(RepZ.zv : Int), (RepZ.zv : Int)⟩, RepZ.zc (Int × Int), fun w => RepZ.zr (α := Int × Int) w⟩
instance : Flat DEffect := ⟨fun h => Flat.flat (α := Int × Int) h⟩
def eff1 (x : Nat × Nat) : DEffect := ⟨(x.1 : Int), (x.2 : Int)⟩
def effs (T : Tab) : List DEffect := T.map eff1
theorem pow_lt6 {n : Nat} (h : n < 6) : 2 ^ n < 64 := Nat.pow_lt_pow_right (n := 6) (by omega) h
theorem FL.updM {c : DCode} {T : Tab} {p h m : Nat} {out : List Nat} (hF : FL c T p h out) (hc : CodeR c) (hp : p < c.entry.length) {i j : Nat} (hi : LiveP c p i) (hj : j ∈ nextN c i)
    (hm : ∀ l, l < 6 → m.testBit l = false → LostP c (tK T) (tG T) p (fun l => h.testBit l = true) i l) : FL c T p h (out.set j (nat0 out j &&& aft c T i m)) := by
  have hil := (live_lt hc hp hi).1
  have hjl := (nextN_lt hc hil hj).1
  refine ⟨by simp [hF.len], fun x hx => ?_, fun k l hk hl hb => ?_, fun l hl hb => ?_⟩
  · rcases mem_set hx with rfl | hx
    · exact Nat.lt_of_le_of_lt Nat.and_le_left (hF.lt0 j)
    · exact hF.lt x hx
  · rw [nat0_set (by rw [hF.len]; exact hjl)] at hb
    split at hb
    · rename_i e
      subst e
      rw [Nat.testBit_and, Bool.and_eq_false_iff] at hb
      rcases hb with hb | hb
      · exact hF.snd j l hk hl hb
      · rcases aft_bit.1 hb with h1 | ⟨h1, h2⟩
        · exact .gen hi hj h1
        · exact .pass hi hj (hm l hl h2) h1
    · exact hF.snd k l hk hl hb
  · rw [nat0_set (by rw [hF.len]; exact hjl)]
    split
    · rename_i e
      rw [Nat.testBit_and, e, hF.ent l hl hb]; rfl
    · exact hF.ent l hl hb
/-- spec.Without -/
def F120 (a0 a1 : Value) (w : World) (R : Value → World → Prop) : Prop :=
  CALL Tryz.prog 123 [a0] w fun x6 w =>
  RD Tryz.prog (Op.unary .not x6) w fun x7 =>
  BR x7
  (R (Value.int .i64 0) w)
  (CALL Tryz.prog 123 [a1] w fun x10 w =>
  RD Tryz.prog (Op.unary .not x10) w fun x11 =>
  BR x11
   (R (Value.int .i64 0) w)
   (RD Tryz.prog (bin .sub 3 (.const undef) (.tmp 0) (Value.int .i64 63) a1) w fun x15 =>
   RD Tryz.prog (bin .and 3 (.tmp 0) (.tmp 0) a0 x15) w fun x16 =>
   R x16 w))
def cfg120 : Cfg := { ext := extL, joins := [], loops := [], draws := [], pars := [] }
theorem F120_eq (a0 a1 : Value) (w : World) (R : Value → World → Prop) : vcF Tryz.prog cfg120 Tryz.f120 [a0, a1] w R = F120 a0 a1 w R := by kernel_rfl
theorem F120_call {a0 a1 : Value} {w : World} {R : Value → World → Prop} (h : F120 a0 a1 w R) : CALL Tryz.prog 120 [a0, a1] w R :=
  call_of (g := cfg120) ent mixed Tryz.func120 (Nat.le_of_ble_eq_true (by kernel_rfl)) (by kernel_rfl) (F120_eq a0 a1 w R ▸ h)
theorem without_ok {w : World} {a : Nat} {b : Nat}   (ha : a < 64) (hb : b < 64) :
    CALL Tryz.prog 120 [.int .i64 (a : Int), .int .i64 (b : Int)] w fun r w' => Ext w w' ∧ (r = .int .i64 ((a &&& (63 - b) : Nat) : Int)) := by
  refine F120_call ?_
  unfold F120
  refine (l12Ok_ok ).mono ?_
  rintro _ w1_ ⟨hx1_, rfl⟩
  refine rd_nodec ?_
  refine br (fun c1 => ?_) (fun c1 => ?_)
  · refine ⟨hx1_, ?_⟩
    first | rfl | (exfalso; omega)
  · refine (l12Ok_ok ).mono ?_
    rintro _ w2_ ⟨hx2_, rfl⟩
    refine rd_nodec ?_
    refine br (fun c2 => ?_) (fun c2 => ?_)
    · refine ⟨(hx1_.trans hx2_), ?_⟩
      first | rfl | (exfalso; omega)
    · have e63 : (63 : Int) - (b : Int) = ((63 - b : Nat) : Int) := by omega
      refine rd_sub (by unfold I64; omega) ?_
      rw [e63]
      refine rd_and (by omega) (by omega) ?_
      refine ⟨(hx1_.trans hx2_), ?_⟩
      first | rfl | (exfalso; omega)
theorem without_and {a b : Nat} (ha : a < 64) (hb : b < 64) : a &&& (63 - b) = andN a b := by
  refine Nat.eq_of_testBit_eq fun l => ?_
  rw [Nat.testBit_and, andN_bit]
  cases h : a.testBit l
  · rfl
  have hl := bit_lt6 ha h
  have := Nat.testBit_two_pow_sub_succ (n := 6) (x := b) hb l
  rw [show 2 ^ 6 - (b + 1) = 63 - b by omega] at this
  rw [this, decide_eq_true hl, Bool.true_and]
end Go.Proofs.YtjgfldfbljmhhaaGreat
namespace Go.Proofs.YtjgfldfbljmhhaaGreat
open Go Go.Sh Go.Proofs
set_option linter.unusedVariables false
/-- (*impl.world).liveOf -/
def F194 (a0 a1 : Value) (w : World) (R : Value → World → Prop) : Prop :=
  NIL a0 <|
  RD Tryz.prog (Instr.fieldAt 144 a0 0) w fun x9 =>
  RD Tryz.prog (Instr.fieldAt 35 x9 3) w fun x10 =>
  RD Tryz.prog (Instr.loadAt 23 x10) w fun x11 =>
  RD Tryz.prog (Instr.indexAt 23 x11 a1) w fun x13 =>
  RD Tryz.prog (Instr.loadAt 3 x13) w fun x14 =>
  LOOPI [5, 6] [(Value.slice none 0 0), x14] w fun u3 w next3 =>
   NIL a0 <|
   RD Tryz.prog (Instr.fieldAt 144 a0 0) w fun x18 =>
   RD Tryz.prog (Instr.loadAt 35 x18) w fun x19 =>
   CALL Tryz.prog 133 [x19, a1] w fun x21 w =>
   RD Tryz.prog (bin .lss 3 (.tmp 0) (.tmp 0) (u3 6) x21) w fun x22 =>
   BR x22
    (NIL a0 <|
    RD Tryz.prog (Instr.fieldAt 144 a0 1) w fun x27 =>
    RD Tryz.prog (Instr.loadAt 72 x27) w fun x28 =>
    RD Tryz.prog (Instr.indexAt 72 x28 (u3 6)) w fun x30 =>
    RD Tryz.prog (Instr.loadAt 4 x30) w fun x31 =>
    BR x31
     (OP Tryz.prog (Instr.buildSlice 23 1 #[(0, (u3 6))]) w fun x34 w =>
     OP Tryz.prog (Builtin.append_ #[23, 23] 23 [(u3 5), x34].toArray) w fun x35 w =>
     RD Tryz.prog (bin .add 3 (.tmp 0) (.const undef) (u3 6) (Value.int .i64 1)) w fun x24 =>
     next3 [x35, x24] w)
     (RD Tryz.prog (bin .add 3 (.tmp 0) (.const undef) (u3 6) (Value.int .i64 1)) w fun x24 =>
     next3 [(u3 5), x24] w))
    (R (u3 5) w)
def cfg194 : Cfg := { ext := extL, joins := [], loops := [(3, 68719444064, [5, 6])], draws := [], pars := [] }
theorem F194_eq (a0 a1 : Value) (w : World) (R : Value → World → Prop) : vcF Tryz.prog cfg194 Tryz.f194 [a0, a1] w R = F194 a0 a1 w R := by kernel_rfl
theorem F194_call {a0 a1 : Value} {w : World} {R : Value → World → Prop} (h : F194 a0 a1 w R) : CALL Tryz.prog 194 [a0, a1] w R :=
  call_of (g := cfg194) ent mixed Tryz.func194 (Nat.le_of_ble_eq_true (by kernel_rfl)) (by kernel_rfl) (F194_eq a0 a1 w R ▸ h)
set_option linter.unusedVariables false
set_option linter.unusedSimpArgs false
open Rep (rep)
/-- what is met of whatever procedure -/
def AllLive (c : DCode) (i : Nat) : Prop := ∃ p, p < c.procs.length ∧ LiveP c p i
/-- the program's world of a code, as far as it is known at once -/
structure WL (W0 : World) (b : Nat) (c : DCode) : Prop where
  code : At W0 b 0 c
  live : At W0 b (0 + 5) (setB c.ins.length (AllLive c))
theorem setL_more {n m : Nat} {p : Nat → Prop} (h : n ≤ m) (hp : ∀ i, n ≤ i → i < m → ¬ p i) : setL m p = setL n p := by
  induction m with
  | zero => have : n = 0 := by omega
            subst this; rfl
  | succ m ih =>
    by_cases e : n = m + 1
    · rw [e]
    · rw [setL_no (hp m (by omega) (by omega)), ih (by omega) fun i h1 h2 => hp i h1 (by omega)]
theorem liveOf_ok {w W0 : World} {b p : Nat} {c : DCode} (hW : WL W0 b c) (e0 : Ext W0 w) (hc : CodeR c) (hp : p < c.procs.length) :
    CALL Tryz.prog 194 [.pointer (some ⟨b, 0, none⟩), .int .i64 (p : Int)] w fun r w' => Ext w w' ∧ Own w.heap.size w' r (ints (setL c.ins.length (LiveP c p))) := by
  refine F194_call ?_
  unfold F194
  have hpe : p < c.entry.length := by rw [hc.2.1.1]; exact hp
  have hil := hc.f.ins
  have h8 := hc.1.procs8
  obtain ⟨he1, he2, he3⟩ := eN_eq hc hpe
  obtain ⟨hz1, hz2, hz3⟩ := zN_eq hc hpe
  have hlv : ∀ i, LiveP c p i → eN c p ≤ i ∧ i ≤ zN c p := fun i h => by
    have := live_lt hc hpe h
    exact in_proc hc this.1 hpe this.2
  refine NIL.mk rfl ?_
  refine rd_fld fd144_0 ?_
  refine rd_fld fd35_3 ?_
  refine rd_load ty23 (at_DCode_3 hW.code) e0 fun v11 h11 => ?_
  refine rd_indexN u23 ty3 h11 hpe fun b1 o1 hA1 => ?_
  rw [en_get hpe, he1] at hA1
  refine rd_loadI ty3 hA1 e0 fun _ => ?_
  generalize hE : eN c p = E at *
  generalize hZ : zN c p = Z at *
  have h0 : setL E (LiveP c p) = [] := by
    rw [setL_more (n := 0) (Nat.zero_le _) fun i _ h2 h3 => by have := hlv i h3; omega]; rfl
  refine loopC (Z + 1 - E) (fun k us w' => ∃ (v : Value), us = [v, .int .i64 ((E + k : Nat) : Int)] ∧ E + k ≤ Z + 1 ∧ Ext w w' ∧ RowI w.heap.size w'.heap.size 3 w' v (ints (setL (E + k) (LiveP c p)))) 0 (Nat.zero_le _) ⟨_, rfl, by omega, Ext.refl _, by rw [Nat.add_zero, h0]; exact rowI_nil _ _ _ _⟩ ?_
  rintro k mk u w2 hkm ⟨v, hu, hkl, hx2, hr2⟩
  simp only [List.map_cons, List.map_nil, List.cons.injEq, and_true] at hu
  obtain ⟨hu1, hu2⟩ := hu
  rw [hu1, hu2]
  have hx02 := e0.trans hx2
  have hs2 := hx2.size
  refine NIL.mk rfl ?_
  refine rd_fld fd144_0 ?_
  refine rd_load ty35 hW.code hx02 fun v19 h19 => ?_
  refine (endOfProc_ok h19 hx02 (by omega)).mono ?_
  rintro _ w3 ⟨hx3, rfl⟩
  rw [hz1]
  have hx03 := hx02.trans hx3
  refine rd_lss ?_
  refine br (fun hlt => ?_) (fun hge => ?_)
  case refine_2 =>
    have hk : E + k = Z + 1 := by omega
    refine ⟨hx2.trans hx3, ?_⟩
    rw [setL_more (n := Z + 1) (by omega) fun i h1 _ h3 => by have := hlv i h3; omega, ← hk]
    exact (hr2.ext hx3).own.own
  have hk : E + k < c.ins.length := by omega
  refine NIL.mk rfl ?_
  refine rd_fld fd144_1 ?_
  refine rd_load ty72 hW.live hx03 fun v28 h28 => ?_
  refine rd_indexN u72 ty4 (i := E + k) h28 (by rw [setB_len]; exact hk) fun b2 o2 hA2 => ?_
  refine rd_loadB ty4 hA2 hx03 ?_
  have hmk := mkd_setB (n := c.ins.length) (p := AllLive c) (i := E + k)
  rw [mkd_get (by rw [setB_len]; exact hk)] at hmk
  have hiff : AllLive c (E + k) ↔ LiveP c p (E + k) := by
    constructor
    · rintro ⟨q, hq, hl⟩
      have h1 := live_lt hc (by rw [hc.2.1.1]; exact hq) hl
      have h2 := proc_in hc (p := p) (i := E + k) hpe (by omega) (by omega)
      have : q = p := by omega
      rwa [this] at hl
    · exact fun h => ⟨p, hp, h⟩
  have hsl := setL_len (n := E + k) (p := LiveP c p)
  refine br_b (fun hf => ?_) (fun hf => ?_)
  · refine op_push (lo2 := w3.heap.size) (hi2 := w3.heap.size) (x := ((E + k : Nat) : Int)) u23 ty3 z3 zc3 (by decide) (hr2.ext hx3) (by have := hx3.size; omega) (ownI_int _ _ (by unfold I64; omega)) (by have := hx3.size; omega) (by have := hx3.size; omega) (by rw [maxLen_eq, ints_len]; omega) (by rw [ints_len]; omega) fun v54 w9 hc9 hr9 => ?_
    refine rd_inc (by omega) ?_
    refine ⟨mk - 1, by omega, k + 1, by omega, v54, rfl, by omega, (hx2.trans hx3).chgI hc9 (by omega), ?_⟩
    rw [← Nat.add_assoc, setL_yes (hiff.1 (hmk.1 hf).2), ints_append]
    exact hr9
  · refine rd_inc (by omega) ?_
    refine ⟨mk - 1, by omega, k + 1, by omega, v, rfl, by omega, hx2.trans hx3, ?_⟩
    rw [← Nat.add_assoc, setL_no fun h => by rw [hmk.2 ⟨hk, hiff.2 h⟩] at hf; cases hf]
    exact (hr2.ext hx3).mono (Nat.le_refl _) hx3.size
/-- a new list of numbers -/
theorem op_makeI {w : World} {n : Nat} {K : Value → World → Prop} (h0 : 0 < n) (hn : n ≤ 1000000)
    (k : ∀ w', Ext w w' → Mine [w.heap.size] w' (.slice (some ⟨w.heap.size, 0, none⟩) n n) (ints (List.replicate n 0)) → K (.slice (some ⟨w.heap.size, 0, none⟩) n n) w') : OP Tryz.prog (Instr.makeSlice 23 (.int .i64 (n : Int)) (.int .i64 (n : Int))) w K :=
  op_makeZ (α := Int) u23 ty3 rfl rfl zlIf (by omega) (by omega) fun w2 hx2 hr2 => by
    refine k w2 hx2 ?_
    obtain ⟨F, hM, hF⟩ := hr2.own
    obtain ⟨b, o, cap, hv, hF2⟩ := flat_one hM (by intro e; have := congrArg List.length e; simp at this; omega)
    simp only [Value.slice.injEq, Option.some.injEq, Addr.mk.injEq, List.cons.injEq, and_true] at hv
    obtain ⟨⟨hb, ho⟩, _⟩ := hv
    rw [← hb] at hF2
    rw [hF2] at hM
    have e : ints (List.replicate n 0) = List.replicate n (RepZ.zv : Int) := by simp only [ints, List.map_replicate]; rfl
    rw [e]; exact hM
/-- a list of numbers of one's own in block g -/
structure FW (w1 w : World) (g n : Nat) (out : List Nat) : Prop where
  ext : Ext w1 w
  mine : Mine [g] w (.slice (some ⟨g, 0, none⟩) n n) (ints out)
  g0 : w1.heap.size ≤ g
section
variable {w1 w w' : World} {g n : Nat} {out : List Nat}
theorem FW.step (h : FW w1 w g n out) (hx : Ext w w') : FW w1 w' g n out := ⟨h.ext.trans hx, h.mine.ext hx, h.g0⟩
theorem chg_one (hc : Chg [g] w w') : ChgI g (g + 1) w w' := hc.toI fun b hb => by simp only [List.mem_cons, List.not_mem_nil, or_false] at hb; omega
theorem FW.set {i v : Nat} (h : FW w1 w g n out) (hc : Chg [g] w w') (hm : Mine [g] w' (.slice (some ⟨g, 0, none⟩) n n) ((ints out).set i (v : Int))) : FW w1 w' g n (out.set i v) :=
  ⟨h.ext.chgI (chg_one hc) h.g0, by rw [ints_set]; exact hm, h.g0⟩
theorem FW.lt (h : FW w1 w g n out) : g < w.heap.size := h.mine.lt g (by simp)
theorem FW.own (h : FW w1 w g n out) : Own w1.heap.size w (.slice (some ⟨g, 0, none⟩) n n) (ints out) := ⟨[g], h.mine, fun b hb => by simp only [List.mem_cons, List.not_mem_nil, or_false] at hb; have := h.g0; omega⟩
end
theorem mine_nat {w : World} {v : Nat} (h : v < 9223372036854775808) : Mine [] w (.int .i64 (v : Int)) (v : Int) := mine_int (by unfold I64; omega)
/-- a round under way: k of the places are done -/
structure FP (c : DCode) (T : Tab) (p h : Nat) (out0 L : List Nat) (k : Nat) (ag : Bool) (out : List Nat) : Prop where
  fl : FL c T p h out
  yes : ag = true → out.sum < out0.sum
  no : ag = false → out = out0 ∧ ∀ i ∈ L.take k, Shut c T out0 i
structure FQ (c : DCode) (T : Tab) (p h : Nat) (out0 L : List Nat) (k i q : Nat) (ag : Bool) (out : List Nat) : Prop where
  fl : FL c T p h out
  yes : ag = true → out.sum < out0.sum
  no : ag = false → out = out0 ∧ (∀ i ∈ L.take k, Shut c T out0 i) ∧ ∀ j ∈ (nextN c i).take q, nat0 out0 j &&& aft c T i (nat0 out0 i) = nat0 out0 j
section
variable {c : DCode} {T : Tab} {p h k i q m : Nat} {out0 L out : List Nat} {ag : Bool}
theorem FP.enter (H : FP c T p h out0 L k ag out) (i : Nat) : FQ c T p h out0 L k i 0 ag out := ⟨H.fl, H.yes, fun e => ⟨(H.no e).1, (H.no e).2, by simp⟩⟩
theorem FQ.set (H : FQ c T p h out0 L k i q ag out) (hc : CodeR c) (hp : p < c.entry.length) (hi : LiveP c p i) (hq : q < (nextN c i).length) (hm : ∀ l, l < 6 → m.testBit l = false → LostP c (tK T) (tG T) p (fun l => h.testBit l = true) i l)
    (hne : nat0 out (nextN c i)[q] &&& aft c T i m ≠ nat0 out (nextN c i)[q]) : FQ c T p h out0 L k i (q + 1) true (out.set (nextN c i)[q] (nat0 out (nextN c i)[q] &&& aft c T i m)) := by
  have hj := List.getElem_mem hq
  have hjl := (nextN_lt hc (live_lt hc hp hi).1 hj).1
  refine ⟨H.fl.updM hc hp hi hj hm, fun _ => ?_, fun e => by cases e⟩
  have h1 := sum_set (l := out) (i := (nextN c i)[q]) (v := nat0 out (nextN c i)[q] &&& aft c T i m) (by rw [H.fl.len]; exact hjl)
  have h2 := and_lt hne
  cases ag with
  | true => have := H.yes rfl; omega
  | false => rw [(H.no rfl).1] at h1 h2 ⊢; omega
theorem FQ.skip (H : FQ c T p h out0 L k i q ag out) (hq : q < (nextN c i).length) (hz : ag = false → m = nat0 out0 i) (he : nat0 out (nextN c i)[q] &&& aft c T i m = nat0 out (nextN c i)[q]) : FQ c T p h out0 L k i (q + 1) ag out := by
  refine ⟨H.fl, H.yes, fun e => ⟨(H.no e).1, (H.no e).2.1, fun j hj => ?_⟩⟩
  rw [List.take_succ_eq_append_getElem hq] at hj
  rcases List.mem_append.1 hj with hj | hj
  · exact (H.no e).2.2 j hj
  · simp only [List.mem_cons, List.not_mem_nil, or_false] at hj
    rw [(H.no e).1, hz e] at he
    rw [hj]; exact he
theorem FQ.done (H : FQ c T p h out0 L k i q ag out) (hk : k < L.length) (hi : L[k] = i) (hq : (nextN c i).length ≤ q) : FP c T p h out0 L (k + 1) ag out := by
  refine ⟨H.fl, H.yes, fun e => ⟨(H.no e).1, fun i' hi' => ?_⟩⟩
  rw [List.take_succ_eq_append_getElem hk] at hi'
  rcases List.mem_append.1 hi' with h1 | h1
  · exact (H.no e).2.1 i' h1
  · simp only [List.mem_cons, List.not_mem_nil, or_false] at h1
    rw [h1, hi]
    have := (H.no e).2.2
    rw [List.take_of_length_le hq] at this
    exact this
end
end Go.Proofs.YtjgfldfbljmhhaaGreat
namespace Go.Proofs.YtjgfldfbljmhhaaGreat
open Go Go.Sh Go.Proofs
set_option linter.unusedVariables false
set_option linter.unusedVariables false
set_option linter.unusedSimpArgs false
open Rep (rep)
theorem bitsTo_setN {p : Nat → Prop} {n : Nat} : ∀ {k : Nat}, k ≤ n → bitsTo (setN p n) k = ints (setL k p)
  | 0, _ => rfl
  | k + 1, h => by
    rw [bitsTo, bitsTo_setN (k := k) (by omega)]
    by_cases hp : p k
    · rw [if_pos (setN_bit.2 ⟨by omega, hp⟩), setL_yes hp, ints_append]; rfl
    · rw [if_neg fun e => hp (setN_bit.1 e).2, setL_no hp]
theorem bitsL_setN {p : Nat → Prop} {n : Nat} (h : n ≤ 62) : bitsL (setN p n) = ints (setL n p) := by
  rw [bitsL_eq (k := n) setN_lt (by omega), bitsTo_setN (Nat.le_refl _)]
theorem setN_small {p : Nat → Prop} {n : Nat} (h : n ≤ 8) : setN p n < 256 := Nat.lt_of_lt_of_le setN_lt (Nat.pow_le_pow_right (n := 2) (by omega) h)
/-- whom each procedure calls (4) or starts (5); what is called from each one on -/
noncomputable def cls (c : DCode) (op : Int) : List Nat := (List.range c.procs.length).map fun p => setN (OpsP c p op) c.procs.length
noncomputable def frs (c : DCode) : List Nat := (List.range c.procs.length).map fun p => setN (FromP c p) c.procs.length
theorem cls_len (c : DCode) (op : Int) : (cls c op).length = c.procs.length := by simp [cls]
theorem frs_len (c : DCode) : (frs c).length = c.procs.length := by simp [frs]
theorem cls_at {c : DCode} {op : Int} {p : Nat} (hp : p < c.procs.length) : nat0 (cls c op) p = setN (OpsP c p op) c.procs.length := by rw [← nat0_get (by rw [cls_len]; exact hp)]; simp [cls]
theorem frs_at {c : DCode} {p : Nat} (hp : p < c.procs.length) : nat0 (frs c) p = setN (FromP c p) c.procs.length := by rw [← nat0_get (by rw [frs_len]; exact hp)]; simp [frs]
noncomputable def rootsN (c : DCode) : Nat := setN (RootP c) c.procs.length
noncomputable def usedN (c : DCode) : Nat := setN (UsedP c) c.procs.length
/-- the program's world of a code -/
structure WAt (W0 : World) (b : Nat) (c : DCode) : Prop where
  wl : WL W0 b c
  calls : At W0 b (0 + 6) (ints (cls c 4))
  spawns : At W0 b (0 + 7) (ints (cls c 5))
  frm : At W0 b (0 + 8) (ints (frs c))
  roots : At W0 b (0 + 9) (rootsN c : Int)
  used : At W0 b (0 + 10) (usedN c : Int)
/-- what is left of a set when what P holds of is gone -/
def KI (m : Nat) (P : Nat → Prop) : Prop := m < 64 ∧ ∀ l, l < 6 → (m.testBit l = false ↔ P l)
theorem KI.start {P : Nat → Prop} (h : ∀ l, ¬ P l) : KI 63 P := ⟨by omega, fun l hl => by rw [full_bit hl]; exact ⟨fun e => (by cases e), fun e => absurd e (h l)⟩⟩
theorem KI.drop {m a : Nat} {P P' : Nat → Prop} (h : KI m P) (hP : ∀ l, P' l ↔ P l ∨ a = l) : KI (andN m (2 ^ a)) P' := by
  refine ⟨Nat.lt_of_le_of_lt (andN_le _ _) h.1, fun l hl => ?_⟩
  rw [andN_bit, Nat.testBit_two_pow, hP, ← h.2 l hl]
  simp only [Bool.and_eq_false_iff, Bool.not_eq_false', decide_eq_true_eq]
theorem KI.congr {m : Nat} {P P' : Nat → Prop} (h : KI m P) (hP : ∀ l, P' l ↔ P l) : KI m P' := ⟨h.1, fun l hl => by rw [h.2 l hl, hP]⟩
theorem mem_take_iff {α : Type} {l : List α} {k : Nat} (hk : k < l.length) {x : α} : x ∈ l.take (k + 1) ↔ x ∈ l.take k ∨ x = l[k] := by
  rw [List.take_succ_eq_append_getElem hk, List.mem_append]; simp
end Go.Proofs.YtjgfldfbljmhhaaGreat
namespace Go.Proofs.YtjgfldfbljmhhaaGreat
open Go Go.Sh Go.Proofs
set_option linter.unusedVariables false
set_option linter.unusedVariables false
set_option linter.unusedSimpArgs false
open Rep (rep)
theorem zN_end {c : DCode} (hc : CodeR c) {p : Nat} (hp : p < c.procs.length) : endB c p = ((zN c p + 1 : Nat) : Int) ∧ endOf c p = (zN c p : Int) ∧ zN c p < c.ins.length := by
  have h := zN_eq hc (p := p) (by rw [hc.2.1.1]; exact hp)
  refine ⟨by omega, ?_, h.2.2⟩
  rw [endOf_eq]; omega
/-- a table of one's own -/
structure FE (w1 w : World) (g : Nat) (v : Value) (T : Tab) : Prop where
  ext : Ext w1 w
  mine : Mine [g] w v (effs T)
  g0 : w1.heap.size ≤ g
section
variable {w1 w w' : World} {g : Nat} {v : Value} {T : Tab}
theorem FE.step (h : FE w1 w g v T) (hx : Ext w w') : FE w1 w' g v T := ⟨h.ext.trans hx, h.mine.ext hx, h.g0⟩
theorem FE.own (h : FE w1 w g v T) : Own w1.heap.size w v (effs T) := ⟨[g], h.mine, fun b hb => by simp only [List.mem_cons, List.not_mem_nil, or_false] at hb; have := h.g0; omega⟩
theorem FE.make (ho : Own w1.heap.size w v (effs T)) (hx : Ext w1 w) (hT : T ≠ []) : ∃ g, FE w1 w g v T := by
  obtain ⟨F, hm, hF⟩ := ho
  obtain ⟨b, o, cap, hv, rfl⟩ := flat_one hm (by intro e; exact hT (List.map_eq_nil_iff.1 e))
  exact ⟨b, hx, hm, hF b (by simp)⟩
end
theorem EI.len {c : DCode} {T : Tab} (h : EI c T) : T.length = c.procs.length := h.tab.1
theorem EI.ne {c : DCode} (hc : CodeR c) {T : Tab} (h : EI c T) : T ≠ [] := fun e => by
  have h1 := h.len
  have h2 := hc.1.procs8
  rw [e] at h1; simp at h1; omega
/-- a round under way -/
structure EP (c : DCode) (T0 : Tab) (k : Nat) (ag : Bool) (T : Tab) : Prop where
  ei : EI c T
  yes : ag = true → gsum T < gsum T0
  no : ag = false → T = T0 ∧ ∀ p, p < k → asked c T0 p = (tbl T0 p).2
theorem EP.set {c : DCode} (hc : CodeR c) {T0 T : Tab} {k : Nat} {ag : Bool} (H : EP c T0 k ag T) (hk : k < c.procs.length) (hne : asked c T k ≠ (tbl T k).2) : EP c T0 (k + 1) true (T.set k ((tbl T k).1, asked c T k)) := by
  refine ⟨H.ei.upd hc hk, fun _ => ?_, fun e => by cases e⟩
  have h1 := gsum_set (T := T) (p := k) (v := ((tbl T k).1, asked c T k)) (by rw [H.ei.len]; exact hk)
  have h2 := H.ei.le hc hk
  simp only at h1
  cases ag with
  | true => have := H.yes rfl; omega
  | false => rw [(H.no rfl).1] at h1 h2 hne ⊢; omega
theorem EP.skip {c : DCode} {T0 T : Tab} {k : Nat} {ag : Bool} (H : EP c T0 k ag T) (he : asked c T k = (tbl T k).2) : EP c T0 (k + 1) ag T :=
  ⟨H.ei, H.yes, fun e => ⟨(H.no e).1, fun p hp => by
    by_cases h : p = k
    · subst h; rw [(H.no e).1] at he; exact he
    · exact (H.no e).2 p (by omega)⟩⟩
end Go.Proofs.YtjgfldfbljmhhaaGreat
namespace Go.Proofs.YtjgfldfbljmhhaaGreat
open Go Go.Sh Go.Proofs
set_option linter.unusedVariables false
/-- spec.l14Roots -/
def F117 (a0 : Value) (w : World) (R : Value → World → Prop) : Prop :=
  OP Tryz.prog (Instr.box 35 a0) w fun x1 w =>
  RD Tryz.prog (Instr.fieldAt 35 x1 2) w fun x10 =>
  RD Tryz.prog (Instr.loadAt 22 x10) w fun x11 =>
  RD Tryz.prog (Builtin.len_ #[22] 3 [x11].toArray) w fun x12 =>
  OP Tryz.prog (Instr.makeSlice 72 x12 x12) w fun x13 w =>
  RD Tryz.prog (Instr.loadAt 35 x1) w fun x15 =>
  CALL Tryz.prog 188 [x15] w fun x16 w =>
  RD Tryz.prog (Instr.indexAt 72 x13 x16) w fun x17 =>
  OPU Tryz.prog (Instr.storeAt 4 x17 (Value.bool true)) w fun w =>
  RD Tryz.prog (Instr.loadAt 35 x1) w fun x18 =>
  CALL Tryz.prog 188 [x18] w fun x19 w =>
  OP Tryz.prog (Instr.buildSlice 23 1 #[(0, x19)]) w fun x20 w =>
  LOOPI [4, 5] [x20, (Value.int .i64 0)] w fun u5 w next5 =>
   RD Tryz.prog (Builtin.len_ #[23] 3 [(u5 4)].toArray) w fun x23 =>
   RD Tryz.prog (bin .lss 3 (.tmp 0) (.tmp 0) (u5 5) x23) w fun x24 =>
   BR x24
    ((fun w => RD Tryz.prog (Instr.loadAt 35 x1) w fun x27 =>
    RD Tryz.prog (Instr.indexAt 23 (u5 4) (u5 5)) w fun x30 =>
    RD Tryz.prog (Instr.loadAt 3 x30) w fun x31 =>
    CALL Tryz.prog 186 [x27, x31] w fun x32 w =>
    CALL Tryz.prog 77 [x32] w fun x33 w =>
    LOOPI [4, 7] [(u5 4), (Value.int .i64 0)] w fun u9 w next9 =>
     RD Tryz.prog (Builtin.len_ #[23] 3 [x33].toArray) w fun x36 =>
     RD Tryz.prog (bin .lss 3 (.tmp 0) (.tmp 0) (u9 7) x36) w fun x37 =>
     BR x37
      ((fun w => RD Tryz.prog (Instr.loadAt 35 x1) w fun x40 =>
      RD Tryz.prog (Instr.indexAt 23 x33 (u9 7)) w fun x43 =>
      RD Tryz.prog (Instr.loadAt 3 x43) w fun x44 =>
      CALL Tryz.prog 189 [x40, x44, (Value.int .i64 5)] w fun x45 w =>
      LOOPI [4, 9] [(u9 4), (Value.int .i64 0)] w fun u13 w next13 =>
       RD Tryz.prog (Builtin.len_ #[23] 3 [x45].toArray) w fun x48 =>
       RD Tryz.prog (bin .lss 3 (.tmp 0) (.tmp 0) (u13 9) x48) w fun x49 =>
       BR x49
        (RD Tryz.prog (Instr.indexAt 23 x45 (u13 9)) w fun x55 =>
        RD Tryz.prog (Instr.loadAt 3 x55) w fun x56 =>
        RD Tryz.prog (Instr.indexAt 72 x13 x56) w fun x57 =>
        RD Tryz.prog (Instr.loadAt 4 x57) w fun x58 =>
        RD Tryz.prog (Op.unary .not x58) w fun x59 =>
        BR x59
         (RD Tryz.prog (Instr.indexAt 23 x45 (u13 9)) w fun x63 =>
         RD Tryz.prog (Instr.loadAt 3 x63) w fun x64 =>
         RD Tryz.prog (Instr.indexAt 72 x13 x64) w fun x65 =>
         OPU Tryz.prog (Instr.storeAt 4 x65 (Value.bool true)) w fun w =>
         RD Tryz.prog (Instr.indexAt 23 x45 (u13 9)) w fun x69 =>
         RD Tryz.prog (Instr.loadAt 3 x69) w fun x70 =>
         OP Tryz.prog (Instr.buildSlice 23 1 #[(0, x70)]) w fun x71 w =>
         OP Tryz.prog (Builtin.append_ #[23, 23] 23 [(u13 4), x71].toArray) w fun x72 w =>
         RD Tryz.prog (bin .add 3 (.tmp 0) (.const undef) (u13 9) (Value.int .i64 1)) w fun x51 =>
         next13 [x72, x51] w)
         (RD Tryz.prog (bin .add 3 (.tmp 0) (.const undef) (u13 9) (Value.int .i64 1)) w fun x51 =>
         next13 [(u13 4), x51] w))
        (RD Tryz.prog (bin .add 3 (.tmp 0) (.const undef) (u9 7) (Value.int .i64 1)) w fun x39 =>
        next9 [(u13 4), x39] w)) (World.drew1 w))
      (RD Tryz.prog (bin .add 3 (.tmp 0) (.const undef) (u5 5) (Value.int .i64 1)) w fun x26 =>
      next5 [(u9 4), x26] w)) (World.drew1 w))
    (R x13 w)
def cfg117 : Cfg := { ext := extL, joins := [], loops := [(5, 9444732965739288331248, [4, 5]), (9, 9444732965722110559120, [4, 7]), (13, 9444732895370546250256, [4, 9])], draws := [(7, [0, 1, 2, 3, 4, 5, 6, 7], 0), (11, [0, 1, 2, 3, 4, 5, 6], 0)], pars := [] }
theorem F117_eq (a0 : Value) (w : World) (R : Value → World → Prop) : vcF Tryz.prog cfg117 Tryz.f117 [a0] w R = F117 a0 w R := by kernel_rfl
theorem F117_call {a0 : Value} {w : World} {R : Value → World → Prop} (h : F117 a0 w R) : CALL Tryz.prog 117 [a0] w R :=
  call_of (g := cfg117) ent mixed Tryz.func117 (Nat.le_of_ble_eq_true (by kernel_rfl)) (by kernel_rfl) (F117_eq a0 w R ▸ h)
set_option linter.unusedVariables false
set_option linter.unusedSimpArgs false
open Rep (rep)
/-- whom a thread of one procedure may start -/
noncomputable def opsN (c : DCode) (p : Nat) : List Nat := setL c.procs.length (OpsP c p 5)
noncomputable def frmL (c : DCode) (r : Nat) : List Nat := setL c.procs.length (FromP c r)
noncomputable def rootNx (c : DCode) (r : Nat) : List Nat := (frmL c r).flatMap (opsN c)
theorem rootP_iff {c : DCode} (hc : CodeR c) (q : Nat) : RootP c q ↔ q = mainN c ∨ RP (rootNx c) (mainN c) q := by
  have hmem : ∀ r q, q ∈ rootNx c r ↔ ∃ p, p < c.procs.length ∧ FromP c r p ∧ q < c.procs.length ∧ OpsP c p 5 q := fun r q => by
    unfold rootNx frmL opsN
    simp only [List.mem_flatMap, mem_setL]
    exact ⟨fun ⟨p, ⟨h1, h2⟩, h3, h4⟩ => ⟨p, h1, h2, h3, h4⟩, fun ⟨p, h1, h2, h3, h4⟩ => ⟨p, ⟨h1, h2⟩, h3, h4⟩⟩
  constructor
  · intro h
    induction h with
    | main => exact .inl rfl
    | @spawn r p q h0 h1 h2 hq ih =>
      have hm := (hmem r q).2 ⟨p, h1.lt (h0.lt hc), h1, hq, h2⟩
      rcases ih with rfl | ih
      · exact .inr (.one hm)
      · exact .inr (.more ih hm)
  · rintro (rfl | h)
    · exact .main
    · refine h.keeps (p := RootP c) .main fun i j hi hj => ?_
      obtain ⟨p, _, h1, h2, h3⟩ := (hmem i j).1 hj
      exact .spawn hi h1 h3 h2
theorem flat_pos {α β : Type} {f : α → List β} {L : List α} {i j : Nat} (hi : i < L.length) (hj : j < (f L[i]).length) : ∃ h : ((L.take i).flatMap f).length + j < (L.flatMap f).length, (L.flatMap f)[((L.take i).flatMap f).length + j] = (f L[i])[j] := by
  have e : L.flatMap f = (L.take i).flatMap f ++ (f L[i] ++ (L.drop (i + 1)).flatMap f) := by
    rw [← List.flatMap_cons, ← List.flatMap_append]
    congr 1
    rw [← List.drop_eq_getElem_cons hi, List.take_append_drop]
  have hlt : ((L.take i).flatMap f).length + j < (L.flatMap f).length := by rw [e]; simp only [List.length_append]; omega
  refine ⟨hlt, ?_⟩
  have : (L.flatMap f)[((L.take i).flatMap f).length + j]? = some (f L[i])[j] := by
    rw [e, List.getElem?_append_right (by omega), Nat.add_sub_cancel_left, List.getElem?_append_left hj, List.getElem?_eq_getElem hj]
  rw [List.getElem?_eq_getElem hlt] at this
  exact Option.some.inj this
theorem flat_next {α β : Type} {f : α → List β} {L : List α} {i : Nat} (hi : i < L.length) : ((L.take (i + 1)).flatMap f).length = ((L.take i).flatMap f).length + (f L[i]).length := by
  rw [List.take_succ_eq_append_getElem hi, List.flatMap_append, List.length_append]; simp
theorem l14Roots_ok {w W0 : World} {v0 : Value} {c : DCode} (h0 : Is W0 v0 c) (e0 : Ext W0 w) (hc : CodeR c) :
    CALL Tryz.prog 117 [v0] w fun r w' => Ext w w' ∧ Own w.heap.size w' r (setB c.procs.length (RootP c)) := by
  refine F117_call ?_
  unfold F117
  have h8 := hc.1.procs8
  obtain ⟨hm1, hm2⟩ := main_lt' hc
  have hR := rootP_iff hc
  have hcn : ∀ x, rootNx c x = (frmL c x).flatMap (opsN c) := fun _ => rfl
  have hnl : ∀ {i j : Nat}, i < c.procs.length → j ∈ rootNx c i → j < c.procs.length ∧ True := fun {i j} _ hj => by
    rw [hcn] at hj
    obtain ⟨p, _, h⟩ := List.mem_flatMap.1 hj
    exact ⟨(mem_setL.1 h).1, trivial⟩
  refine op_box h0 e0 fun w1 hx1 hA => ?_
  have hs1 := hx1.size
  refine rd_fld fd35_2 ?_
  refine rd_load ty22 (at_DCode_2 hA) (Ext.refl _) fun v11 h11 => ?_
  refine rd_len u22 h11 ?_
  refine op_makeB h8.2 (by omega) fun w2 hx2 hM2 => ?_
  have hs2 := hx2.size
  refine rd_load ty35 hA hx2 fun v15 h15 => ?_
  refine (l14Main_ok h15 hx2).mono ?_
  rintro _ w2a ⟨hx2a, rfl⟩
  rw [hm1]
  have hs2a := hx2a.size
  have hM2a := hM2.ext hx2a
  generalize hn : c.procs.length = n at *
  generalize mainN c = a at *
  refine rd_elt (α := Bool) rfl u72 ty4 hm2 ?_
  refine opu_elt (α := Bool) rfl ty4 hM2a (by simp) hm2 mine_boolT fun w2b hc2 hM2b => ?_
  have hc2' : ChgI w1.heap.size (w1.heap.size + 1) w2a w2b := hc2.toI fun b hb => by simp only [List.mem_cons, List.not_mem_nil, or_false] at hb; omega
  have hs2b := hc2'.size
  have hM0l : ((List.replicate n false).set a true).length = n := by simp
  have hM0 : ∀ i, mkd ((List.replicate n false).set a true) i ↔ i = a := fun i => by
    rw [mkd_set (by simp; exact hm2)]
    exact ⟨fun h => h.resolve_left mkd_replicate, .inr⟩
  generalize (List.replicate n false).set a true = M0 at *
  have hx12b : Ext w1 w2b := (hx2.trans hx2a).chgI hc2' (by omega)
  refine rd_load ty35 hA hx12b fun v18 h18 => ?_
  refine (l14Main_ok h18 hx12b).mono ?_
  rintro _ w2c ⟨hx2c, rfl⟩
  rw [hm1]
  have hs2c := hx2c.size
  refine op_build1R (x := (a : Int)) u23 ty3 z3 (by decide) (mine_int (by unfold I64; omega)) fun v20 w3 hx3 hr3 => ?_
  have hs3 := hx3.size
  generalize hm : w1.heap.size = m at *
  have hW3 : WI w1 w3 m n w2c.heap.size w3.heap.size v20 [a] M0 := ⟨(((hx2.trans hx2a).toI.trans hc2').trans hx2c.toI).trans hx3.toI, hr3, (hM2b.ext hx2c).ext hx3, by omega, by have := hM2b.lt m (by simp); omega, hs3, Nat.le_refl _⟩
  have hfl : ∀ x p, p ∈ frmL c x → p < n := fun x p hp => by have := (mem_setL.1 hp).1; omega
  have hfll : ∀ x, (frmL c x).length ≤ n := fun x => by have := setL_len (n := c.procs.length) (p := FromP c x); rw [hn] at this; unfold frmL; rw [hn]; exact this
  have holl : ∀ x, (opsN c x).length ≤ n := fun x => by have := setL_len (n := c.procs.length) (p := OpsP c x 5); rw [hn] at this; unfold opsN; rw [hn]; exact this
  generalize hnx : rootNx c = nx at *
  refine loopC (1 + n) (fun h us w' => ∃ (tv : Value) (lo hi : Nat) (L : List Nat) (ms : List Bool), us = [tv, .int .i64 (h : Int)] ∧ h ≤ L.length ∧ WI w1 w' m n lo hi tv L ms ∧ SInv nx n a M0 ms (L.drop h) h) 0 (Nat.zero_le _) ⟨v20, _, _, [a], _, rfl, by simp, hW3, SInv.start hM0l hm2⟩ ?_
  rintro h mk u w4 hkm ⟨tv, lo, hi, L, ms, hu, hhL, hW4, hS4⟩
  simp only [List.map_cons, List.map_nil, List.cons.injEq, and_true] at hu
  obtain ⟨hu1, hu2⟩ := hu
  rw [hu1, hu2]
  have hb4 := hS4.bound
  rw [List.length_drop] at hb4
  refine rd_len u23 hW4.row.is ?_
  rw [ints_len]
  refine rd_lss ?_
  refine br (fun hlt => ?_) (fun hge => ?_)
  case refine_2 =>
    have hhe : h = L.length := by omega
    rw [hhe, List.drop_length] at hS4
    have hfin := hS4.fin fun i hi hne => absurd ((hM0 i).1 hi) hne
    have hms : ms = setB n (RootP c) := marks_setB hS4.len fun i hi => by rw [hfin i, hM0, hR]
    rw [← hms]
    have hx4 : Ext w1 w4 := (Ext.refl w1).chgI hW4.chg (by omega)
    exact ⟨hx1.trans hx4, [m], hW4.mks, fun b hb => by simp only [List.mem_cons, List.not_mem_nil, or_false] at hb; omega⟩
  have hh : h < L.length := by omega
  have hx5 := ext_drew w4
  have hW5 := hW4.step hx5
  generalize World.drew1 w4 = w5 at *
  have hxa : ∀ {w : World} {lo hi tv L ms}, WI w1 w m n lo hi tv L ms → Ext w1 w := fun h => (Ext.refl w1).chgI h.chg (by omega)
  refine rd_load ty35 hA (hxa hW5) fun v27 h27 => ?_
  refine rd_indexN u23 ty3 (i := h) hW5.row.is (by rw [ints_len]; exact hh) fun b1 o1 hA1 => ?_
  rw [ints_get] at hA1
  refine rd_loadI ty3 hA1 (Ext.refl _) fun _ => ?_
  generalize hx : L[h] = x at *
  have hdr : L.drop h = x :: L.drop (h + 1) := by rw [List.drop_eq_getElem_cons hh, hx]
  have hxn : x < n := (hS4.tdo x (by rw [hdr]; simp)).2
  refine (l10FromM_ok h27 (hxa hW5) hc (by rw [hn]; exact hxn)).mono ?_
  rintro _ w6a ⟨hx6a, gf, rfl, hgf, hMf⟩
  refine (l09Marked_ok hMf.is (Ext.refl _) (by rw [setB_len]; omega)).mono ?_
  rintro v33 w6 ⟨hx6, ho6⟩
  have hFr : (fun i => i = x ∨ RP (callN c) x i) = FromP c x := rfl
  rw [setB_len, idxM_setB, hFr] at ho6
  have ho6' : Own w6a.heap.size w6 v33 (ints (frmL c x)) := ho6
  have hW6 := (hW5.step hx6a).step hx6
  have hI6 := hW5.h3
  have hs6a := hx6a.size
  have hs6 := hx6.size
  have hS6 : SIn2 nx n a M0 ms (L.drop (h + 1)) h x 0 := hS4.pop (fun i => by rw [hdr]; simp [or_comm]) (by rw [hdr]; simp)
  have hfx := hfll x
  have hflx := hfl x
  have hnxx : nx x = (frmL c x).flatMap (opsN c) := hcn x
  generalize frmL c x = Fl at *
  refine loopC Fl.length (fun k us w' => ∃ (tv : Value) (lo hi : Nat) (L : List Nat) (ms : List Bool), us = [tv, .int .i64 (k : Int)] ∧ k ≤ Fl.length ∧ h < L.length ∧ WI w1 w' m n lo hi tv L ms ∧ SIn2 nx n a M0 ms (L.drop (h + 1)) h x ((Fl.take k).flatMap (opsN c)).length ∧ OwnI w6a.heap.size w6.heap.size w' v33 (ints Fl) ∧ (hi ≤ w6a.heap.size ∨ w6.heap.size ≤ lo) ∧ w6.heap.size ≤ w'.heap.size) 0 (Nat.zero_le _) ⟨tv, lo, hi, L, ms, rfl, Nat.zero_le _, hh, hW6, hS6, ho6'.toI, .inl (by omega), Nat.le_refl _⟩ ?_
  rintro k mk9 u w7 hkm9 ⟨tv7, lo7, hi7, L7, ms7, hu, hkl, hh7, hW7, hS7, ho7, hd7, hz7⟩
  simp only [List.map_cons, List.map_nil, List.cons.injEq, and_true] at hu
  obtain ⟨hu1, hu2⟩ := hu
  rw [hu1, hu2]
  refine rd_len u23 ho7.is ?_
  rw [ints_len]
  refine rd_lss ?_
  refine br (fun hlt7 => ?_) (fun hge7 => ?_)
  case refine_2 =>
    refine rd_inc (by omega) ?_
    refine ⟨mk - 1, by omega, h + 1, by omega, tv7, lo7, hi7, L7, ms7, rfl, by omega, hW7, hS7.done ?_⟩
    rw [hnxx, show Fl.take k = Fl from List.take_of_length_le (by omega)]
    exact Nat.le_refl _
  have hk : k < Fl.length := by omega
  have hx8 := ext_drew w7
  have hW8 := hW7.step hx8
  have ho8 := ho7.ext hx8
  have hs8 := hx8.size
  generalize World.drew1 w7 = w8 at *
  refine rd_load ty35 hA (hxa hW8) fun v40 h40 => ?_
  refine rd_indexN u23 ty3 (i := k) ho8.is (by rw [ints_len]; exact hk) fun b2 o2 hA2 => ?_
  rw [ints_get] at hA2
  refine rd_loadI ty3 hA2 (Ext.refl _) fun _ => ?_
  have hfp := fun j => flat_pos (f := opsN c) (L := Fl) (i := k) (j := j) hk
  have hfn := flat_next (f := opsN c) (L := Fl) (i := k) hk
  have hpn := hflx _ (List.getElem_mem hk)
  rw [← hnxx] at hfp
  generalize Fl[k] = p at *
  refine (l10Ops_ok h40 (hxa hW8) hc (p := p) (op := 5) (by rw [hc.2.1.1, hn]; exact hpn) (.inr rfl)).mono ?_
  rintro v45 w9 ⟨hx9, ho9⟩
  have ho9' : Own w8.heap.size w9 v45 (ints (opsN c p)) := ho9
  have hW9 := hW8.step hx9
  have hs9 := hx9.size
  have hop := holl p
  generalize opsN c p = Ol at *
  generalize hq0 : ((Fl.take k).flatMap (opsN c)).length = q0 at *
  have hI8 := hW8.h3
  refine loopC Ol.length (fun j us w' => ∃ (tv : Value) (lo hi : Nat) (L : List Nat) (ms : List Bool), us = [tv, .int .i64 (j : Int)] ∧ j ≤ Ol.length ∧ h < L.length ∧ WI w1 w' m n lo hi tv L ms ∧ SIn2 nx n a M0 ms (L.drop (h + 1)) h x (q0 + j) ∧ OwnI w6a.heap.size w6.heap.size w' v33 (ints Fl) ∧ (hi ≤ w6a.heap.size ∨ w6.heap.size ≤ lo) ∧ OwnI w8.heap.size w9.heap.size w' v45 (ints Ol) ∧ (hi ≤ w8.heap.size ∨ w9.heap.size ≤ lo) ∧ w9.heap.size ≤ w'.heap.size) 0 (Nat.zero_le _) ⟨tv7, lo7, hi7, L7, ms7, rfl, Nat.zero_le _, hh7, hW9, hS7, ho8.ext hx9, hd7, ho9'.toI, .inl hI8, Nat.le_refl _⟩ ?_
  rintro j mk13 u w10 hkm13 ⟨tv10, lo10, hi10, L10, ms10, hu, hjl, hh10, hW10, hS10, ho10, hd10, hp10, hd10b, hz10⟩
  simp only [List.map_cons, List.map_nil, List.cons.injEq, and_true] at hu
  obtain ⟨hu1, hu2⟩ := hu
  rw [hu1, hu2]
  refine rd_len u23 hp10.is ?_
  rw [ints_len]
  refine rd_lss ?_
  refine br (fun hlt10 => ?_) (fun hge10 => ?_)
  case refine_2 =>
    refine rd_inc (by omega) ?_
    refine ⟨mk9 - 1, by omega, k + 1, by omega, tv10, lo10, hi10, L10, ms10, rfl, by omega, hh10, hW10, ?_, ho10, hd10, by omega⟩
    rw [hfn, show Ol.length = j by omega]
    exact hS10
  have hj : j < Ol.length := by omega
  obtain ⟨hq, hqe⟩ := hfp j hj
  have hrd : ∀ {w : World} {K : Value → Prop} (ho : OwnI w8.heap.size w9.heap.size w v45 (ints Ol)) (kk : K (.int .i64 (((nx x)[q0 + j] : Nat) : Int))), RD Tryz.prog (Instr.indexAt 23 v45 (.int .i64 (j : Int))) w fun x37 => RD Tryz.prog (Instr.loadAt 3 x37) w K := fun ho kk => by
    refine rd_indexN u23 ty3 (i := j) ho.is (by rw [ints_len]; exact hj) fun b1 o1 hA1 => ?_
    rw [ints_get, ← hqe] at hA1
    exact rd_loadI ty3 hA1 (Ext.refl _) fun _ => kk
  have hy := hnl hxn (List.getElem_mem hq)
  refine hrd hp10 ?_
  have hlen10 := hS10.len
  refine rd_indexN u72 ty4 hW10.mks.is (by rw [hlen10]; exact hy.1) fun b3 o3 hA3 => ?_
  refine rd_loadB ty4 hA3 (Ext.refl _) ?_
  refine rd_not ?_
  have hmk10 := mkd_get (ms := ms10) (i := (nx x)[q0 + j]) (by rw [hlen10]; exact hy.1)
  refine br_b (fun hf => ?_) (fun hf => ?_)
  · have hnm : ¬ mkd ms10 (nx x)[q0 + j] := by rw [hmk10]; simpa using hf
    refine hrd hp10 ?_
    refine rd_elt (α := Bool) rfl u72 ty4 hy.1 ?_
    refine opu_elt (α := Bool) rfl ty4 hW10.mks hlen10 hy.1 mine_boolT fun w11 hc11 hm11 => ?_
    have hW11 := hW10.mark hc11 hm11
    have hc11' : ChgI m (m + 1) w10 w11 := hc11.toI fun b hb => by simp only [List.mem_cons, List.not_mem_nil, or_false] at hb; omega
    have hm4 := hW5.mks.lt m (by simp)
    have ho11 := ho10.chg hc11' (by omega)
    have hp11 := hp10.chg hc11' (by omega)
    refine hrd hp11 ?_
    have hS11 := hS10.push hq hy.1 hnm
    generalize (nx x)[q0 + j] = y at *
    have hLb : L10.length ≤ 2 + n := by
      have h1 := hS10.cnt
      have h2 := cntM_le ms10
      rw [List.length_drop] at h1
      omega
    refine op_pushD1 (x := (y : Int)) u23 ty3 z3 zc3 (by decide) hW11.row (ownI_int 0 0 (by unfold I64; omega)) (by rw [maxLen_eq, ints_len]; omega) (by rw [ints_len]; omega) fun v54 w12 lo12 hi12 hc12 hr12 hd12 => ?_
    have hW12 := hW11.push hc12 hr12 hd12
    have hsz11 := hc11'.size
    have hsz12 := hc12.size
    refine rd_inc (by omega) ?_
    refine ⟨mk13 - 1, by omega, j + 1, by omega, v54, lo12, hi12, L10 ++ [y], _, rfl, by omega, by simp; omega, hW12, ?_, ho11.chg hc12 (by omega), by omega, hp11.chg hc12 (by omega), by omega, by omega⟩
    rw [List.drop_append_of_le_length (by omega)]
    exact hS11
  · have hnm : mkd ms10 (nx x)[q0 + j] := by rw [hmk10]; simpa using hf
    refine rd_inc (by omega) ?_
    exact ⟨mk13 - 1, by omega, j + 1, by omega, tv10, lo10, hi10, L10, ms10, rfl, by omega, hh10, hW10, hS10.skip hq hnm, ho10, hd10, hp10, hd10b, hz10⟩
end Go.Proofs.YtjgfldfbljmhhaaGreat
namespace Go.Proofs.YtjgfldfbljmhhaaGreat
open Go Go.Sh Go.Proofs
set_option linter.unusedVariables false
set_option linter.unusedVariables false
set_option linter.unusedSimpArgs false
open Rep (rep)
theorem BI.updM {c : DCode} (hc : CodeR c) {out : List Nat} (h : BI c out) {p i hh : Nat} (hu : UsedP c p) (hi : LiveP c p i) (ho : (insAt c i).op = 4) (hgz : ∀ l, l < 6 → hh.testBit l = false → LostM c (tK (effN c)) (tG (effN c)) p none l) :
    BI c (out.set (agN c i) (nat0 out (agN c i) &&& nat0 (flowN c (effN c) p hh) i)) := by
  have hp := hu.lt hc
  have hil := (live_lt hc (by rw [hc.2.1.1]; exact hp) hi).1
  have hq := (ag_proc hc hil (.inl ho)).2
  refine ⟨by simp [h.len], fun x hx => ?_, fun r l hr hl hb => ?_, fun r l hr hl => ?_⟩
  · rcases mem_set hx with rfl | hx
    · exact Nat.lt_of_le_of_lt Nat.and_le_left (h.lt0 _)
    · exact h.lt x hx
  · rw [nat0_set (by rw [h.len]; exact hq)] at hb
    split at hb
    · rename_i e
      subst e
      rw [Nat.testBit_and, Bool.and_eq_false_iff] at hb
      rcases hb with hb | hb
      · exact h.snd _ l hr hl hb
      · refine .call hu hi ho ?_
        have k := (flow_bit hil hl).1 hb
        have key : ∀ {i l : Nat}, l < 6 → LostP c (tK (effN c)) (tG (effN c)) p (fun l => hh.testBit l = true) i l → LostM c (tK (effN c)) (tG (effN c)) p (some i) l := fun {i l} hl k => by
          induction k with
          | ent h0 => exact .ent (hgz _ hl (by simpa using h0))
          | gen h0 hj h1 => exact .gen h0 hj h1
          | pass h0 hj _ h2 ih => exact .pass h0 hj (ih hl) h2
        exact key hl k
    · exact h.snd r l hr hl hb
  · rw [nat0_set (by rw [h.len]; exact hq)]
    split
    · rename_i e
      rw [Nat.testBit_and, e, h.root r l hr hl]; rfl
    · exact h.root r l hr hl
def CL (c : DCode) (out : List Nat) (p i : Nat) : Prop := nat0 out (agN c i) &&& nat0 (flowN c (effN c) p (nat0 out p)) i = nat0 out (agN c i)
/-- a round under way: D is done -/
structure BQ (c : DCode) (out0 : List Nat) (ag : Bool) (out : List Nat) (D : Nat → Nat → Prop) : Prop where
  bi : BI c out
  yes : ag = true → out.sum < out0.sum
  no : ag = false → out = out0 ∧ ∀ p i, D p i → UsedP c p → LiveP c p i → (insAt c i).op = 4 → CL c out0 p i
theorem BQ.mono {c : DCode} {out0 out : List Nat} {ag : Bool} {D D' : Nat → Nat → Prop} (H : BQ c out0 ag out D) (h : ∀ p i, UsedP c p → LiveP c p i → (insAt c i).op = 4 → D' p i → D p i) : BQ c out0 ag out D' :=
  ⟨H.bi, H.yes, fun e => ⟨(H.no e).1, fun p i hd hu hl ho => (H.no e).2 p i (h p i hu hl ho hd) hu hl ho⟩⟩
theorem BQ.set {c : DCode} (hc : CodeR c) {out0 out : List Nat} {ag : Bool} {D D' : Nat → Nat → Prop} (H : BQ c out0 ag out D) {p i hh : Nat} (hu : UsedP c p) (hi : LiveP c p i) (ho : (insAt c i).op = 4) (hb : ∀ l, l < 6 → hh.testBit l = false → LostM c (tK (effN c)) (tG (effN c)) p none l)
    (hne : nat0 out (agN c i) &&& nat0 (flowN c (effN c) p hh) i ≠ nat0 out (agN c i)) : BQ c out0 true (out.set (agN c i) (nat0 out (agN c i) &&& nat0 (flowN c (effN c) p hh) i)) D' := by
  have hil := (live_lt hc (by rw [hc.2.1.1]; exact hu.lt hc) hi).1
  have hq := (ag_proc hc hil (.inl ho)).2
  refine ⟨H.bi.updM hc hu hi ho hb, fun _ => ?_, fun e => by cases e⟩
  have h1 := sum_set (l := out) (i := agN c i) (v := nat0 out (agN c i) &&& nat0 (flowN c (effN c) p hh) i) (by rw [H.bi.len]; exact hq)
  have h2 := and_lt hne
  cases ag with
  | true => have := H.yes rfl; omega
  | false => rw [(H.no rfl).1] at h1 h2 ⊢; omega
theorem BQ.skip {c : DCode} {out0 out : List Nat} {ag : Bool} {D D' : Nat → Nat → Prop} (H : BQ c out0 ag out D) {p i hh : Nat} (hz : ag = false → hh = nat0 out0 p) (hD : ∀ q j, D' q j → D q j ∨ (q = p ∧ j = i)) (he : nat0 out (agN c i) &&& nat0 (flowN c (effN c) p hh) i = nat0 out (agN c i)) : BQ c out0 ag out D' :=
  ⟨H.bi, H.yes, fun e => ⟨(H.no e).1, fun q j hd hu hl ho => by
    rcases hD q j hd with h | ⟨rfl, rfl⟩
    · exact (H.no e).2 q j h hu hl ho
    · unfold CL; rw [← hz e, ← (H.no e).1]; exact he⟩⟩
/-- where threads begin nothing is held, elsewhere all -/
def BS (c : DCode) (k : Nat) (out : List Nat) : Prop := out.length = c.procs.length ∧ ∀ p, p < c.procs.length → (¬ (p < k ∧ ¬ RootP c p) → nat0 out p = 0) ∧ (p < k → ¬ RootP c p → nat0 out p = 63)
theorem BS.fin {c : DCode} (hc : CodeR c) {out : List Nat} (h : BS c c.procs.length out) : BI c out := BI.start hc out h.1 fun p hp => ⟨fun hr => (h.2 p hp).1 fun hn => hn.2 hr, fun hr => (h.2 p hp).2 hp hr⟩
end Go.Proofs.YtjgfldfbljmhhaaGreat
namespace Go.Proofs.YtjgfldfbljmhhaaGreat
open Go Go.Sh Go.Proofs
set_option linter.unusedVariables false
set_option linter.unusedVariables false
set_option linter.unusedSimpArgs false
open Rep (rep)
/-- a list of numbers of one's own, of whatever room -/
structure FV (w1 w : World) (g : Nat) (v : Value) (out : List Nat) : Prop where
  ext : Ext w1 w
  mine : Mine [g] w v (ints out)
  g0 : w1.heap.size ≤ g
section
variable {w1 w w' : World} {g : Nat} {v : Value} {out : List Nat}
theorem FV.step (h : FV w1 w g v out) (hx : Ext w w') : FV w1 w' g v out := ⟨h.ext.trans hx, h.mine.ext hx, h.g0⟩
theorem FV.lt (h : FV w1 w g v out) : g < w.heap.size := h.mine.lt g (by simp)
theorem FV.own (h : FV w1 w g v out) : Own w1.heap.size w v (ints out) := ⟨[g], h.mine, fun b hb => by simp only [List.mem_cons, List.not_mem_nil, or_false] at hb; have := h.g0; omega⟩
theorem FV.make (ho : Own w1.heap.size w v (ints out)) (hx : Ext w1 w) (hT : 0 < out.length) : ∃ g, FV w1 w g v out := by
  obtain ⟨F, hm, hF⟩ := ho
  obtain ⟨b, o, cap, hv, rfl⟩ := flat_one hm (by intro e; have := congrArg List.length e; rw [ints_len] at this; simp only [List.length_nil] at this; omega)
  exact ⟨b, hx, hm, hF b (by simp)⟩
end
end Go.Proofs.YtjgfldfbljmhhaaGreat
namespace Go.Proofs.YtjgfldfbljmhhaaGreat
open Go Go.Sh Go.Proofs
set_option linter.unusedVariables false
set_option linter.unusedVariables false
set_option linter.unusedSimpArgs false
open Rep (rep)
/-- what is told of the places of D is told right -/
def MS (c : DCode) (out : List Nat) (D : Nat → Prop) : Prop := out.length = c.ins.length ∧ ∀ i, i < c.ins.length → D i → nat0 out i = mustAt c i
theorem MS.set {c : DCode} {out : List Nat} {D D' : Nat → Prop} (h : MS c out D) {i v : Nat} (hi : i < c.ins.length) (hv : v = mustAt c i) (hD : ∀ j, D' j → D j ∨ j = i) : MS c (out.set i v) D' := by
  refine ⟨by simp [h.1], fun j hj hd => ?_⟩
  rw [nat0_set (by rw [h.1]; exact hi)]
  by_cases e : i = j
  · subst e; rw [if_pos rfl]; exact hv
  · rw [if_neg e]
    exact h.2 j hj ((hD j hd).resolve_right fun e' => e e'.symm)
theorem MS.mono {c : DCode} {out : List Nat} {D D' : Nat → Prop} (h : MS c out D) (hD : ∀ j, j < c.ins.length → D' j → D j) : MS c out D' := ⟨h.1, fun j hj hd => h.2 j hj (hD j hj hd)⟩
theorem MS.fin {c : DCode} {out : List Nat} {D : Nat → Prop} (h : MS c out D) (hD : ∀ j, j < c.ins.length → D j) : out = mustN c := by
  refine List.ext_getElem (by rw [h.1, mustN_len]) fun i h1 h2 => ?_
  have hi : i < c.ins.length := by rw [← h.1]; exact h1
  rw [nat0_get h1, nat0_get h2, mustN_at hi, h.2 i hi (hD i hi)]
end Go.Proofs.YtjgfldfbljmhhaaGreat
namespace Go.Proofs.YtjgfldfbljmhhaaGreat
open Go Go.Sh Go.Proofs
set_option linter.unusedVariables false
set_option linter.unusedSimpArgs false
open Rep (rep)
/-- what is met from a place is marked -/
def MC (c : DCode) (ms : List Bool) (i : Nat) : Prop :=
  ((insAt c i).op = 4 → mkd ms (eN c (agN c i)) ∧ (mkd ms (zN c (agN c i)) → ∀ j ∈ nextN c i, mkd ms j)) ∧ (¬ (insAt c i).op = 4 → ∀ j ∈ nextN c i, mkd ms j)
structure TP (c : DCode) (ms0 : List Bool) (ag : Bool) (ms : List Bool) (k : Nat) : Prop where
  len : ms.length = c.ins.length
  snd : ∀ i, mkd ms i → MetP c i
  root : ∀ p, RootP c p → mkd ms (eN c p)
  yes : ag = true → cntM ms0 < cntM ms
  no : ag = false → ms = ms0 ∧ ∀ i, i < k → mkd ms0 i → MC c ms0 i
theorem mkd_mono {ms : List Bool} {i j : Nat} (h : mkd ms j) : mkd (ms.set i true) j := by
  have hl := mkd_lt h
  by_cases hi : i < ms.length
  · exact (mkd_set hi).2 (.inl h)
  · rw [List.set_eq_of_length_le (by omega)]; exact h
theorem set_mkd {ms : List Bool} {i : Nat} (h : mkd ms i) : ms.set i true = ms := by
  have hl := mkd_lt h
  rw [mkd_get hl] at h
  rw [← h]; exact List.set_getElem_self hl
/-- ag' : something new -/
def newB (ms : List Bool) (i : Nat) (ag : Bool) : Bool := ag || !ms.getD i false
theorem newB_old {ms : List Bool} {i : Nat} {ag : Bool} (h : mkd ms i) : newB ms i ag = ag := by
  unfold mkd at h; unfold newB; rw [h]; simp
theorem newB_new {ms : List Bool} {i : Nat} {ag : Bool} (h : ¬ mkd ms i) : newB ms i ag = true := by
  unfold mkd at h; unfold newB; rw [Bool.not_eq_true] at h; rw [h]; simp
theorem TP.meet {c : DCode} {ms0 ms : List Bool} {ag : Bool} {k i : Nat} (h : TP c ms0 ag ms k) (hi : i < c.ins.length) (hm : MetP c i) : TP c ms0 (newB ms i ag) (ms.set i true) k := by
  by_cases hk : mkd ms i
  · rw [newB_old hk, set_mkd hk]; exact h
  · rw [newB_new hk]
    have hc := cntM_set (by rw [h.len]; exact hi) hk
    refine ⟨by simp [h.len], fun j hj => ?_, fun p hp => mkd_mono (h.root p hp), fun _ => ?_, fun e => by cases e⟩
    · rcases (mkd_set (by rw [h.len]; exact hi)).1 hj with h1 | h1
      · exact h.snd j h1
      · rw [h1]; exact hm
    · cases ag with
      | true => have := h.yes rfl; omega
      | false => rw [← (h.no rfl).1]; omega
theorem TP.next {c : DCode} {ms0 ms : List Bool} {ag : Bool} {k : Nat} (h : TP c ms0 ag ms k) (hk : mkd ms k → MC c ms k) : TP c ms0 ag ms (k + 1) :=
  ⟨h.len, h.snd, h.root, h.yes, fun e => ⟨(h.no e).1, fun i hi hm => by
    by_cases e2 : i = k
    · subst e2; rw [(h.no e).1] at hk; exact hk hm
    · exact (h.no e).2 i (by omega) hm⟩⟩
theorem TP.fin {c : DCode} (hc : CodeR c) {ms0 ms : List Bool} (h : TP c ms0 false ms c.ins.length) : ms = metN c := by
  obtain ⟨h1, h2⟩ := h.no rfl
  refine marks_setB h.len fun i hi => ⟨h.snd i, fun hm => ?_⟩
  have hC : MetC c (mkd ms) := ⟨h.root, fun i hi ho => ?_, fun i j hi ho hj => ?_, fun i j hi ho hz hj => ?_⟩
  · exact hC.all hm
  all_goals
    have hil := mkd_lt hi
    rw [h.len] at hil
    have := h2 i hil (by rw [← h1]; exact hi)
    rw [← h1] at this
  · exact (this.1 ho).1
  · exact this.2 ho j hj
  · exact (this.1 ho).2 hz j hj
theorem TP.again {c : DCode} {ms0 ms : List Bool} {ag : Bool} {k : Nat} (h : TP c ms0 ag ms k) : TP c ms false ms 0 :=
  ⟨h.len, h.snd, h.root, fun e => (by cases e), fun _ => ⟨rfl, fun i hi => by omega⟩⟩
/-- m lies within n -/
def SubB (m n : Nat) : Prop := ∀ l, l < 6 → m.testBit l = true → n.testBit l = true
/-- what may be held behind a place may be held ahead of the next ones -/
def HC (c : DCode) (out : List Nat) (i : Nat) : Prop :=
  ((insAt c i).op = 4 → SubB (nat0 out i) (nat0 out (eN c (agN c i))) ∧ (MetP c (zN c (agN c i)) → ∀ j ∈ nextN c i, SubB (nat0 out (zN c (agN c i))) (nat0 out j))) ∧ (¬ (insAt c i).op = 4 → ∀ j ∈ nextN c i, SubB (aft c [] i (nat0 out i)) (nat0 out j))
structure HP (c : DCode) (out0 : List Nat) (ag : Bool) (out : List Nat) (k : Nat) : Prop where
  len : out.length = c.ins.length
  lt : ∀ x ∈ out, x < 64
  snd : ∀ i l, i < c.ins.length → (nat0 out i).testBit l = true → MayP c i l ∧ MetP c i
  yes : ag = true → out0.sum < out.sum
  no : ag = false → out = out0 ∧ ∀ i, i < k → MetP c i → HC c out0 i
theorem HP.lt0 {c : DCode} {out0 out : List Nat} {ag : Bool} {k : Nat} (h : HP c out0 ag out k) (i : Nat) : nat0 out i < 64 := nat0_lt h.lt i
theorem sub_of_or {m n : Nat} (h : n ||| m = n) : SubB m n := fun l _ hb => by
  rw [← h, Nat.testBit_or, hb]; simp
theorem sub_or {m n : Nat} : SubB m (n ||| m) := fun l _ hb => by rw [Nat.testBit_or, hb]; simp
theorem sub_or_left {m n k : Nat} (h : SubB k n) : SubB k (n ||| m) := fun l hl hb => by rw [Nat.testBit_or, h l hl hb]; rfl
theorem andN_zero {m n : Nat} (hm : m < 64) (hn : n < 64) : andN m n = 0 ↔ SubB m n := by
  constructor
  · intro h l hl hb
    have := congrArg (·.testBit l) h
    simp only [andN_bit, hb, Bool.true_and, Nat.zero_testBit, Bool.not_eq_false'] at this
    exact this
  · intro h
    refine Nat.eq_of_testBit_eq fun l => ?_
    rw [andN_bit, Nat.zero_testBit]
    cases e : m.testBit l
    · rfl
    · rw [h l (bit_lt6 hm e) e]; rfl
theorem or_lt64 {m n : Nat} (hm : m < 64) (hn : n < 64) : n ||| m < 64 := Nat.or_lt_two_pow (n := 6) hn hm
theorem or_gt {m n : Nat} (h : ¬ n ||| m = n) : n < n ||| m := by
  have : n ≤ n ||| m := Nat.left_le_or
  omega
/-- what is added at a place that is met -/
theorem HP.add {c : DCode} {out0 out : List Nat} {ag : Bool} {k i m : Nat} (h : HP c out0 ag out k) (hi : i < c.ins.length) (hm : m < 64) (hmet : MetP c i) (hmay : ∀ l, l < 6 → m.testBit l = true → MayP c i l) (hn : ¬ SubB m (nat0 out i)) : HP c out0 true (out.set i (nat0 out i ||| m)) k := by
  have h64 := h.lt0 i
  refine ⟨by simp [h.len], fun x hx => ?_, fun j l hj hb => ?_, fun _ => ?_, fun e => by cases e⟩
  · rcases mem_set hx with rfl | hx
    · exact or_lt64 hm h64
    · exact h.lt x hx
  · rw [nat0_set (by rw [h.len]; exact hi)] at hb
    split at hb
    · rename_i e
      subst e
      rw [Nat.testBit_or, Bool.or_eq_true] at hb
      rcases hb with hb | hb
      · exact h.snd i l hj hb
      · exact ⟨hmay l (bit_lt6 hm hb) hb, hmet⟩
    · exact h.snd j l hj hb
  · have h1 := sum_set (l := out) (i := i) (v := nat0 out i ||| m) (by rw [h.len]; exact hi)
    have h2 := or_gt (m := m) (n := nat0 out i) fun e => hn (sub_of_or e)
    cases ag with
    | true => have := h.yes rfl; omega
    | false => rw [← (h.no rfl).1]; omega
theorem HP.next {c : DCode} {out0 out : List Nat} {ag : Bool} {k : Nat} (h : HP c out0 ag out k) (hk : ag = false → MetP c k → HC c out k) : HP c out0 ag out (k + 1) :=
  ⟨h.len, h.lt, h.snd, h.yes, fun e => ⟨(h.no e).1, fun i hi hm => by
    by_cases e2 : i = k
    · subst e2
      have := hk e hm
      rw [(h.no e).1] at this
      exact this
    · exact (h.no e).2 i (by omega) hm⟩⟩
theorem aft0_bit {c : DCode} {i m l : Nat} (h4 : ¬ (insAt c i).op = 4) : (aft c [] i m).testBit l = true ↔ ¬ ((insAt c i).op = 7 ∧ agN c i = l) ∧ (((insAt c i).op = 6 ∧ agN c i = l) ∨ m.testBit l = true) := by
  rw [← Bool.not_eq_false, aft_bit]
  unfold genX passX
  have e4 : ((insAt c i).op = 4) = False := eq_false h4
  simp only [e4, false_and, or_false, not_false_eq_true, and_true, not_or, not_and, Bool.not_eq_false]
  constructor
  · rintro ⟨h1, h2⟩
    refine ⟨h1, ?_⟩
    by_cases e : (insAt c i).op = 6 ∧ agN c i = l
    · exact .inl e
    · exact .inr (h2 fun a b => e ⟨a, b⟩)
  · rintro ⟨h1, h2⟩
    refine ⟨h1, fun h3 => ?_⟩
    rcases h2 with h2 | h2
    · exact absurd h2.2 (h3 h2.1)
    · exact h2
theorem may_aft {c : DCode} {i j m l : Nat} (h4 : ¬ (insAt c i).op = 4) (hm : MetP c i) (hj : j ∈ nextN c i) (hmay : m.testBit l = true → MayP c i l) (hb : (aft c [] i m).testBit l = true) : MayP c j l := by
  obtain ⟨h1, h2⟩ := (aft0_bit h4).1 hb
  rcases h2 with h2 | h2
  · exact .lock hm h2.1 h2.2 hj
  · exact .pass hm h4 h1 (hmay h2) hj
theorem HC.may {c : DCode} {out : List Nat} (hc : CodeR c) (h : ∀ i, MetP c i → HC c out i) : MayC c fun i l => (nat0 out i).testBit l = true := by
  refine ⟨fun i j hm ho hj => ?_, fun i j l hm hl ho ha hb hj => ?_, fun i l hm hl ho hb => ?_, fun i j l hm hl ho hz hb hj => ?_⟩
  · have ha := ag_lock hc (hm.lt hc) (.inl ho)
    exact (h i hm).2 (by omega) j hj _ ha.2.2 ((aft0_bit (by omega)).2 ⟨fun h => by omega, .inl ⟨ho, rfl⟩⟩)
  · exact (h i hm).2 ho j hj l hl ((aft0_bit ho).2 ⟨ha, .inr hb⟩)
  · exact ((h i hm).1 ho).1 l hl hb
  · exact ((h i hm).1 ho).2 hz j hj l hl hb
theorem may_fin {c : DCode} (hc : CodeR c) {out : List Nat} (hlen : out.length = c.ins.length) (hlt : ∀ x ∈ out, x < 64) (hs : ∀ i l, i < c.ins.length → (nat0 out i).testBit l = true → MayP c i l) (h : ∀ i, MetP c i → HC c out i) : out = mayN c := by
  have hC := HC.may hc h
  refine List.ext_getElem (by rw [hlen, mayN_len]) fun i h1 h2 => ?_
  have hi : i < c.ins.length := by rw [← hlen]; exact h1
  rw [nat0_get h1, nat0_get h2, mayN_at hi]
  exact eq_m6 (nat0_lt hlt i) fun l hl => ⟨hs i l hi, fun hm => hC.all hl hm⟩
theorem HP.fin {c : DCode} (hc : CodeR c) {out0 out : List Nat} (h : HP c out0 false out c.ins.length) : out = mayN c := by
  obtain ⟨h1, h2⟩ := h.no rfl
  exact may_fin hc h.len h.lt (fun i l hi hb => (h.snd i l hi hb).1) fun i hm => by rw [h1]; exact h2 i (hm.lt hc) hm
theorem HP.again {c : DCode} {out0 out : List Nat} {ag : Bool} {k : Nat} (h : HP c out0 ag out k) : HP c out false out 0 :=
  ⟨h.len, h.lt, h.snd, fun e => (by cases e), fun _ => ⟨rfl, fun i hi => by omega⟩⟩
theorem HP.start {c : DCode} : HP c (List.replicate c.ins.length 0) false (List.replicate c.ins.length 0) 0 :=
  ⟨by simp, fun x hx => by rw [(List.mem_replicate.1 hx).2]; omega, fun i l hi hb => by rw [← nat0_get (by simp; exact hi)] at hb; simp at hb, fun e => (by cases e), fun _ => ⟨rfl, fun i hi => by omega⟩⟩
theorem HP.sum_le {c : DCode} {out0 out : List Nat} {ag : Bool} {k : Nat} (h : HP c out0 ag out k) : out.sum ≤ c.ins.length * 63 := by
  rw [← h.len]; exact Go.Proofs.YtjgfldfbljmhhaaGreat.sum_le fun x hx => by have := h.lt x hx; omega
end Go.Proofs.YtjgfldfbljmhhaaGreat
