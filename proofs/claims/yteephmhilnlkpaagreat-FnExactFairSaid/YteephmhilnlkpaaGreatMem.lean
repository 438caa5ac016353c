/-
  Operations that make or write memory, in terms of the data.
-/
import Derived.Test.YteephmhilnlkpaaGreatOps
namespace Go.Sh
set_option linter.unusedVariables false
set_option linter.unusedSimpArgs false
open Go.RowKit (Below)
open Rep (rep)

/-- nothing but the blocks F has turned -/
structure Chg (F : List Nat) (w w' : World) : Prop where
  os : w'.os = w.os
  tape : w'.tape = w.tape
  output : w'.output = w.output
  size : w.heap.size ≤ w'.heap.size
  block : ∀ b, b < w.heap.size → b ∉ F → w'.heap[b]? = w.heap[b]?
theorem Chg.refl (F : List Nat) (w : World) : Chg F w w := ⟨rfl, rfl, rfl, Nat.le_refl _, fun _ _ _ => rfl⟩
theorem Chg.trans {F : List Nat} {a b c : World} (h : Chg F a b) (k : Chg F b c) : Chg F a c :=
  ⟨k.os.trans h.os, k.tape.trans h.tape, k.output.trans h.output, Nat.le_trans h.size k.size, fun i hi hF => (k.block i (Nat.lt_of_lt_of_le hi h.size) hF).trans (h.block i hi hF)⟩
theorem Chg.mono {F G : List Nat} {a b : World} (h : Chg F a b) (hs : ∀ x ∈ F, x ∈ G) : Chg G a b :=
  ⟨h.os, h.tape, h.output, h.size, fun i hi hF => h.block i hi fun e => hF (hs i e)⟩
theorem Ext.chg {a b : World} (F : List Nat) (h : Ext a b) : Chg F a b := ⟨h.os, h.tape, h.output, h.size, fun i hi _ => h.block i hi⟩
theorem Chg.ext {a b : World} (h : Chg [] a b) : Ext a b := ⟨h.os, h.tape, h.output, h.size, fun i hi => h.block i hi (by simp)⟩
theorem Ext.chg_trans {F : List Nat} {a b c : World} (h : Ext a b) (k : Chg F b c) (hF : ∀ x ∈ F, a.heap.size ≤ x) : Ext a c :=
  ⟨k.os.trans h.os, k.tape.trans h.tape, k.output.trans h.output, Nat.le_trans h.size k.size,
    fun i hi => (k.block i (Nat.lt_of_lt_of_le hi h.size) fun e => by have := hF i e; omega).trans (h.block i hi)⟩
theorem ext_drew (w : World) : Ext w (World.drew1 w) := ⟨rfl, rfl, rfl, Nat.le_refl _, fun _ _ => rfl⟩
theorem ext_alloc (w : World) (o : Obj) : Ext w (w.alloc o) := ⟨rfl, rfl, rfl, by simp, fun k hk => Below.heap_alloc w o k hk⟩
theorem chg_of_grown {w w' : World} {row : Option Nat} (h : w.grownBy w' row) : Chg row.toList w w' :=
  ⟨h.os, h.tape, h.output, h.size, fun b hb hF => h.block b hb fun e => hF (by simp [← e])⟩
theorem Chg.heap_lt {F : List Nat} {w w' : World} (h : Chg F w w') {b : Nat} (hb : b < w.heap.size) : b < w'.heap.size := Nat.lt_of_lt_of_le hb h.size

section
variable {P : Program} {w w0 : World} {α β : Type} [Rep α] [Rep β]
theorem Is.chg {F : List Nat} {w' : World} {v : Value} {x : α} {G : List Nat} (h : OwnF G w v x) (hc : Chg F w w') (hd : ∀ b ∈ G, b ∉ F) : OwnF G w' v x :=
  h.keep fun b hb => hc.block b (h.lt b hb) (hd b hb)

/-- a slice of the call's own, as far as it has been filled: g its block, n its length -/
def Fill (g e n : Nat) (Fi : List Nat) (w : World) (l : List α) : Prop :=
  ∃ cur, w.heap[g]? = some (.cells cur e (0, 0)) ∧ cur.size = n * Rep.size α ∧ l.length ≤ n ∧ Cells Fi w (cur.toList.take (l.length * Rep.size α)) l ∧ (g :: Fi).Nodup ∧ Wr Fi w
theorem Fill.lt {g e n : Nat} {Fi : List Nat} {l : List α} (h : Fill g e n Fi w l) : ∀ b ∈ g :: Fi, b < w.heap.size := by
  obtain ⟨cur, hg, _, _, hc, _⟩ := h
  intro b hb
  rcases List.mem_cons.1 hb with rfl | hb
  · exact (Array.getElem?_eq_some_iff.1 hg).1
  · exact Cells.lt hc b hb
theorem Fill.keep {g e n : Nat} {Fi : List Nat} {w' : World} {l : List α} (h : Fill g e n Fi w l) (hk : ∀ b ∈ g :: Fi, w'.heap[b]? = w.heap[b]?) : Fill g e n Fi w' l := by
  obtain ⟨cur, hg, hs, hl, hc, hn⟩ := h
  exact ⟨cur, by rw [hk g (by simp)]; exact hg, hs, hl, Cells.keep hc fun b hb => hk b (by simp [hb]), hn.1, hn.2.keep fun b hb => hk b (by simp [hb])⟩
theorem Fill.ext {g e n : Nat} {Fi : List Nat} {w' : World} {l : List α} (h : Fill g e n Fi w l) (hx : Ext w w') : Fill g e n Fi w' l :=
  h.keep fun b hb => hx.heap (h.lt b hb)
theorem Fill.own {g e n : Nat} {Fi : List Nat} {l : List α} (h : Fill g e n Fi w l) (hl : l.length = n) (hm : n ≤ maxLen) : Mine (g :: Fi) w (.slice (some ⟨g, 0, none⟩) n n) l := by
  have hlt := h.lt g (by simp)
  obtain ⟨cur, hg, hs, _, hc, hn, hw⟩ := h
  subst hl
  refine ⟨⟨_, ⟨_, l.length, Fi, _, rfl, Nat.le_refl _, hm, hc, .inr ⟨g, 0, rfl, rfl, ?_, hlt⟩⟩, rfl⟩, hn, fun b hb => ?_⟩
  rotate_left
  · rcases List.mem_cons.1 hb with rfl | hb
    · exact ⟨cur, e, hg⟩
    · exact hw b hb
  intro j v hv
  have hlen : cur.toList.take (l.length * Rep.size α) = cur.toList := List.take_of_length_le (by simp [hs])
  rw [hlen] at hv
  simpa [World.cell?, hg] using hv

def zeroOf (P : Program) (e : TypeId) : Bool := match P.info? e with | some i => i.zero.isSome | none => false
theorem op_make {t e : TypeId} {by_ : Nat} {K : Value → World → Prop} {n : Nat} (ht : P.underlying t = some (.slice e)) (he : tyI P e = some (Rep.size α, by_, Rep.agg α)) (hz : zeroOf P e = true)
    (hb : by_ * n ≤ 281474976710656) (hm : n ≤ 9223372036854775807)
    (k : ∀ w', Ext w w' → Fill (α := α) w.heap.size e n [] w' [] → K (.slice (some ⟨w.heap.size, 0, none⟩) n n) w') : OP P (Instr.makeSlice t (.int .i64 (n : Int)) (.int .i64 (n : Int))) w K := by
  obtain ⟨i, d, hi, hd, hs, hby, hg⟩ := tyI_info he
  unfold zeroOf at hz
  rw [hi] at hz
  obtain ⟨z, hz⟩ := Option.isSome_iff_exists.1 hz
  have hb' : (i.bytes : Int) * (n : Int) ≤ 281474976710656 := by
    have h : ((i.bytes * n : Nat) : Int) ≤ 281474976710656 := by rw [hby]; omega
    rwa [Int.natCast_mul] at h
  have hr := run_make (P := P) w t e i z ht hi hz .i64 .i64 n n (by omega) (Int.le_refl _) hb' (by omega)
  simp only [Int.toNat_natCast] at hr
  refine ⟨_, _, hr, k _ (ext_alloc w _) ⟨_, heap_alloc_new w _, ?_, Nat.zero_le _, ⟨rfl, by simp⟩, by simp, Wr.nil _⟩⟩
  rw [size_madeCells, hs]

theorem setRow_chg (w : World) (g : Nat) (cs : Array Value) : Chg [g] w (w.setRow g cs) :=
  ⟨rfl, rfl, rfl, by simp, fun b _ hF => setRow_other w g b _ (by simpa using hF)⟩
theorem mkv_cells {cs : List Value} {F : List Nat} {x : α} (h : rep F w cs x) : (mkv α cs).cells.toList = cs := by
  unfold mkv
  cases ha : Rep.agg α with
  | true => simp [Value.cells]
  | false =>
    have hl := Rep.len h
    rw [Rep.sz ha] at hl
    obtain ⟨c, rfl⟩ := List.length_eq_one_iff.1 hl
    have h1 := Rep.one h c (by simp)
    cases c <;> first | rfl | (simp [Value.oneCell'] at h1)
/-- a store of a whole value into a block of the call's own -/
theorem run_storeAt' {t by_ g o : Nat} {cur : Array Value} {e : TypeId} {F : List Nat} {cs : List Value} {x : α} (ht : tyI P t = some (Rep.size α, by_, Rep.agg α)) (hr : rep F w cs x)
    (hg : w.heap[g]? = some (.cells cur e (0, 0))) (hfit : o + Rep.size α ≤ cur.size) :
    (Instr.storeAt t (.pointer (some ⟨g, o, none⟩)) (mkv α cs)).run P w = .ok () (w.setRow g (cur.toList.take o ++ cs ++ cur.toList.drop (o + cs.length)).toArray) := by
  obtain ⟨i, d, hi, hd, hs, _⟩ := tyI_info ht
  have hc := mkv_cells hr
  have hl := Rep.len hr
  have hsz : (mkv α cs).cells.size = Rep.size α := by rw [← Array.length_toList, hc, hl]
  have := run_storeCells_at (P := P) g o e cs 0 cur w hg (by rw [hl]; simpa using hfit) (Rep.one hr)
  simp only [Nat.add_zero] at this
  simp [Instr.storeAt, Instr.sureAddr, storeVar, hsz, run_sizeOf' ht, hc, this]
theorem rd_indexG {t e : TypeId} {s by_ n cap g k : Nat} {ag : Bool} {K : Value → Prop} (ht : P.underlying t = some (.slice e)) (he : tyI P e = some (s, by_, ag)) (hk : k < n) (kk : K (.pointer (some ⟨g, k * s, none⟩))) :
    RD P (Instr.indexAt t (.slice (some ⟨g, 0, none⟩) n cap) (.int .i64 (k : Int))) w K :=
  rd_of (fun w' _ => by rw [run_indexAt' ht he (by omega) (by omega)]; simp) kk
theorem opu_fill {t by_ g o e n : Nat} {Fi F1 : List Nat} {l : List α} {x : α} {v : Value} {K : World → Prop} (ht : tyI P t = some (Rep.size α, by_, Rep.agg α)) (hf : Fill g e n Fi w l) (ho : o = l.length * Rep.size α) (hn : l.length < n) (hv : Mine F1 w v x)
    (hd : (F1 ++ (g :: Fi)).Nodup) (k : ∀ w', Chg [g] w w' → Fill g e n (Fi ++ F1) w' (l ++ [x]) → K w') :
    OPU P (Instr.storeAt t (.pointer (some ⟨g, o, none⟩)) v) w K := by
  subst ho
  obtain ⟨cur, hg, hs, hl, hc, hnd, hwf⟩ := hf
  obtain ⟨⟨cs, hr, rfl⟩, _, hwv⟩ := hv
  have hlen := Rep.len hr
  have hfit : l.length * Rep.size α + Rep.size α ≤ cur.size := by
    rw [hs]
    have := Nat.mul_le_mul_right (Rep.size α) (show l.length + 1 ≤ n by omega)
    rw [Nat.add_mul] at this
    omega
  rw [List.nodup_append] at hd
  obtain ⟨hd1, hd2, hd3⟩ := hd
  refine ⟨_, run_storeAt' ht hr hg hfit, k _ (setRow_chg w g _) ⟨_, setRow_heap w g cur _ e _ hg, ?_, by simp; omega, ?_, ?_, ?_⟩⟩
  · simp only [List.size_toArray, List.length_append, List.length_take, List.length_drop, Array.length_toList, hlen]
    omega
  · have keep : ∀ b, b ≠ g → (w.setRow g (cur.toList.take (l.length * Rep.size α) ++ cs ++ cur.toList.drop (l.length * Rep.size α + cs.length)).toArray).heap[b]? = w.heap[b]? := fun b hb => setRow_other w g b _ hb
    have e1 : (cur.toList.take (l.length * Rep.size α) ++ cs ++ cur.toList.drop (l.length * Rep.size α + cs.length)).toArray.toList.take ((l ++ [x]).length * Rep.size α) = cur.toList.take (l.length * Rep.size α) ++ cs := by
      simp only [List.length_append, List.length_cons, List.length_nil, Nat.zero_add, Nat.add_mul, Nat.one_mul]
      rw [show l.length * Rep.size α + Rep.size α = (cur.toList.take (l.length * Rep.size α) ++ cs).length by simp [hlen]; omega]
      exact List.take_left
    rw [e1]
    refine Cells.append (Cells.keep hc fun b hb => keep b fun e => ?_) (Cells.single (Rep.keep hr fun b hb => keep b fun e => ?_))
    · subst e; exact (List.nodup_cons.1 hnd).1 hb
    · subst e; exact hd3 b hb b (by simp) rfl
  · rw [← List.cons_append, List.nodup_append]
    exact ⟨hd2, hd1, fun a ha b hb e => hd3 b hb a ha e.symm⟩
  · refine (hwf.append hwv).keep fun b hb => setRow_other w g b _ fun e => ?_
    subst e
    rcases List.mem_append.1 hb with hb | hb
    · exact (List.nodup_cons.1 hnd).1 hb
    · exact hd3 b hb b (by simp) rfl

/-- a struct is put into a variable of its own -/
theorem op_box {t : TypeId} {v : Value} {x : α} {K : Value → World → Prop} (h : Is w0 v x) (hx : Ext w0 w) (k : ∀ w', Ext w w' → At w' w.heap.size 0 x → K (.pointer (some ⟨w.heap.size, 0, none⟩)) w') :
    OP P (Instr.box t v) w K := by
  obtain ⟨F, cs, hr, rfl⟩ := h
  have hc := mkv_cells hr
  refine ⟨_, w.alloc (.cells (mkv α cs).cells t), by simp [Instr.box, newVar, newRow], k _ (ext_alloc w _) ⟨F, cs, rep_ext hr (hx.trans (ext_alloc w _)), ?_⟩⟩
  intro j u hu
  simp only [World.cell?, heap_alloc_new w _]
  rw [← hc] at hu
  simpa using hu
/-- a block of the call's own, known whole -/
def Blk (g e : Nat) (w : World) (cs : List Value) : Prop := w.heap[g]? = some (.cells cs.toArray e (0, 0))
theorem Blk.lt {g e : Nat} {cs : List Value} (h : Blk g e w cs) : g < w.heap.size := (Array.getElem?_eq_some_iff.1 h).1
theorem Blk.ext {g e : Nat} {w' : World} {cs : List Value} (h : Blk g e w cs) (hx : Ext w w') : Blk g e w' cs := by
  unfold Blk; rw [hx.heap h.lt]; exact h
theorem Blk.keep {g e : Nat} {w' : World} {cs : List Value} (h : Blk g e w cs) (hk : w'.heap[g]? = w.heap[g]?) : Blk g e w' cs := by
  unfold Blk; rw [hk]; exact h
theorem Blk.chg {g e : Nat} {F : List Nat} {w' : World} {cs : List Value} (h : Blk g e w cs) (hc : Chg F w w') (hg : g ∉ F) : Blk g e w' cs := h.keep (hc.block g h.lt hg)
theorem Blk.range {g e : Nat} {cs : List Value} (h : Blk g e w cs) : w.rangeAt g 0 cs := by
  intro j v hv
  have h' : w.heap[g]? = some (.cells cs.toArray e (0, 0)) := h
  simpa [World.cell?, h'] using hv
theorem Blk.at {g e : Nat} {F : List Nat} {cs : List Value} {x : α} (h : Blk g e w cs) (hr : rep F w cs x) : At w g 0 x := ⟨F, cs, hr, h.range⟩
def zeroL (P : Program) (e : TypeId) : Option (List Value) := match P.info? e with | some i => i.zero.map (·.cells.toList) | none => none
theorem op_alloc {e : TypeId} {zs : List Value} {K : Value → World → Prop} (hz : zeroL P e = some zs) (k : ∀ w', Ext w w' → Blk w.heap.size e w' zs → K (.pointer (some ⟨w.heap.size, 0, none⟩)) w') :
    OP P (Instr.alloc e true (.tuple #[])) w K := by
  unfold zeroL at hz
  cases hi : P.info? e with
  | none => simp [hi] at hz
  | some i =>
    simp only [hi] at hz
    obtain ⟨z, hz', rfl⟩ := Option.map_eq_some_iff.1 hz
    exact ⟨_, w.alloc (.cells z.cells e), by simp [Instr.alloc, zeroValue, typeInfo, hi, hz', newVar, newRow], k _ (ext_alloc w _) (by unfold Blk; rw [heap_alloc_new w _])⟩
/-- a variable of a struct type, which holds v -/
def Var (P : Program) (t : TypeId) (w : World) (g : Nat) (v : Value) : Prop := ∃ e cs by_, Blk g e w cs ∧ v = .agg cs.toArray ∧ tyI P t = some (cs.length, by_, true)
theorem Var.lt {t g : Nat} {v : Value} (h : Var P t w g v) : g < w.heap.size := by obtain ⟨e, cs, _, hB, _⟩ := h; exact hB.lt
theorem Var.ext {t g : Nat} {v : Value} {w' : World} (h : Var P t w g v) (hx : Ext w w') : Var P t w' g v := by
  obtain ⟨e, cs, b, hB, r⟩ := h; exact ⟨e, cs, b, hB.ext hx, r⟩
theorem Var.keep {t g : Nat} {v : Value} {w' : World} (h : Var P t w g v) (hk : w'.heap[g]? = w.heap[g]?) : Var P t w' g v := by
  obtain ⟨e, cs, b, hB, r⟩ := h; exact ⟨e, cs, b, hB.keep hk, r⟩
theorem rd_var {t g : Nat} {v : Value} {K : Value → Prop} (h : Var P t w0 g v) (hx : Ext w0 w) (k : K v) : RD P (Instr.loadAt t (.pointer (some ⟨g, 0, none⟩))) w K := by
  obtain ⟨e, cs, b, hB, rfl, ht⟩ := h
  obtain ⟨i, d, hi, hd, hs, _, hg⟩ := tyI_info ht
  exact rd_of (fun w' hx' => run_loadAt_mid w' g 0 t cs d ((hB.ext hx).ext hx').range hd hg (by simp [hi, hs])) k
/-- a struct is put into a variable of its own: it is read there as a whole, too -/
theorem op_boxS {t by_ : Nat} {v : Value} {x : α} {K : Value → World → Prop} (ht : tyI P t = some (Rep.size α, by_, true)) (ha : Rep.agg α = true) (h : Is w0 v x) (hx : Ext w0 w)
    (k : ∀ w', Ext w w' → At w' w.heap.size 0 x → Var P t w' w.heap.size v → K (.pointer (some ⟨w.heap.size, 0, none⟩)) w') : OP P (Instr.box t v) w K := by
  obtain ⟨F, cs, hr, rfl⟩ := h
  have hc := mkv_cells hr
  have hB : Blk w.heap.size t (w.alloc (.cells (mkv α cs).cells t)) cs := by
    unfold Blk
    rw [heap_alloc_new w _]
    congr 2
    apply Array.ext'
    simp [hc]
  refine ⟨_, w.alloc (.cells (mkv α cs).cells t), by simp [Instr.box, newVar, newRow], k _ (ext_alloc w _) (hB.at (rep_ext hr (hx.trans (ext_alloc w _)))) ⟨t, cs, by_, hB, by simp [mkv, ha], by rw [Rep.len hr]; exact ht⟩⟩
/-- var x = v -/
theorem op_var {e by_ : Nat} {zs : List Value} {v : Value} {x : α} {K : Value → World → Prop} (hz : zeroL P e = some zs) (hl : zs.length = Rep.size α) (ht : tyI P e = some (Rep.size α, by_, true)) (ha : Rep.agg α = true) (h : Is w0 v x) (hx : Ext w0 w)
    (k : ∀ w', Ext w w' → At w' w.heap.size 0 x → Var P e w' w.heap.size v → K (.pointer (some ⟨w.heap.size, 0, none⟩)) w') :
    OP P (Instr.alloc e true (.tuple #[])) w fun p w1 => OPU P (Instr.storeAt e p v) w1 (K p) := by
  obtain ⟨F, cs, hr, rfl⟩ := h
  have hlr := Rep.len hr
  unfold zeroL at hz
  cases hi : P.info? e with
  | none => simp [hi] at hz
  | some i =>
    simp only [hi] at hz
    obtain ⟨z, hz', rfl⟩ := Option.map_eq_some_iff.1 hz
    refine ⟨.pointer (some ⟨w.heap.size, 0, none⟩), w.alloc (.cells z.cells e), by simp [Instr.alloc, zeroValue, typeInfo, hi, hz', newVar, newRow], ?_⟩
    have hB : (w.alloc (.cells z.cells e)).heap[w.heap.size]? = some (.cells z.cells e (0, 0)) := heap_alloc_new w _
    have hsz : z.cells.size = Rep.size α := by simpa using hl
    have hr1 := rep_ext hr (hx.trans (ext_alloc w (.cells z.cells e)))
    have hst := run_storeAt' (P := P) (t := e) (by_ := by_) (o := 0) (by rw [ha]; exact ht) hr1 hB (by simp [hsz])
    have hsr := setRow_heap (w.alloc (.cells z.cells e)) w.heap.size z.cells (z.cells.toList.take 0 ++ cs ++ z.cells.toList.drop (0 + cs.length)).toArray e _ hB
    have hcs : z.cells.toList.take 0 ++ cs ++ z.cells.toList.drop (0 + cs.length) = cs := by
      rw [List.take_zero, List.nil_append, Nat.zero_add, List.drop_of_length_le (by simp [hsz, hlr]), List.append_nil]
    rw [hcs] at hst hsr
    have hex : Ext w ((w.alloc (.cells z.cells e)).setRow w.heap.size cs.toArray) := (ext_alloc w _).chg_trans (setRow_chg _ _ _) (by simp)
    exact ⟨_, hst, k _ hex (Blk.at (e := e) hsr (rep_ext hr (hx.trans hex))) ⟨e, cs, by_, hsr, by simp [mkv, ha], by rw [hlr]; exact ht⟩⟩
/-- var x = v, in whatever order -/
theorem op_varX {e by_ : Nat} {zs : List Value} {v : Value} {x : α} {K : Value → World → Prop} (hz : zeroL P e = some zs) (hl : zs.length = Rep.size α) (ht : tyI P e = some (Rep.size α, by_, true)) (ha : Rep.agg α = true) (h : Is w0 v x) (hx : Ext w0 w)
    (k : ∀ w', Ext w w' → At w' w.heap.size 0 x → Var P e w' w.heap.size v → K (.pointer (some ⟨w.heap.size, 0, none⟩)) w') :
    OP P (Instr.alloc e true (.tuple #[])) w fun p w1 => Ext w w1 ∧ OPU P (Instr.storeAt e p v) w1 (K p) := by
  obtain ⟨F, cs, hr, rfl⟩ := h
  have hlr := Rep.len hr
  unfold zeroL at hz
  cases hi : P.info? e with
  | none => simp [hi] at hz
  | some i =>
    simp only [hi] at hz
    obtain ⟨z, hz', rfl⟩ := Option.map_eq_some_iff.1 hz
    refine ⟨.pointer (some ⟨w.heap.size, 0, none⟩), w.alloc (.cells z.cells e), by simp [Instr.alloc, zeroValue, typeInfo, hi, hz', newVar, newRow], ext_alloc w _, ?_⟩
    have hB : (w.alloc (.cells z.cells e)).heap[w.heap.size]? = some (.cells z.cells e (0, 0)) := heap_alloc_new w _
    have hsz : z.cells.size = Rep.size α := by simpa using hl
    have hr1 := rep_ext hr (hx.trans (ext_alloc w (.cells z.cells e)))
    have hst := run_storeAt' (P := P) (t := e) (by_ := by_) (o := 0) (by rw [ha]; exact ht) hr1 hB (by simp [hsz])
    have hsr := setRow_heap (w.alloc (.cells z.cells e)) w.heap.size z.cells (z.cells.toList.take 0 ++ cs ++ z.cells.toList.drop (0 + cs.length)).toArray e _ hB
    have hcs : z.cells.toList.take 0 ++ cs ++ z.cells.toList.drop (0 + cs.length) = cs := by
      rw [List.take_zero, List.nil_append, Nat.zero_add, List.drop_of_length_le (by simp [hsz, hlr]), List.append_nil]
    rw [hcs] at hst hsr
    have hex : Ext w ((w.alloc (.cells z.cells e)).setRow w.heap.size cs.toArray) := (ext_alloc w _).chg_trans (setRow_chg _ _ _) (by simp)
    exact ⟨_, hst, k _ hex (Blk.at (e := e) hsr (rep_ext hr (hx.trans hex))) ⟨e, cs, by_, hsr, by simp [mkv, ha], by rw [hlr]; exact ht⟩⟩
/-- a store into such a block -/
theorem opu_blk {t by_ g o e : Nat} {cs us : List Value} {F : List Nat} {x : α} {v : Value} {K : World → Prop} (ht : tyI P t = some (Rep.size α, by_, Rep.agg α)) (hB : Blk g e w cs) (hr : rep F w us x) (hv : v = mkv α us) (ho : o + Rep.size α ≤ cs.length)
    (k : ∀ w', Chg [g] w w' → Blk g e w' (cs.take o ++ us ++ cs.drop (o + us.length)) → K w') : OPU P (Instr.storeAt t (.pointer (some ⟨g, o, none⟩)) v) w K := by
  subst hv
  have hB' : w.heap[g]? = some (.cells cs.toArray e (0, 0)) := hB
  have := run_storeAt' (P := P) ht hr hB' (by simpa using ho)
  exact ⟨_, this, k _ (setRow_chg w g _) (setRow_heap w g _ _ e _ hB')⟩
/-- data without blocks of their own -/
class Flat (α : Type) [Rep α] : Prop where
  flat : ∀ {F w cs} {x : α}, rep F w cs x → F = []
instance : Flat Int := ⟨fun h => h.1⟩
instance : Flat Bool := ⟨fun h => h.1⟩
instance : Flat ByteArray := ⟨fun h => h.1⟩
instance [Flat α] [Flat β] : Flat (α × β) := ⟨by
  rintro _ _ _ _ ⟨F1, F2, c1, c2, rfl, rfl, h1, h2⟩
  rw [Flat.flat h1, Flat.flat h2]; rfl⟩
theorem Cells.flat [Flat α] {xs : List Value} : ∀ {l : List α} {F : List Nat} {xs : List Value}, Cells F w xs l → F = []
  | [], _, _, ⟨h, _⟩ => h
  | _ :: _, _, _, ⟨F1, F2, c1, c2, hF, _, h1, h2⟩ => by rw [hF, Flat.flat h1, Cells.flat (xs := xs) h2]; rfl
theorem Cells.set {F : List Nat} {xs : List Value} {l : List α} (h : Cells F w xs l) (k : Nat) (hk : k < l.length) {G : List Nat} {cs : List Value} {x : α} (hr : rep G w cs x) [Flat α] :
    Cells [] w (xs.take (k * Rep.size α) ++ cs ++ xs.drop (k * Rep.size α + Rep.size α)) (l.set k x) := by
  have hF := Cells.flat (xs := xs) h
  have hG := Flat.flat hr
  subst hF hG
  have e : l = l.take k ++ (l[k] :: l.drop (k + 1)) := by simp
  rw [e] at h
  obtain ⟨F1, F2, x1, x2, hFF, rfl, h1, h2⟩ := Cells.split h
  obtain ⟨rfl, rfl⟩ := List.append_eq_nil_iff.1 hFF.symm
  obtain ⟨G1, G2, c1, c2, hGG, rfl, k1, k2⟩ := h2
  obtain ⟨rfl, rfl⟩ := List.append_eq_nil_iff.1 hGG.symm
  have hl : x1.length = k * Rep.size α := by rw [Cells.len h1, List.length_take]; congr 1; omega
  have hc := Rep.len k1
  have e1 : (x1 ++ (c1 ++ c2)).take (k * Rep.size α) = x1 := by rw [← hl]; exact List.take_left
  have e2 : (x1 ++ (c1 ++ c2)).drop (k * Rep.size α + Rep.size α) = c2 := by
    rw [← hl, ← hc, ← List.append_assoc, ← List.length_append]; exact List.drop_left
  rw [e1, e2]
  have : l.set k x = l.take k ++ (x :: l.drop (k + 1)) := by rw [List.set_eq_take_append_cons_drop]; simp [hk]
  rw [this, List.append_assoc]
  exact Cells.append (F := []) (G := []) h1 ⟨[], [], cs, c2, rfl, rfl, hr, k2⟩
/-- a[k] = x in a slice of one's own -/
theorem set_step {t e : TypeId} {by_ : Nat} [Flat α] {F : List Nat} {v u : Value} {l : List α} {x : α} {k : Nat} {K : World → Prop} (ht : P.underlying t = some (.slice e)) (he : tyI P e = some (Rep.size α, by_, Rep.agg α))
    (hm : Mine F w v l) (hk : k < l.length) (hx : OwnF [] w u x) (kk : ∀ w', Chg F w w' → Mine F w' v (l.set k x) → K w') :
    RD P (Instr.indexAt t v (.int .i64 (k : Int))) w fun p => OPU P (Instr.storeAt e p u) w K := by
  obtain ⟨⟨cs, ⟨a, cap, Fi, xs, rfl, h1, h2, hc, h4⟩, rfl⟩, hn, hw⟩ := hm
  obtain ⟨us, hr, rfl⟩ := hx
  rcases h4 with ⟨rfl, _⟩ | ⟨b, o, rfl, rfl, hra, hb⟩
  · simp at hk
  obtain ⟨cur, e', hcur⟩ := hw b (by simp)
  have hFi := Cells.flat (xs := xs) hc
  subst hFi
  have hlx := Cells.len hc
  have hul := Rep.len hr
  have hks : (k + 1) * Rep.size α ≤ l.length * Rep.size α := Nat.mul_le_mul_right _ (by omega)
  rw [Nat.add_mul, Nat.one_mul] at hks
  have hpos := Rep.pos (α := α)
  have hcell : ∀ j, j < xs.length → cur[o + j]? = xs[j]? := by
    intro j hj
    have := hra j xs[j] (by simp [hj])
    simpa [World.cell?, hcur, hj] using this
  have hfit : o + xs.length ≤ cur.size := by
    have hj : xs.length - 1 < xs.length := by omega
    have := hcell (xs.length - 1) hj
    rw [List.getElem?_eq_getElem hj] at this
    have := (Array.getElem?_eq_some_iff.1 this).1
    omega
  refine rd_of (v := .pointer (some ⟨b, o + k * Rep.size α, none⟩)) (fun w' _ => ?_) ⟨_, run_storeAt' (e := e') (cur := cur) he hr hcur (by omega), kk _ ((setRow_chg w b _).mono (by simp)) ?_⟩
  · show (Instr.indexAt t (.slice (some ⟨b, o, none⟩) l.length cap) (.int .i64 (k : Int))).run P w' = _
    rw [run_indexAt' ht he (by omega) (by omega)]; simp
  · refine ⟨⟨_, ⟨some ⟨b, o, none⟩, cap, [], xs.take (k * Rep.size α) ++ us ++ xs.drop (k * Rep.size α + Rep.size α), by simp, by simpa using h1, h2, ?_, .inr ⟨b, o, rfl, rfl, ?_, ?_⟩⟩, rfl⟩, hn, ?_⟩
    · have := Cells.set hc k hk hr
      exact Cells.keep this (by simp)
    · intro j u hu
      have hlt : j < (xs.take (k * Rep.size α) ++ us ++ xs.drop (k * Rep.size α + Rep.size α)).length := (List.getElem?_eq_some_iff.1 hu).1
      have hlen : (xs.take (k * Rep.size α) ++ us ++ xs.drop (k * Rep.size α + Rep.size α)).length = xs.length := by
        simp only [List.length_append, List.length_take, List.length_drop, hul]; omega
      rw [hlen] at hlt
      simp only [World.cell?, setRow_heap w b cur _ e' _ hcur]
      simp only [Option.isSome_none, Bool.false_eq_true, if_false, List.getElem?_toArray]
      rw [← hu]
      by_cases hj1 : j < k * Rep.size α
      · rw [List.append_assoc, List.getElem?_append_left (by simp only [List.length_take, Array.length_toList]; omega), List.getElem?_take, if_pos (by omega), Array.getElem?_toList, hcell j hlt,
          List.append_assoc, List.getElem?_append_left (by simp only [List.length_take]; omega), List.getElem?_take, if_pos hj1]
      · by_cases hj2 : j < k * Rep.size α + Rep.size α
        · rw [List.append_assoc, List.getElem?_append_right (by simp only [List.length_take, Array.length_toList]; omega), List.getElem?_append_left (by simp only [List.length_take, Array.length_toList]; omega),
            List.append_assoc, List.getElem?_append_right (by simp only [List.length_take]; omega), List.getElem?_append_left (by simp only [List.length_take]; omega)]
          congr 1
          simp only [List.length_take, Array.length_toList]; omega
        · rw [List.getElem?_append_right (by simp only [List.length_append, List.length_take, Array.length_toList]; omega), List.getElem?_append_right (l₁ := xs.take _ ++ us) (by simp only [List.length_append, List.length_take]; omega),
            List.getElem?_drop, List.getElem?_drop, Array.getElem?_toList]
          have e1 : o + k * Rep.size α + us.length + (o + j - (List.take (o + k * Rep.size α) cur.toList ++ us).length) = o + j := by
            simp only [List.length_append, List.length_take, Array.length_toList]; omega
          have e2 : k * Rep.size α + Rep.size α + (j - (List.take (k * Rep.size α) xs ++ us).length) = j := by
            simp only [List.length_append, List.length_take]; omega
          rw [e1, e2, hcell j hlt]
    · simpa [World.setRow] using hb
    · intro c hc
      simp only [List.mem_cons, List.not_mem_nil, or_false] at hc
      subst hc
      exact ⟨_, e', setRow_heap w c cur _ e' _ hcur⟩

/-- a slice of the call's own that is appended to -/
def RowF (F : List Nat) (e : TypeId) (w : World) (v : Value) (l : List α) : Prop :=
  ∃ xs Fi, w.ownsRow 0 e (Rep.size α) v l.length xs ∧ Cells Fi w xs l ∧ F = v.ownBlock.toList ++ Fi ∧ Wr Fi w
def Row (lo : Nat) (e : TypeId) (w : World) (v : Value) (l : List α) : Prop := ∃ F, RowF F e w v l ∧ F.Nodup ∧ ∀ b ∈ F, lo ≤ b
theorem RowF.lt {F : List Nat} {e : TypeId} {v : Value} {l : List α} (h : RowF F e w v l) : ∀ b ∈ F, b < w.heap.size := by
  obtain ⟨xs, Fi, ho, hc, rfl, hw⟩ := h
  intro b hb
  rcases List.mem_append.1 hb with hb | hb
  · exact (ho.lt b (by simpa [Option.mem_toList] using hb)).2
  · exact Cells.lt hc b hb
theorem RowF.keep {F : List Nat} {e : TypeId} {v : Value} {w' : World} {l : List α} (h : RowF F e w v l) (hk : ∀ b ∈ F, w'.heap[b]? = w.heap[b]?) : RowF F e w' v l := by
  obtain ⟨xs, Fi, ho, hc, rfl, hw⟩ := h
  refine ⟨xs, Fi, ⟨ho.1, ?_⟩, Cells.keep hc fun b hb => hk b (by simp [hb]), rfl, hw.keep fun b hb => hk b (by simp [hb])⟩
  rcases ho.2 with hn | ⟨g, cap, cur, rfl, hb, hg, rest⟩
  · exact .inl hn
  · exact .inr ⟨g, cap, cur, rfl, hb, by rw [hk g (by simp [Value.ownBlock])]; exact hg, rest⟩
theorem RowF.ext {F : List Nat} {e : TypeId} {v : Value} {w' : World} {l : List α} (h : RowF F e w v l) (hx : Ext w w') : RowF F e w' v l := h.keep fun b hb => hx.heap (h.lt b hb)
theorem Row.ext {lo : Nat} {e : TypeId} {v : Value} {w' : World} {l : List α} (h : Row lo e w v l) (hx : Ext w w') : Row lo e w' v l := by
  obtain ⟨F, h, hn, hb⟩ := h; exact ⟨F, h.ext hx, hn, hb⟩
theorem RowF.own {F : List Nat} {e : TypeId} {v : Value} {l : List α} (h : RowF F e w v l) : OwnF F w v l := by
  have hlt := h.lt
  obtain ⟨xs, Fi, ho, hc, rfl, hw⟩ := h
  rcases ho.2 with ⟨rfl, hn⟩ | ⟨g, cap, cur, rfl, hb, hg, h1, h2, h3, h4⟩
  · have : l = [] := List.eq_nil_of_length_eq_zero hn
    subst this
    obtain ⟨rfl, rfl⟩ := hc
    exact ⟨_, ⟨none, 0, [], [], rfl, Nat.le_refl _, Nat.zero_le _, ⟨rfl, rfl⟩, .inl ⟨rfl, rfl⟩⟩, rfl⟩
  · refine ⟨_, ⟨_, cap, Fi, xs, rfl, h1, h2, hc, .inr ⟨g, 0, rfl, rfl, ?_, hlt g (by simp [Value.ownBlock])⟩⟩, rfl⟩
    intro j v hv
    have := ho.cells (g := g) rfl j v hv
    rwa [Addr.add_mid] at this
theorem RowF.wr {F : List Nat} {e : TypeId} {v : Value} {l : List α} (h : RowF F e w v l) : Wr F w := by
  obtain ⟨xs, Fi, ho, hc, rfl, hw⟩ := h
  refine Wr.append (fun b hb => ?_) hw
  rcases ho.2 with ⟨rfl, hn⟩ | ⟨g, cap, cur, rfl, _, hg, _⟩
  · simp [Value.ownBlock] at hb
  · simp [Value.ownBlock] at hb; subst hb; exact ⟨cur, e, hg⟩
theorem Row.own {lo : Nat} {e : TypeId} {v : Value} {l : List α} (h : Row lo e w v l) : Own lo w v l := by
  obtain ⟨F, h, hn, hb⟩ := h
  exact ⟨F, ⟨h.own, hn, h.wr⟩, hb⟩
theorem Row.is {lo : Nat} {e : TypeId} {v : Value} {l : List α} (h : Row lo e w v l) : Is w v l := h.own.is
theorem row_nil (lo : Nat) (e : TypeId) (w : World) : Row (α := α) lo e w (.slice none 0 0) [] :=
  ⟨[], ⟨[], [], World.ownsRow_nil w 0 e _, ⟨rfl, rfl⟩, rfl, Wr.nil w⟩, List.nodup_nil, by simp⟩

/-- an empty literal: []T{} -/
theorem op_build0 {t e : TypeId} {by_ : Nat} {K : Value → World → Prop} (ht : P.underlying t = some (.slice e)) (he : tyI P e = some (Rep.size α, by_, Rep.agg α))
    (k : ∀ a w', Ext w w' → Row (α := α) w.heap.size e w' (.slice (some a) 0 0) [] → K (.slice (some a) 0 0) w') : OP P (Instr.buildSlice t 0 #[]) w K := by
  refine ⟨.slice (some ⟨w.heap.size, 0, none⟩) 0 0, w.alloc (.cells #[] e), ?_, k _ _ (ext_alloc w _) ⟨[w.heap.size], ⟨[], [], ?_, ⟨rfl, rfl⟩, rfl, Wr.nil _⟩, by simp, by simp⟩⟩
  · have h0 : Array.range 0 = #[] := by apply Array.ext'; simp
    simp [Instr.buildSlice, run_underlying ht, run_sizeOf' he, Instr.fill, newRow, h0]
  · exact World.ownsRow_made w #[] 0 (Nat.zero_le _) (Nat.zero_le _) (by simp)
theorem run_append_zero {t ty e : TypeId} {s by_ : Nat} {g : Bool} (ht : P.underlying t = some (.slice e)) (he : tyI P e = some (s, by_, g)) {v : Value} {n : Nat} {xs : List Value} (ho : w.ownsRow 0 e s v n xs) (a : Option Addr) (c : Nat) :
    (Builtin.append_ #[t, t] ty #[v, .slice a 0 c]).run P w = .ok v w := by
  have hf : (Builtin.firstCells s 0 (.slice a 0 c)).run P w = .ok #[] w := by
    cases a with
    | none => rfl
    | some a => simp [Builtin.firstCells, loadCells, loadCellsFrom]
  rcases ho.2 with ⟨rfl, rfl⟩ | ⟨g, cap, cur, rfl, _, _, hnc, _⟩
  · simp [Builtin.append_, run_underlying ht, run_sizeOf' he, Builtin.lenOf, hf]
  · simp [Builtin.append_, run_underlying ht, run_sizeOf' he, Builtin.lenOf, hf, hnc, storeCells]
/-- append(v, src...), the elements' own blocks handed on -/
theorem op_append {t ty e : TypeId} {by_ : Nat} {K : Value → World → Prop} {v src : Value} {l m : List α} {F : List Nat} (ht : P.underlying t = some (.slice e)) (he : tyI P e = some (Rep.size α, by_, Rep.agg α)) (hz : (P.info? e).map (fun i => (i.zero.map (·.cells.size))) = some (some (Rep.size α)))
    (hr : RowF F e w v l) (hn : F.Nodup) {a : Option Addr} {c : Nat} {xs : List Value} {G : List Nat} (hs : src = .slice a m.length c) (hc : Cells G w xs m) (ha : m = [] ∨ ∃ b o, a = some ⟨b, o, none⟩ ∧ w.rangeAt b o xs)
    (hG : Wr G w) (hd : (G ++ F).Nodup) (hm : l.length + m.length ≤ maxLen) (hb : (l.length + m.length) * by_ ≤ 140737488355328)
    (k : ∀ v' w' F', Chg v.ownBlock.toList w w' → (∀ a, v = .slice a l.length l.length → Ext w w') → RowF F' e w' v' (l ++ m) → F'.Nodup → (∀ b ∈ F', b ∈ F ∨ b ∈ G ∨ w.heap.size ≤ b) → K v' w') : OP P (Builtin.append_ #[t, t] ty [v, src].toArray) w K := by
  subst hs
  obtain ⟨xs0, Fi, ho, hc0, rfl, hwF⟩ := hr
  by_cases hm0 : m = []
  · subst hm0
    obtain ⟨rfl, rfl⟩ := hc
    refine ⟨v, w, run_append_zero ht he ho a c, k v w _ (Chg.refl _ _) (fun _ _ => Ext.refl w) (by simpa using ⟨xs0, Fi, ho, hc0, rfl, hwF⟩) hn (fun b hb => .inl hb)⟩
  · rcases ha with h | ⟨b, o, rfl, hra⟩
    · exact absurd h hm0
    · obtain ⟨i, d, hi, hd', hs, hby, hg⟩ := tyI_info he
      simp only [hi, Option.map_some, Option.some.injEq] at hz
      obtain ⟨z, hz, hzs⟩ := Option.map_eq_some_iff.1 hz
      obtain ⟨v', w', hrun, hown', hgrow, hnil⟩ := run_append_own (P := P) w 0 t ty e i z (Rep.size α) by_ ht hi hz hs hby hzs Rep.pos v l.length xs0 ho ⟨b, o, none⟩ m.length c xs (Cells.len hc)
        (fun j u hu => by rw [Addr.add_mid]; exact hra j u hu) (Cells.one hc) hm hb (Nat.zero_le _)
      have hchg := chg_of_grown hgrow
      have kF : ∀ b ∈ Fi, w'.heap[b]? = w.heap[b]? := fun b hb => hchg.block b (Cells.lt hc0 b hb) (fun e => by
        rw [List.nodup_append] at hn; exact hn.2.2 b e b hb rfl)
      have kG : ∀ b ∈ G, w'.heap[b]? = w.heap[b]? := fun b hb => hchg.block b (Cells.lt hc b hb) (fun e => by
        rw [List.nodup_append] at hd; exact hd.2.2 b hb b (by simp only [List.mem_append]; exact .inl e) rfl)
      have hvb : ∀ q, v'.ownBlock = some q → v.ownBlock = some q ∨ w.heap.size ≤ q := by
        intro q hq
        rcases Nat.lt_or_ge q w.heap.size with hlt | hge
        · left
          -- an old block that is now the row's: it was the row's
          by_cases hv0 : v.ownBlock = some q
          · exact hv0
          · exfalso
            rcases ho.2 with ⟨rfl, hl0⟩ | ⟨g, cap, cur, rfl, _, hgg, h1, h2, h3, h4⟩
            · -- grown out of nil: the block is new
              have hx0 : xs0 = [] := List.eq_nil_of_length_eq_zero (by simpa [hl0] using ho.1)
              have hml : 0 < m.length := List.length_pos_iff.2 hm0
              have hr2 := run_append_nil (P := P) w t ty e i z ht hi hz ⟨b, o, none⟩ m.length c xs (by rw [hs]; exact Cells.len hc) (fun j u hu => by rw [Addr.add_mid]; exact hra j u hu) hml (by rw [maxLen_eq] at hm; omega) (by rw [hby]; have := hb; rw [Nat.add_mul] at this; omega)
              have hrun' : (Builtin.append_ #[t, t] ty #[.slice none 0 0, .slice (some ⟨b, o, none⟩) m.length c]).run P w = .ok v' w' := hrun
              rw [hr2] at hrun'
              simp only [Result.ok.injEq] at hrun'
              rw [← hrun'.1] at hq
              simp [Value.ownBlock] at hq
              omega
            · by_cases hroom : l.length + m.length ≤ cap
              · have hfit : l.length * i.size + xs.length ≤ cur.size := by rw [Cells.len hc, h3, hs, ← Nat.add_mul]; exact Nat.mul_le_mul_right _ hroom
                have hr2 := run_append_room (P := P) w t ty e i ht hi g l.length cap cur hgg ⟨b, o, none⟩ m.length c xs (by rw [hs]; exact Cells.len hc) (fun j u hu => by rw [Addr.add_mid]; exact hra j u hu) (Cells.one hc) hroom hfit
                have hrun' : (Builtin.append_ #[t, t] ty #[.slice (some ⟨g, 0, none⟩) l.length cap, .slice (some ⟨b, o, none⟩) m.length c]).run P w = .ok v' w' := hrun
                rw [hr2] at hrun'
                simp only [Result.ok.injEq] at hrun'
                rw [← hrun'.1] at hq
                simp [Value.ownBlock] at hq hv0
                exact hv0 hq
              · have hr2 := run_append_grow (P := P) w t ty e i z ht hi hz ⟨g, 0, none⟩ l.length cap xs0 (by rw [hs]; exact ho.1) (ho.cells (g := g) rfl) ⟨b, o, none⟩ m.length c xs (by rw [hs]; exact Cells.len hc) (fun j u hu => by rw [Addr.add_mid]; exact hra j u hu) (by omega) (by rw [maxLen_eq] at hm; omega) (growslice_fits (by omega) (by rw [hby]; exact hb))
                have hrun' : (Builtin.append_ #[t, t] ty #[.slice (some ⟨g, 0, none⟩) l.length cap, .slice (some ⟨b, o, none⟩) m.length c]).run P w = .ok v' w' := hrun
                rw [hr2] at hrun'
                simp only [Result.ok.injEq] at hrun'
                rw [← hrun'.1] at hq
                simp [Value.ownBlock] at hq
                omega
        · exact .inr hge
      have hfull : ∀ a, v = .slice a l.length l.length → Ext w w' := by
        intro a hva
        have hml : 0 < m.length := List.length_pos_iff.2 hm0
        rcases ho.2 with ⟨rfl, hl0⟩ | ⟨g, cap, cur, rfl, _, hgg, h1, h2, h3, h4⟩
        · have hr2 := run_append_nil (P := P) w t ty e i z ht hi hz ⟨b, o, none⟩ m.length c xs (by rw [hs]; exact Cells.len hc) (fun j u hu => by rw [Addr.add_mid]; exact hra j u hu) hml (by rw [maxLen_eq] at hm; omega) (by rw [hby]; have := hb; rw [Nat.add_mul] at this; omega)
          have hrun' : (Builtin.append_ #[t, t] ty #[.slice none 0 0, .slice (some ⟨b, o, none⟩) m.length c]).run P w = .ok v' w' := hrun
          rw [hr2] at hrun'
          simp only [Result.ok.injEq] at hrun'
          rw [← hrun'.2]
          exact (ext_drew w).trans (ext_alloc w.drew _)
        · simp only [Value.slice.injEq, true_and] at hva
          have hr2 := run_append_grow (P := P) w t ty e i z ht hi hz ⟨g, 0, none⟩ l.length cap xs0 (by rw [hs]; exact ho.1) (ho.cells (g := g) rfl) ⟨b, o, none⟩ m.length c xs (by rw [hs]; exact Cells.len hc) (fun j u hu => by rw [Addr.add_mid]; exact hra j u hu) (by omega) (by rw [maxLen_eq] at hm; omega) (growslice_fits (by omega) (by rw [hby]; exact hb))
          have hrun' : (Builtin.append_ #[t, t] ty #[.slice (some ⟨g, 0, none⟩) l.length cap, .slice (some ⟨b, o, none⟩) m.length c]).run P w = .ok v' w' := hrun
          rw [hr2] at hrun'
          simp only [Result.ok.injEq] at hrun'
          rw [← hrun'.2]
          exact (ext_drew w).trans (ext_alloc w.drew _)
      refine ⟨v', w', hrun, k v' w' (v'.ownBlock.toList ++ (Fi ++ G)) hchg hfull ⟨xs0 ++ xs, Fi ++ G, by simpa using hown', Cells.append (Cells.keep hc0 kF) (Cells.keep hc kG), rfl, (hwF.keep kF).append (hG.keep kG)⟩ ?_ ?_⟩
      · have hltF : ∀ b ∈ Fi, b < w.heap.size := Cells.lt hc0
        have hltG : ∀ b ∈ G, b < w.heap.size := Cells.lt hc
        rw [List.nodup_append] at hd hn
        rw [List.nodup_append, List.nodup_append]
        refine ⟨by cases v'.ownBlock <;> simp, ⟨hn.2.1, hd.1, fun x hx y hy e => hd.2.2 y hy x (by simp [hx]) e.symm⟩, ?_⟩
        intro x hx y hy e
        subst e
        rcases hvb x (by simpa [Option.mem_toList] using hx) with h | h
        · rcases List.mem_append.1 hy with hy | hy
          · exact hn.2.2 x (by simp [h]) x hy rfl
          · exact hd.2.2 x hy x (by simp [h]) rfl
        · rcases List.mem_append.1 hy with hy | hy
          · have := hltF x hy; omega
          · have := hltG x hy; omega
      · intro x hx
        rcases List.mem_append.1 hx with hx | hx
        · rcases hvb x (by simpa [Option.mem_toList] using hx) with h | h
          · exact .inl (by simp [h])
          · exact .inr (.inr h)
        · rcases List.mem_append.1 hx with hx | hx
          · exact .inl (by simp [hx])
          · exact .inr (.inl hx)
/-- append([]T{}, src...): new memory; nothing that was there has turned -/
theorem op_append_new [Flat α] {t ty e : TypeId} {by_ : Nat} {K : Value → World → Prop} {a : Addr} {src : Value} {m : List α} {lo : Nat} (ht : P.underlying t = some (.slice e)) (he : tyI P e = some (Rep.size α, by_, Rep.agg α)) (hz : (P.info? e).map (fun i => (i.zero.map (·.cells.size))) = some (some (Rep.size α)))
    (hr : Row (α := α) lo e w (.slice (some a) 0 0) []) (hs : Is w0 src m) (hx : Ext w0 w) (hlo : lo ≤ w.heap.size) (hb : m.length * by_ ≤ 140737488355328)
    (k : ∀ v' w', Ext w w' → Row lo e w' v' m → K v' w') : OP P (Builtin.append_ #[t, t] ty [.slice (some a) 0 0, src].toArray) w K := by
  obtain ⟨a', cap, Fi, xs, rfl, h1, h2, hc, h4⟩ := is_list hs
  obtain ⟨F, hF, hFn, hFl⟩ := hr
  have hFi := Cells.flat (xs := xs) hc
  subst hFi
  refine op_append (α := α) (m := m) ht he hz hF hFn rfl (Cells.keep hc (by simp)) ?_ (Wr.nil _) (by simpa using hFn) (by simp only [List.length_nil]; omega) (by simpa using hb) fun v2 w2 F' hc2 hfull hr2 hn2 hb2 => ?_
  · rcases h4 with h4 | ⟨b, o, ha, hra, _⟩
    · exact .inl h4
    · exact .inr ⟨b, o, ha, rangeAt_ext hra hx⟩
  · refine k v2 w2 (hfull _ rfl) ⟨F', by simpa using hr2, hn2, fun b hb => ?_⟩
    rcases hb2 b hb with h | h | h
    · exact hFl b h
    · cases h
    · exact Nat.le_trans hlo h
end
end Go.Sh
