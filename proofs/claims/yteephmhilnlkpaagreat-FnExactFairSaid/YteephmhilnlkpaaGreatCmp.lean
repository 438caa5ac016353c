/-
  Lists of numbers held against each other, in the library's words; two structs of three numbers compared so.
-/
import Derived.Test.YteephmhilnlkpaaGreatSortG
import Derived.Test.YteephmhilnlkpaaGreatFns0
import Derived.Test.YteephmhilnlkpaaGreatTypes
import Derived.Test.YteephmhilnlkpaaGreatData
namespace Go.Proofs.YteephmhilnlkpaaGreat
open Go Go.Sh Go.Proofs
set_option linter.unusedVariables false
/-- cmp.isNaN[int] -/
def F271 (a0 : Value) (w : World) (R : Value → World → Prop) : Prop :=
  RD Tryz.prog (bin .neq 3 (.tmp 0) (.tmp 0) a0 a0) w fun x5 =>
  R x5 w
def cfg271 : Cfg := { ext := extL, joins := [], loops := [], draws := [], pars := [] }
theorem F271_eq (a0 : Value) (w : World) (R : Value → World → Prop) : vcF Tryz.prog cfg271 Tryz.f271 [a0] w R = F271 a0 w R := by kernel_rfl
theorem F271_call {a0 : Value} {w : World} {R : Value → World → Prop} (h : F271 a0 w R) : CALL Tryz.prog 271 [a0] w R :=
  call_of (g := cfg271) ent mixed Tryz.func271 (Nat.le_of_ble_eq_true (by kernel_rfl)) (by kernel_rfl) (F271_eq a0 w R ▸ h)

/-- cmp.Compare[int] -/
def F242 (a0 a1 : Value) (w : World) (R : Value → World → Prop) : Prop :=
  CALL Tryz.prog 271 [a0] w fun x8 w =>
  CALL Tryz.prog 271 [a1] w fun x10 w =>
  BR x8
   (BR x10
    (R (Value.int .i64 0) w)
    (R (Value.int .i64 (-1)) w))
   (BR x10
    (R (Value.int .i64 1) w)
    (RD Tryz.prog (bin .lss 3 (.tmp 0) (.tmp 0) a0 a1) w fun x16 =>
    BR x16
     (R (Value.int .i64 (-1)) w)
     (RD Tryz.prog (bin .gtr 3 (.tmp 0) (.tmp 0) a0 a1) w fun x19 =>
     BR x19
      (R (Value.int .i64 1) w)
      (R (Value.int .i64 0) w))))
def cfg242 : Cfg := { ext := extL, joins := [], loops := [], draws := [], pars := [] }
theorem F242_eq (a0 a1 : Value) (w : World) (R : Value → World → Prop) : vcF Tryz.prog cfg242 Tryz.f242 [a0, a1] w R = F242 a0 a1 w R := by kernel_rfl
theorem F242_call {a0 a1 : Value} {w : World} {R : Value → World → Prop} (h : F242 a0 a1 w R) : CALL Tryz.prog 242 [a0, a1] w R :=
  call_of (g := cfg242) ent mixed Tryz.func242 (Nat.le_of_ble_eq_true (by kernel_rfl)) (by kernel_rfl) (F242_eq a0 a1 w R ▸ h)

/-- slices.Compare[[]int,int] -/
def F182 (a0 a1 : Value) (w : World) (R : Value → World → Prop) : Prop :=
  RD Tryz.prog (Builtin.len_ #[23] 3 [a0].toArray) w fun x10 =>
  LOOPI [11] [(Value.int .i64 0)] w fun u2 w next2 =>
   RD Tryz.prog (bin .lss 3 (.tmp 0) (.tmp 0) (u2 11) x10) w fun x12 =>
   BR x12
    (RD Tryz.prog (Instr.indexAt 23 a0 (u2 11)) w fun x14 =>
    RD Tryz.prog (Instr.loadAt 3 x14) w fun x15 =>
    RD Tryz.prog (Builtin.len_ #[23] 3 [a1].toArray) w fun x18 =>
    RD Tryz.prog (bin .geq 3 (.tmp 0) (.tmp 0) (u2 11) x18) w fun x19 =>
    BR x19
     (R (Value.int .i64 1) w)
     (RD Tryz.prog (Instr.indexAt 23 a1 (u2 11)) w fun x22 =>
     RD Tryz.prog (Instr.loadAt 3 x22) w fun x23 =>
     CALL Tryz.prog 242 [x15, x23] w fun x26 w =>
     RD Tryz.prog (bin .neq 3 (.tmp 0) (.const undef) x26 (Value.int .i64 0)) w fun x28 =>
     BR x28
      (R x26 w)
      (RD Tryz.prog (bin .add 3 (.tmp 0) (.const undef) (u2 11) (Value.int .i64 1)) w fun x30 =>
      next2 [x30] w)))
    (RD Tryz.prog (Builtin.len_ #[23] 3 [a0].toArray) w fun x32 =>
    RD Tryz.prog (Builtin.len_ #[23] 3 [a1].toArray) w fun x34 =>
    RD Tryz.prog (bin .lss 3 (.tmp 0) (.tmp 0) x32 x34) w fun x35 =>
    BR x35
     (R (Value.int .i64 (-1)) w)
     (R (Value.int .i64 0) w))
def cfg182 : Cfg := { ext := extL, joins := [], loops := [(2, 2147482096, [11])], draws := [], pars := [] }
theorem F182_eq (a0 a1 : Value) (w : World) (R : Value → World → Prop) : vcF Tryz.prog cfg182 Tryz.f182 [a0, a1] w R = F182 a0 a1 w R := by kernel_rfl
theorem F182_call {a0 a1 : Value} {w : World} {R : Value → World → Prop} (h : F182 a0 a1 w R) : CALL Tryz.prog 182 [a0, a1] w R :=
  call_of (g := cfg182) ent mixed Tryz.func182 (Nat.le_of_ble_eq_true (by kernel_rfl)) (by kernel_rfl) (F182_eq a0 a1 w R ▸ h)

/-- impl.compareRaces -/
def F237 (a0 a1 : Value) (w : World) (R : Value → World → Prop) : Prop :=
  OP Tryz.prog (Instr.box 117 a0) w fun x2 w =>
  OP Tryz.prog (Instr.box 117 a1) w fun x3 w =>
  RD Tryz.prog (Instr.fieldAt 117 x2 0) w fun x5 =>
  RD Tryz.prog (Instr.loadAt 3 x5) w fun x6 =>
  RD Tryz.prog (Instr.fieldAt 117 x2 1) w fun x7 =>
  RD Tryz.prog (Instr.loadAt 3 x7) w fun x8 =>
  RD Tryz.prog (Instr.fieldAt 117 x2 2) w fun x9 =>
  RD Tryz.prog (Instr.loadAt 3 x9) w fun x10 =>
  OP Tryz.prog (Instr.buildSlice 23 3 #[(0, x6), (1, x8), (2, x10)]) w fun x11 w =>
  RD Tryz.prog (Instr.fieldAt 117 x3 0) w fun x12 =>
  RD Tryz.prog (Instr.loadAt 3 x12) w fun x13 =>
  RD Tryz.prog (Instr.fieldAt 117 x3 1) w fun x14 =>
  RD Tryz.prog (Instr.loadAt 3 x14) w fun x15 =>
  RD Tryz.prog (Instr.fieldAt 117 x3 2) w fun x16 =>
  RD Tryz.prog (Instr.loadAt 3 x16) w fun x17 =>
  OP Tryz.prog (Instr.buildSlice 23 3 #[(0, x13), (1, x15), (2, x17)]) w fun x18 w =>
  CALL Tryz.prog 182 [x11, x18] w fun x19 w =>
  R x19 w
def cfg237 : Cfg := { ext := extL, joins := [], loops := [], draws := [], pars := [] }
theorem F237_eq (a0 a1 : Value) (w : World) (R : Value → World → Prop) : vcF Tryz.prog cfg237 Tryz.f237 [a0, a1] w R = F237 a0 a1 w R := by kernel_rfl
theorem F237_call {a0 a1 : Value} {w : World} {R : Value → World → Prop} (h : F237 a0 a1 w R) : CALL Tryz.prog 237 [a0, a1] w R :=
  call_of (g := cfg237) ent mixed Tryz.func237 (Nat.le_of_ble_eq_true (by kernel_rfl)) (by kernel_rfl) (F237_eq a0 a1 w R ▸ h)

set_option linter.unusedVariables false
set_option linter.unusedSimpArgs false

theorem zlIc : zeroL Tryz.prog 3 = some [.int .i64 0] := by kernel_rfl
def cmpI (x y : Int) : Int := if x < y then -1 else if y < x then 1 else 0
def cmpL : List Int → List Int → Int
  | [], [] => 0
  | [], _ :: _ => -1
  | _ :: _, [] => 1
  | x :: l, y :: m => if cmpI x y ≠ 0 then cmpI x y else cmpL l m
theorem isNaN_ok {w : World} {x : Int} : CALL Tryz.prog 271 [.int .i64 x] w fun r w' => w' = w ∧ r = .bool false := by
  refine F271_call ?_
  unfold F271
  exact rd_neq ⟨rfl, by simp⟩
theorem compareI_ok {w : World} {x y : Int} : CALL Tryz.prog 242 [.int .i64 x, .int .i64 y] w fun r w' => w' = w ∧ r = .int .i64 (cmpI x y) := by
  refine F242_call ?_
  unfold F242
  refine isNaN_ok.mono ?_
  rintro _ _ ⟨rfl, rfl⟩
  refine isNaN_ok.mono ?_
  rintro _ _ ⟨rfl, rfl⟩
  refine br_b (fun h => by cases h) (fun _ => ?_)
  refine br_b (fun h => by cases h) (fun _ => ?_)
  refine rd_lss ?_
  refine br (fun h => ⟨rfl, by rw [cmpI, if_pos h]⟩) (fun h => ?_)
  refine rd_gtr ?_
  refine br (fun h2 => ⟨rfl, by rw [cmpI, if_neg h, if_pos h2]⟩) (fun h2 => ⟨rfl, by rw [cmpI, if_neg h, if_neg h2]⟩)
theorem rd_lenV {P : Program} {w : World} {K : Value → Prop} {t ty e : TypeId} {a : Option Addr} {n c : Nat} (ht : P.underlying t = some (.slice e)) (k : K (.int .i64 (n : Int))) :
    RD P (Builtin.len_ #[t] ty [Value.slice a n c].toArray) w K := rd_of (fun w' _ => by simp [Builtin.len_, run_underlying ht]; rfl) k
def vI (l : List Int) : List Value := l.map fun x => .int .i64 x
theorem vI_get {l : List Int} {k : Nat} (h : k < l.length) : (vI l)[k]? = some (.int .i64 l[k]) := by simp [vI, h]
theorem cmpL_step {l m : List Int} {k : Nat} (h1 : k < l.length) (h2 : k < m.length) : cmpL (l.drop k) (m.drop k) = if cmpI l[k] m[k] ≠ 0 then cmpI l[k] m[k] else cmpL (l.drop (k + 1)) (m.drop (k + 1)) := by
  rw [List.drop_eq_getElem_cons h1, List.drop_eq_getElem_cons h2, cmpL]
theorem compareL_ok {w : World} {g1 g2 e1 e2 c1 c2 : Nat} {l m : List Int} (h1 : Blk g1 e1 w (vI l)) (h2 : Blk g2 e2 w (vI m)) (hl : l.length ≤ 1000) (hm : m.length ≤ 1000) :
    CALL Tryz.prog 182 [.slice (some ⟨g1, 0, none⟩) l.length c1, .slice (some ⟨g2, 0, none⟩) m.length c2] w fun r w' => w' = w ∧ r = .int .i64 (cmpL l m) := by
  refine F182_call ?_
  unfold F182
  refine rd_lenV u23 ?_
  refine loopC l.length (fun k us w' => us = [.int .i64 (k : Int)] ∧ w' = w ∧ k ≤ m.length ∧ cmpL l m = cmpL (l.drop k) (m.drop k)) 0 (Nat.zero_le _) ⟨rfl, rfl, Nat.zero_le _, rfl⟩ ?_
  rintro k mk u w2 hkm ⟨hu, rfl, hkl, hc⟩
  simp only [List.map_cons, List.map_nil, List.cons.injEq, and_true] at hu
  rw [hu]
  refine rd_lss ?_
  refine br (fun hlt => ?_) (fun hge => ?_)
  · have hk1 : k < l.length := by omega
    refine rd_indexG u23 ty3 hk1 ?_
    rw [Nat.mul_one]
    refine rd_blkV ty3 h1 (vI_get hk1) ?_
    refine rd_lenV u23 ?_
    refine rd_geq ?_
    refine br (fun hge => ?_) (fun hlt2 => ?_)
    · refine ⟨rfl, ?_⟩
      have e0 : m.drop k = [] := List.drop_eq_nil_of_le (by omega)
      rw [hc, List.drop_eq_getElem_cons hk1, e0]; rfl
    · have hk2 : k < m.length := by omega
      refine rd_indexG u23 ty3 hk2 ?_
      rw [Nat.mul_one]
      refine rd_blkV ty3 h2 (vI_get hk2) ?_
      refine compareI_ok.mono ?_
      rintro _ _ ⟨rfl, rfl⟩
      have hst := cmpL_step hk1 hk2
      refine rd_neq ?_
      refine br (fun hne => ?_) (fun heq => ?_)
      · exact ⟨rfl, by rw [hc, hst, if_pos hne]⟩
      · refine rd_inc (by omega) ?_
        exact ⟨mk - 1, by omega, k + 1, by omega, rfl, rfl, by omega, by rw [hc, hst, if_neg heq]⟩
  · have hk : k = l.length := by omega
    subst hk
    refine rd_lenV u23 ?_
    refine rd_lenV u23 ?_
    refine rd_lss ?_
    rw [List.drop_length] at hc
    refine br (fun hlt2 => ⟨rfl, ?_⟩) (fun hge2 => ⟨rfl, ?_⟩)
    · rw [hc, List.drop_eq_getElem_cons (by omega)]; rfl
    · rw [hc, List.drop_eq_nil_of_le (by omega)]; rfl
section
variable {P : Program} {w : World} {K : Value → World → Prop}
theorem op_boxE {t : TypeId} {cs : Array Value} (k : K (.pointer (some ⟨w.heap.size, 0, none⟩)) (w.alloc (.cells cs t))) : OP P (Instr.box t (.agg cs)) w K :=
  ⟨_, w.alloc (.cells cs t), by simp [Instr.box, newVar, newRow, Value.cells], k⟩
theorem op_build3E {t e : TypeId} {by_ : Nat} {x y z : Int} (ht : P.underlying t = some (.slice e)) (he : tyI P e = some (1, by_, false)) (hz : zeroL P e = some [.int .i64 0])
    (k : K (.slice (some ⟨w.heap.size, 0, none⟩) 3 3) (w.alloc (.cells (vI [x, y, z]).toArray e))) : OP P (Instr.buildSlice t 3 #[(0, .int .i64 x), (1, .int .i64 y), (2, .int .i64 z)]) w K := by
  unfold zeroL at hz
  cases hi : P.info? e with
  | none => simp [hi] at hz
  | some i =>
    simp only [hi] at hz
    obtain ⟨v, hv, hvc⟩ := Option.map_eq_some_iff.1 hz
    refine ⟨_, w.alloc (.cells (vI [x, y, z]).toArray e), ?_, k⟩
    have hvc' : v.cells = #[.int .i64 0] := Array.ext' (by simpa using hvc)
    have e1 : ∀ n : Int, (Value.int .i64 n).cells = #[.int .i64 n] := fun _ => rfl
    simp only [Instr.buildSlice, Sem.run_bind, run_underlying ht, Result.andThen_ok, run_sizeOf' he]
    have e2 : Array.range 3 = #[0, 1, 2] := by decide
    simp [zeroValue, typeInfo, hi, hv, newRow, Instr.fill, hvc', vI, e1, e2]
end
theorem blk_new {w : World} {cs : List Value} {e : Nat} : Blk w.heap.size e (w.alloc (.cells cs.toArray e)) cs := heap_alloc_new w _
/-- two of three numbers -/
def i3 (a b c : Int) : Array Value := #[.int .i64 a, .int .i64 b, .int .i64 c]
def GrowsTo (w w' : World) : Prop := ∃ q os, w' = Go.Sort.grow (w.drewN q) os
theorem grows_allocs {w : World} (o1 o2 o3 o4 : Obj) : GrowsTo w ((((w.alloc o1).alloc o2).alloc o3).alloc o4) :=
  ⟨0, #[o1] ++ #[o2] ++ #[o3] ++ #[o4], by
    rw [Go.Sort.alloc_eq_grow, Go.Sort.alloc_eq_grow, Go.Sort.alloc_eq_grow, Go.Sort.alloc_eq_grow, Go.Sort.grow_grow, Go.Sort.grow_grow, Go.Sort.grow_grow]; rfl⟩
/-- what is compared of races -/
def raceI (x : DRace) : List Int := [x.g, x.a, x.b]
def cmpR (x y : DRace) : Int := cmpL (raceI x) (raceI y)
theorem compareRaces_ok {w : World} {x y : DRace} : CALL Tryz.prog 237 [.agg (i3 x.g x.a x.b), .agg (i3 y.g y.a y.b)] w fun r w' => r = .int .i64 (cmpR x y) ∧ GrowsTo w w' := by
  refine F237_call ?_
  unfold F237
  refine op_boxE ?_
  have hB1 : Blk w.heap.size 117 (w.alloc (.cells (i3 x.g x.a x.b) 117)) (vI (raceI x)) := heap_alloc_new w _
  refine op_boxE ?_
  generalize hw1 : w.alloc (.cells (i3 x.g x.a x.b) 117) = w1 at *
  have hB2 : Blk w1.heap.size 117 (w1.alloc (.cells (i3 y.g y.a y.b) 117)) (vI (raceI y)) := heap_alloc_new w1 _
  have hx2 := ext_alloc w1 (.cells (i3 y.g y.a y.b) 117)
  generalize hw2 : w1.alloc (.cells (i3 y.g y.a y.b) 117) = w2 at *
  have hB12 := hB1.ext hx2
  refine rd_fld fd117_0 ?_
  refine rd_blkV ty3 hB12 rfl ?_
  refine rd_fld fd117_1 ?_
  refine rd_blkV ty3 hB12 rfl ?_
  refine rd_fld fd117_2 ?_
  refine rd_blkV ty3 hB12 rfl ?_
  refine op_build3E u23 ty3 zlIc ?_
  have hx3 := ext_alloc w2 (.cells (vI [x.g, x.a, x.b]).toArray 3)
  have hB3 : Blk w2.heap.size 3 (w2.alloc (.cells (vI [x.g, x.a, x.b]).toArray 3)) (vI (raceI x)) := heap_alloc_new w2 _
  generalize hw3 : w2.alloc (.cells (vI [x.g, x.a, x.b]).toArray 3) = w3 at *
  have hB23 := hB2.ext hx3
  refine rd_fld fd117_0 ?_
  refine rd_blkV ty3 hB23 rfl ?_
  refine rd_fld fd117_1 ?_
  refine rd_blkV ty3 hB23 rfl ?_
  refine rd_fld fd117_2 ?_
  refine rd_blkV ty3 hB23 rfl ?_
  refine op_build3E u23 ty3 zlIc ?_
  have hx4 := ext_alloc w3 (.cells (vI [y.g, y.a, y.b]).toArray 3)
  have hB4 : Blk w3.heap.size 3 (w3.alloc (.cells (vI [y.g, y.a, y.b]).toArray 3)) (vI (raceI y)) := heap_alloc_new w3 _
  have hg : GrowsTo w (w3.alloc (.cells (vI [y.g, y.a, y.b]).toArray 3)) := by rw [← hw3, ← hw2, ← hw1]; exact grows_allocs _ _ _ _
  refine (compareL_ok (l := raceI x) (m := raceI y) (hB3.ext hx4) hB4 (by simp [raceI]) (by simp [raceI])).mono ?_
  rintro _ _ ⟨rfl, rfl⟩
  exact ⟨rfl, hg⟩
/-- the order of races -/
def ltR (x y : DRace) : Prop := x.g < y.g ∨ (x.g = y.g ∧ (x.a < y.a ∨ (x.a = y.a ∧ x.b < y.b)))
theorem cmpI_lt {x y : Int} (h : x < y) : cmpI x y = -1 := by rw [cmpI, if_pos h]
theorem cmpI_gt {x y : Int} (h : y < x) : cmpI x y = 1 := by rw [cmpI, if_neg (by omega), if_pos h]
theorem cmpI_eq {x y : Int} (h : x = y) : cmpI x y = 0 := by rw [cmpI, if_neg (by omega), if_neg (by omega)]
theorem cmpR_lt {x y : DRace} : cmpR x y < 0 ↔ ltR x y := by
  unfold cmpR raceI ltR
  simp only [cmpL]
  rcases Int.lt_trichotomy x.g y.g with h | h | h
  · rw [cmpI_lt h]; simp; omega
  · rw [cmpI_eq h]
    rcases Int.lt_trichotomy x.a y.a with h2 | h2 | h2
    · rw [cmpI_lt h2]; simp; omega
    · rw [cmpI_eq h2]
      rcases Int.lt_trichotomy x.b y.b with h3 | h3 | h3
      · rw [cmpI_lt h3]; simp; omega
      · rw [cmpI_eq h3]; simp; omega
      · rw [cmpI_gt h3]; simp; omega
    · rw [cmpI_gt h2]; simp; omega
  · rw [cmpI_gt h]; simp; omega
end Go.Proofs.YteephmhilnlkpaaGreat
