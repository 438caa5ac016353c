/-
  Bytes and texts.
-/
import Derived.Test.YteephmhilnlkpaaGreatMk
import Derived.Laws.BytesArg
namespace Go.Sh
set_option linter.unusedVariables false
set_option linter.unusedSimpArgs false
open Rep (rep)

abbrev U8 := UInt8
instance : Rep UInt8 where
  size := 1
  agg := false
  rep F _ cs x := F = [] ∧ cs = [.int .u8 (x.toNat : Int)]
  pos := by decide
  sz _ := rfl
  len := by rintro _ _ _ _ ⟨_, rfl⟩; rfl
  one := by rintro _ _ _ _ ⟨_, rfl⟩ v hv; simp at hv; subst hv; rfl
  keep := by rintro _ _ _ _ _ h _; exact h
  lt := by rintro _ _ _ _ ⟨rfl, _⟩ b hb; cases hb
instance : Flat UInt8 := ⟨fun h => h.1⟩
instance : RepZ UInt8 := ⟨0, [.int .u8 0], fun _ => ⟨rfl, rfl⟩⟩
section
variable {P : Program} {w w0 : World} {K : Value → Prop} {t : TypeId} {x y : Operand}
theorem mine_u8 {b : UInt8} : Mine [] w (.int .u8 (b.toNat : Int)) b := ⟨⟨_, ⟨rfl, rfl⟩, rfl⟩, List.nodup_nil, Wr.nil w⟩
theorem ownI_u8 {lo hi : Nat} {b : UInt8} : OwnI lo hi w (.int .u8 (b.toNat : Int)) b := ⟨[], mine_u8, by simp⟩
theorem is_u8 {v : Value} {b : UInt8} : Is w v b ↔ v = .int .u8 (b.toNat : Int) := by
  constructor
  · rintro ⟨F, cs, ⟨_, rfl⟩, rfl⟩; rfl
  · rintro rfl; exact ⟨[], _, ⟨rfl, rfl⟩, rfl⟩
theorem rd_loadU {t by_ b o : Nat} {x : UInt8} (ht : tyI P t = some (1, by_, false)) (h : At w0 b o x) (hx : Ext w0 w) (k : K (.int .u8 (x.toNat : Int))) :
    RD P (Instr.loadAt t (.pointer (some ⟨b, o, none⟩))) w K :=
  rd_load (α := UInt8) ht h hx fun v hv => by obtain rfl := is_u8.1 hv; exact k
/-- byte(..) -/
theorem rd_byte {src dst : TypeId} {n : Nat} (hs : (P.underlying src).isSome = true) (hd : P.underlying dst = some (.int .u8)) (hn : n < 256) (k : K (.int .u8 ((UInt8.ofNat n).toNat : Int))) : RD P (convert src dst (.int .i64 (n : Int))) w K := by
  refine rd_of (fun w' _ => ?_) k
  obtain ⟨d, hd'⟩ := Option.isSome_iff_exists.mp hs
  have h1 : IntKind.u8.wrap (n : Int) = n := by simp [IntKind.wrap, IntKind.signed, IntKind.bits]; omega
  have h2 : (UInt8.ofNat n).toNat = n := by simp; omega
  simp [convert, run_underlying hd', run_underlying hd, Conv.intToInt, h1]
  omega
/-- string(..) of bytes -/
theorem rd_bytesStr {src dst e : TypeId} {v : Value} {l : List UInt8} (hs : P.underlying src = some (.slice e)) (he : P.underlying e = some (.int .u8)) (hd : P.underlying dst = some .string) (h : Is w0 v l) (hx : Ext w0 w)
    (k : K (.string ⟨l.toArray⟩)) : RD P (convert src dst v) w K := by
  obtain ⟨a, cap, Fi, xs, rfl, h1, h2, hc, h4⟩ := is_list h
  have hcells : ∀ {l : List UInt8} {F : List Nat} {xs : List Value}, Cells F w0 xs l → xs = l.map fun b => Value.int .u8 (b.toNat : Int) := by
    intro l
    induction l with
    | nil => rintro _ _ ⟨_, rfl⟩; rfl
    | cons b l ih =>
      rintro _ _ ⟨F1, F2, c1, c2, _, rfl, ⟨_, rfl⟩, h⟩
      rw [ih h]; rfl
  have hxs := hcells hc
  refine rd_of (fun w' hx' => ?_) k
  rcases h4 with rfl | ⟨b, o, rfl, hr, hb⟩
  · cases a with
    | none => exact run_convert_bytes_nil w' src e hs he _ _ dst hd
    | some a =>
      rw [run_convert_bytes_string w' src dst e _ _ cap hs he hd]
      have := run_bytesToString (P := P) w' a 0 cap [] (by simp [loadCells, loadCellsFrom])
      exact this
  · have := run_convert_bytes_arg w' src e hs he b o l.length cap (l.map fun b => (b.toNat : Int)) (by simp) (fun i hi => by
      have hr' := rangeAt_ext (rangeAt_ext hr hx) hx'
      have := hr' i (.int .u8 (l[i].toNat : Int)) (by rw [hxs]; simp [hi])
      rw [this]
      simp [List.getD, hi]) dst hd
    rw [this]
    have e : strOfNums (l.map fun b => (b.toNat : Int)) = ⟨l.toArray⟩ := by
      unfold strOfNums
      congr 2
      rw [List.map_map]
      conv => rhs; rw [← List.map_id l]
      congr 1
      funext b
      simp
    rw [e]
/-- a text behind a text -/
theorem rd_addS {a b : ByteArray} (h : a.size + b.size ≤ 9223372036854775807) (k : K (.string (a ++ b))) : RD P (bin .add t x y (.string a) (.string b)) w K :=
  rd_of (fun w' _ => by
    have hh : ¬ (((a.size + b.size : Nat) : Int) > IntKind.i64.max) := by
      have : IntKind.i64.max = 9223372036854775807 := by decide
      omega
    show (do eqGuard .add t x y (.string a) (.string b); binOp .add t (.string a) (.string b) : Sem Value).run P w' = _
    simp only [eqGuard, binOp, Op.stringOp, hh, if_false]
    rfl) k
theorem rd_quo {a b : Int} (hb : b ≠ 0) (h : I64 (a.tdiv b)) (k : K (.int .i64 (a.tdiv b))) : RD P (bin .quo t x y (.int .i64 a) (.int .i64 b)) w K :=
  rd_of (fun w' _ => by simp [bin, eqGuard, binOp, Op.intDiv, hb, IntWalk.i64_in _ h]) k
end
end Go.Sh
