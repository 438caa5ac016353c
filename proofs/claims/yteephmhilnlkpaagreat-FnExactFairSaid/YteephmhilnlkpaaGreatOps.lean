/-
  What each operation of the reading does, in terms of the data (reads).
-/
import Derived.Test.YteephmhilnlkpaaGreatRep
import Derived.Laws.BitsLemmas
import Derived.Laws.Cover3
import Derived.IntWalk
namespace Go.Sh
set_option linter.unusedVariables false
set_option linter.unusedSimpArgs false
open Go.RowKit (Below)
open Rep (rep)

theorem br {p : Prop} [Decidable p] {kt kf : Prop} (h1 : p → kt) (h2 : ¬ p → kf) : BR (.bool (decide p)) kt kf := by
  by_cases h : p
  · simp only [h, decide_true]; exact h1 h
  · simp only [h, decide_false]; exact h2 h
theorem br_b {b : Bool} {kt kf : Prop} (h1 : b = true → kt) (h2 : b = false → kf) : BR (.bool b) kt kf := by
  cases b
  · exact h2 rfl
  · exact h1 rfl

theorem gbr {p : Prop} [Decidable p] {kt kf ks : Prop} (h1 : p → kt) (h2 : ¬ p → kf) : GBR (.bool (decide p)) kt kf ks := by
  by_cases h : p
  · simp only [h, decide_true]; exact h1 h
  · simp only [h, decide_false]; exact h2 h
theorem gbr_b {b : Bool} {kt kf ks : Prop} (h1 : b = true → kt) (h2 : b = false → kf) : GBR (.bool b) kt kf ks := by
  cases b
  · exact h2 rfl
  · exact h1 rfl

/-- a loop that counts up to n: k rounds are done, m are left -/
theorem loopC {L : List Nat} {init : List Value} {w : World} {body : Env → World → (List Value → World → Prop) → Prop} (n : Nat) (I : Nat → List Value → World → Prop) (k0 : Nat) (hk : k0 ≤ n) (h0 : I k0 init w)
    (hr : ∀ k m u w', k + m = n → I k (L.map u) w' → body u w' (fun us w'' => ∃ m', m' < m ∧ ∃ k', k' + m' = n ∧ I k' us w'')) : LOOPI L init w body :=
  .mk (fun m us w => ∃ k, k + m = n ∧ I k us w) (n - k0) ⟨k0, by omega, h0⟩ (fun m u w' ⟨k, hk, h⟩ => hr k m u w' hk h)

section
variable {P : Program} {w w0 : World} {K : Value → Prop}
theorem rd_of {m : Sem Value} {v : Value} (h : ∀ w', Ext w w' → m.run P w' = .ok v w') (k : K v) : RD P m w K := ⟨v, h, k⟩

section ints
variable {t : TypeId} {x y : Operand} {a b : Int} {kd : IntKind}
theorem rd_lss (k : K (.bool (decide (a < b)))) : RD P (bin .lss t x y (.int kd a) (.int kd b)) w K := rd_of (fun w' _ => by simp [bin, eqGuard, binOp, Op.intCmp]) k
theorem rd_leq (k : K (.bool (decide (a ≤ b)))) : RD P (bin .leq t x y (.int kd a) (.int kd b)) w K := rd_of (fun w' _ => by simp [bin, eqGuard, binOp, Op.intCmp]) k
theorem rd_gtr (k : K (.bool (decide (b < a)))) : RD P (bin .gtr t x y (.int kd a) (.int kd b)) w K := rd_of (fun w' _ => by simp [bin, eqGuard, binOp, Op.intCmp]) k
theorem rd_geq (k : K (.bool (decide (b ≤ a)))) : RD P (bin .geq t x y (.int kd a) (.int kd b)) w K := rd_of (fun w' _ => by simp [bin, eqGuard, binOp, Op.intCmp]) k
theorem rd_eql (k : K (.bool (decide (a = b)))) : RD P (bin .eql t x y (.int kd a) (.int kd b)) w K :=
  rd_of (fun w' _ => by simp [bin, eqGuard, binOp, Op.intCmp]; rfl) k
theorem rd_neq (k : K (.bool (decide (a ≠ b)))) : RD P (bin .neq t x y (.int kd a) (.int kd b)) w K :=
  rd_of (fun w' _ => by simp [bin, eqGuard, binOp, Op.intCmp]; rfl) k
theorem rd_add (h : I64 (a + b)) (k : K (.int .i64 (a + b))) : RD P (bin .add t x y (.int .i64 a) (.int .i64 b)) w K :=
  rd_of (fun w' _ => by simp [bin, eqGuard, binOp, Op.intArith, IntWalk.i64_in _ h]) k
theorem rd_sub (h : I64 (a - b)) (k : K (.int .i64 (a - b))) : RD P (bin .sub t x y (.int .i64 a) (.int .i64 b)) w K :=
  rd_of (fun w' _ => by simp [bin, eqGuard, binOp, Op.intArith, IntWalk.i64_in _ h]) k
theorem rd_mul (h : I64 (a * b)) (k : K (.int .i64 (a * b))) : RD P (bin .mul t x y (.int .i64 a) (.int .i64 b)) w K :=
  rd_of (fun w' _ => by simp [bin, eqGuard, binOp, Op.intArith, IntWalk.i64_in _ h]) k
/-- a counter goes on by one -/
theorem rd_inc {n : Nat} (h : n < 9223372036854775807) (k : K (.int .i64 ((n + 1 : Nat) : Int))) : RD P (bin .add t x y (.int .i64 (n : Int)) (.int .i64 1)) w K :=
  rd_add (by unfold I64; omega) (by simpa using k)
theorem rd_rem (hb : b ≠ 0) (k : K (.int kd (a.tmod b))) : RD P (bin .rem t x y (.int kd a) (.int kd b)) w K :=
  rd_of (fun w' _ => by simp [bin, eqGuard, binOp, Op.intDiv, hb]) k
/-- a bit is set: numbers from 0 on, below 2^62 -/
theorem rd_or {m n : Nat} (hm : m < 4611686018427387904) (hn : n < 4611686018427387904) (k : K (.int .i64 ((m ||| n : Nat) : Int))) : RD P (bin .or t x y (.int .i64 (m : Int)) (.int .i64 (n : Int))) w K := by
  have hlt : m ||| n < 2 ^ 62 := Nat.or_lt_two_pow hm hn
  refine rd_of (fun w' _ => ?_) k
  have e1 : IntKind.i64.wrap ((m ||| n : Nat) : Int) = ((m ||| n : Nat) : Int) := IntWalk.i64_in _ (by omega)
  have e2 : ((BitVec.ofInt 64 (m : Int)) ||| (BitVec.ofInt 64 (n : Int))).toNat = m ||| n := by
    simp only [BitVec.toNat_or, BitVec.ofInt_natCast, BitVec.toNat_ofNat]
    rw [Nat.mod_eq_of_lt (by omega), Nat.mod_eq_of_lt (by omega)]
  show (do eqGuard .or t x y (.int .i64 (m : Int)) (.int .i64 (n : Int)); binOp .or t (.int .i64 (m : Int)) (.int .i64 (n : Int)) : Sem Value).run P w' = _
  simp only [eqGuard, binOp, Op.intBits]
  show Result.ok (Value.int .i64 (IntKind.i64.wrap (((BitVec.ofInt 64 (m : Int)) ||| (BitVec.ofInt 64 (n : Int))).toNat : Nat))) w' = _
  rw [e2, e1]
/-- 1 << n -/
theorem rd_shl1 {n : Nat} {ku : IntKind} (hn : n < 62) (k : K (.int .i64 ((2 ^ n : Nat) : Int))) : RD P (bin .shl t x y (.int .i64 1) (.int ku (n : Int))) w K := by
  refine rd_of (fun w' _ => ?_) k
  have hp : (2 ^ n : Nat) < 4611686018427387904 := Nat.pow_lt_pow_right (by omega) hn
  have e1 : IntKind.i64.wrap ((2 ^ n : Nat) : Int) = ((2 ^ n : Nat) : Int) := by generalize 2 ^ n = q at hp; exact IntWalk.i64_in _ (by omega)
  have e0 : ¬ ((n : Int) < 0) := by omega
  have e2 : min n 64 = n := by omega
  show (do eqGuard .shl t x y (.int .i64 1) (.int ku (n : Int)); binOp .shl t (.int .i64 1) (.int ku (n : Int)) : Sem Value).run P w' = _
  simp only [eqGuard, binOp, Op.shift, e0, if_false, Int.toNat_natCast]
  show Result.ok (Value.int .i64 (IntKind.i64.wrap ((1 : Int) * 2 ^ (min n 64)))) w' = _
  rw [e2, ← e1]
  simp
/-- int(..) of a number that fits: uint -/
theorem rd_uint {src dst : TypeId} {n : Nat} (hs : (P.underlying src).isSome = true) (hd : P.underlying dst = some (.int .u64)) (hn : n < 9223372036854775808) (k : K (.int .u64 (n : Int))) : RD P (convert src dst (.int .i64 (n : Int))) w K := by
  refine rd_of (fun w' _ => ?_) k
  obtain ⟨d, hd'⟩ := Option.isSome_iff_exists.mp hs
  have : IntKind.u64.wrap (n : Int) = n := by simp [IntKind.wrap, IntKind.signed, IntKind.bits]; omega
  simp [convert, run_underlying hd', run_underlying hd, Conv.intToInt, this]
end ints
theorem rd_not {b : Bool} (k : K (.bool (!b))) : RD P (Op.unary .not (.bool b)) w K := rd_of (fun _ _ => rfl) k
theorem rd_nodec {p : Prop} [Decidable p] (k : K (.bool (decide (¬ p)))) : RD P (Op.unary .not (.bool (decide p))) w K :=
  rd_of (fun w' _ => by simp [Op.unary]) k
/-- a slice held against nil -/
theorem rd_slice_nil {t e : TypeId} {x y : Operand} {a : Option Addr} {n c : Nat} (ht : P.underlying t = some (.slice e)) (k : K (.bool a.isNone)) : RD P (bin .eql t x y (.slice a n c) (.slice none 0 0)) w K :=
  rd_of (fun w' _ => by simp only [bin, eqGuard, binOp]; simp [run_equal_slice_nil w' t e a n c ht]) k
theorem rd_extract {vs : Array Value} {i : Nat} {v : Value} (h : vs[i]? = some v) (k : K v) : RD P (Instr.extract (.tuple vs) i) w K :=
  rd_of (fun w' _ => by simp [Instr.extract, h]) k

theorem is_int {v : Value} {x : Int} : Is w v x ↔ v = .int .i64 x ∧ I64 x := by
  constructor
  · rintro ⟨F, cs, ⟨_, rfl, h⟩, rfl⟩; exact ⟨rfl, h⟩
  · rintro ⟨rfl, h⟩; exact ⟨[], _, ⟨rfl, rfl, h⟩, rfl⟩
theorem is_bool {v : Value} {x : Bool} : Is w v x ↔ v = .bool x := by
  constructor
  · rintro ⟨F, cs, ⟨_, rfl⟩, rfl⟩; rfl
  · rintro rfl; exact ⟨[], _, ⟨rfl, rfl⟩, rfl⟩
theorem is_str {v : Value} {x : ByteArray} : Is w v x ↔ v = .string x ∧ x.size ≤ maxLen := by
  constructor
  · rintro ⟨F, cs, ⟨_, rfl, h⟩, rfl⟩; exact ⟨rfl, h⟩
  · rintro ⟨rfl, h⟩; exact ⟨[], _, ⟨rfl, rfl, h⟩, rfl⟩

section strings
/-- the bytes of a text -/
def bts (s : ByteArray) : List UInt8 := s.data.toList
theorem bts_len (s : ByteArray) : (bts s).length = s.size := by simp [bts]
theorem bts_inj {a b : ByteArray} (h : bts a = bts b) : a = b := by
  obtain ⟨⟨x⟩⟩ := a
  obtain ⟨⟨y⟩⟩ := b
  simp only [bts] at h
  rw [h]
instance decMemBA : ∀ (s : ByteArray) (l : List ByteArray), Decidable (s ∈ l)
  | s, [] => isFalse (by simp)
  | s, x :: l => if h : s = x then isTrue (by simp [h]) else match decMemBA s l with
    | isTrue h' => isTrue (by simp [h'])
    | isFalse h' => isFalse (by simp [h, h'])
theorem rd_lenS {t ty : TypeId} {s : ByteArray} (ht : P.underlying t = some .string) (k : K (.int .i64 (s.size : Int))) : RD P (Builtin.len_ #[t] ty [Value.string s].toArray) w K :=
  rd_of (fun w' _ => by simp [Builtin.len_, run_underlying ht]; rfl) k
theorem rd_indexS {t : TypeId} {s : ByteArray} {i : Nat} (ht : P.underlying t = some .string) (hi : i < s.size) (k : K (.int .u8 (((bts s)[i]'(by rw [bts_len]; exact hi)).toNat : Int))) : RD P (Instr.index t (.string s) (.int .i64 (i : Int))) w K := by
  refine rd_of (fun w' _ => ?_) k
  have h1 : s[i]? = some ((bts s)[i]'(by rw [bts_len]; exact hi)) := by
    rw [getElem?_pos s i hi]; rfl
  simp [Instr.index, asIntOf, run_underlying ht, h1]
theorem beq_bts (a b : ByteArray) : (a.toList == b.toList) = decide (a = b) := by
  rw [ByteArray.toList_eq, ByteArray.toList_eq]
  by_cases h : a = b
  · subst h; simp
  · have : ¬ a.data.toList = b.data.toList := fun e => h (bts_inj e)
    simp only [h, decide_false]
    simpa using this
theorem rd_eqlS {t : TypeId} {x y : Operand} {a b : ByteArray} (k : K (.bool (decide (a = b)))) : RD P (bin .eql t x y (.string a) (.string b)) w K :=
  rd_of (fun w' _ => by simp only [bin, eqGuard, binOp, Op.stringOp, beq_bts]; rfl) k
theorem rd_neqS {t : TypeId} {x y : Operand} {a b : ByteArray} (k : K (.bool (decide (a ≠ b)))) : RD P (bin .neq t x y (.string a) (.string b)) w K :=
  rd_of (fun w' _ => by simp only [bin, eqGuard, binOp, Op.stringOp, beq_bts]; simp) k
end strings
section data
variable {α β : Type} [Rep α] [Rep β]
theorem is_list {v : Value} {l : List α} (h : Is w v l) : ∃ a cap Fi xs, v = .slice a l.length cap ∧ l.length ≤ cap ∧ cap ≤ maxLen ∧ Cells Fi w xs l ∧
    (l = [] ∨ ∃ b o, a = some ⟨b, o, none⟩ ∧ w.rangeAt b o xs ∧ b < w.heap.size) := by
  obtain ⟨F, cs, ⟨a, cap, Fi, xs, rfl, h1, h2, h3, h4⟩, rfl⟩ := h
  refine ⟨a, cap, Fi, xs, rfl, h1, h2, h3, ?_⟩
  rcases h4 with ⟨h, _⟩ | ⟨b, o, ha, _, hr, hb⟩
  · exact .inl h
  · exact .inr ⟨b, o, ha, hr, hb⟩
theorem is_len {v : Value} {l : List α} (h : Is w v l) : l.length ≤ 9223372036854775807 := by
  obtain ⟨a, cap, Fi, xs, _, h1, h2, _⟩ := is_list h
  rw [maxLen_eq] at h2; omega
theorem is_nil {v : Value} (h : v = .slice none 0 0) : Is w v ([] : List α) := by
  subst h; exact ⟨[], _, ⟨none, 0, [], [], rfl, Nat.le_refl _, Nat.zero_le _, ⟨rfl, rfl⟩, .inl ⟨rfl, rfl⟩⟩, rfl⟩
theorem own_nil {lo : Nat} {v : Value} (h : v = .slice none 0 0) : Own lo w v ([] : List α) := by
  subst h; exact ⟨[], ⟨⟨_, ⟨none, 0, [], [], rfl, Nat.le_refl _, Nat.zero_le _, ⟨rfl, rfl⟩, .inl ⟨rfl, rfl⟩⟩, rfl⟩, List.nodup_nil, Wr.nil w⟩, by simp⟩

theorem rd_len {t ty e : TypeId} {v : Value} {l : List α} (ht : P.underlying t = some (.slice e)) (h : Is w0 v l) (k : K (.int .i64 (l.length : Int))) :
    RD P (Builtin.len_ #[t] ty [v].toArray) w K := by
  obtain ⟨a, cap, Fi, xs, rfl, _⟩ := is_list h
  exact rd_of (fun w' _ => by simp [Builtin.len_, run_underlying ht]; rfl) k
theorem rd_len_nil {t ty e : TypeId} (ht : P.underlying t = some (.slice e)) (k : K (.int .i64 0)) : RD P (Builtin.len_ #[t] ty [Value.slice none 0 0].toArray) w K :=
  rd_of (fun w' _ => by simp [Builtin.len_, run_underlying ht]; rfl) k

theorem rangeAt_append {b o : Nat} {x y : List Value} (h : w.rangeAt b o (x ++ y)) : w.rangeAt b o x ∧ w.rangeAt b (o + x.length) y := by
  refine ⟨fun j v hv => h j v ?_, fun j v hv => ?_⟩
  · rw [List.getElem?_append_left (List.getElem?_eq_some_iff.1 hv).1]; exact hv
  · have := h (x.length + j) v (by rw [List.getElem?_append_right (by omega)]; simpa using hv)
    rwa [← Nat.add_assoc] at this
theorem rangeAt_join {b o : Nat} {x y : List Value} (h : w.rangeAt b o x) (k : w.rangeAt b (o + x.length) y) : w.rangeAt b o (x ++ y) := by
  intro j v hv
  rcases Nat.lt_or_ge j x.length with hj | hj
  · rw [List.getElem?_append_left hj] at hv; exact h j v hv
  · rw [List.getElem?_append_right hj] at hv
    have := k (j - x.length) v hv
    rwa [show o + x.length + (j - x.length) = o + j by omega] at this
theorem Cells.at {F : List Nat} {xs : List Value} {l : List α} {b o i : Nat} (h : Cells F w xs l) (hr : w.rangeAt b o xs) (hi : i < l.length) : At w b (o + i * Rep.size α) l[i] := by
  have e : l = l.take i ++ (l[i] :: l.drop (i + 1)) := by simp
  rw [e] at h
  obtain ⟨F1, F2, x1, x2, rfl, rfl, h1, h2⟩ := Cells.split h
  obtain ⟨G1, G2, c1, c2, rfl, rfl, k1, k2⟩ := h2
  have hl : x1.length = i * Rep.size α := by rw [Cells.len h1, List.length_take]; congr 1; omega
  have := rangeAt_append (rangeAt_append hr).2
  rw [hl] at this
  exact ⟨G1, c1, k1, this.1⟩

/-- size (in cells), bytes, whether it is a struct or array -/
def tyI (P : Program) (t : TypeId) : Option (Nat × Nat × Bool) :=
  match P.info? t, P.underlying t with
  | some i, some d => some (i.size, i.bytes, d.isRow)
  | _, _ => none
theorem tyI_info {t s by_ : Nat} {g : Bool} (h : tyI P t = some (s, by_, g)) : ∃ i d, P.info? t = some i ∧ P.underlying t = some d ∧ i.size = s ∧ i.bytes = by_ ∧ d.isRow = g := by
  unfold tyI at h
  cases hi : P.info? t with
  | none => simp [hi] at h
  | some i =>
    cases hd : P.underlying t with
    | none => simp [hi, hd] at h
    | some d => simp only [hi, hd, Option.some.injEq, Prod.mk.injEq] at h; exact ⟨i, d, rfl, rfl, h.1, h.2.1, h.2.2⟩
theorem run_sizeOf' {t s by_ : Nat} {g : Bool} (h : tyI P t = some (s, by_, g)) (w : World) : (sizeOf t).run P w = .ok s w := by
  obtain ⟨i, d, hi, hd, hs, _⟩ := tyI_info h
  simp [sizeOf, typeInfo, hi, hs]
theorem run_isAgg {t s by_ : Nat} {g : Bool} (h : tyI P t = some (s, by_, g)) (w : World) : (isAgg t).run P w = .ok g w := by
  obtain ⟨i, d, hi, hd, hs, _, hg⟩ := tyI_info h
  unfold isAgg
  rw [Sem.run_bind, run_underlying hd w]
  cases d <;> subst hg <;> simp

theorem run_indexAt' {t e : TypeId} {b o n cap s by_ : Nat} {g : Bool} {i : Int} (ht : P.underlying t = some (.slice e)) (he : tyI P e = some (s, by_, g)) (h0 : 0 ≤ i) (h1 : i < n) (w : World) :
    (Instr.indexAt t (.slice (some ⟨b, o, none⟩) n cap) (.int .i64 i)).run P w = .ok (.pointer (some ⟨b, o + i.toNat * s, none⟩)) w := by
  simp [Instr.indexAt, run_underlying ht, asIntOf, h0, h1, run_sizeOf' he, Addr.add_mid]
theorem rd_index {t e : TypeId} {by_ : Nat} {v : Value} {l : List α} {i : Int} (ht : P.underlying t = some (.slice e)) (he : tyI P e = some (Rep.size α, by_, Rep.agg α)) (h : Is w0 v l) (h0 : 0 ≤ i) (h1 : i.toNat < l.length)
    (k : ∀ b o, At w0 b o (l[i.toNat]'h1) → K (.pointer (some ⟨b, o, none⟩))) : RD P (Instr.indexAt t v (.int .i64 i)) w K := by
  obtain ⟨a, cap, Fi, xs, rfl, _, _, hc, hh⟩ := is_list h
  rcases hh with rfl | ⟨b, o, rfl, hr, hb⟩
  · simp at h1
  · exact rd_of (fun w' _ => run_indexAt' ht he h0 (by omega) w') (k _ _ (Cells.at hc hr h1))
theorem rd_indexN {t e : TypeId} {by_ : Nat} {v : Value} {l : List α} {i : Nat} (ht : P.underlying t = some (.slice e)) (he : tyI P e = some (Rep.size α, by_, Rep.agg α)) (h : Is w0 v l) (h1 : i < l.length)
    (k : ∀ b o, At w0 b o l[i] → K (.pointer (some ⟨b, o, none⟩))) : RD P (Instr.indexAt t v (.int .i64 (i : Int))) w K :=
  rd_index ht he h (by omega) (by simpa using h1) (fun b o hA => k b o (by simpa using hA))

theorem run_loadAt' {t by_ b o : Nat} {F : List Nat} {cs : List Value} {x : α} (ht : tyI P t = some (Rep.size α, by_, Rep.agg α)) (hr : rep F w cs x) (hc : w.rangeAt b o cs) :
    (Instr.loadAt t (.pointer (some ⟨b, o, none⟩))).run P w = .ok (mkv α cs) w := by
  obtain ⟨i, d, hi, hd, hs, _, hg⟩ := tyI_info ht
  have hl := Rep.len hr
  cases hag : Rep.agg α with
  | true =>
    rw [run_loadAt_mid w b o t cs d hc hd (by rw [hg, hag]) (by simp [hi, hs, hl])]
    simp [mkv, hag]
  | false =>
    have h1 := Rep.sz hag
    rw [h1] at hl
    obtain ⟨c, rfl⟩ := List.length_eq_one_iff.1 hl
    have h0 : w.cell? ⟨b, o, none⟩ = some c := by simpa using hc 0 c rfl
    have hA := run_isAgg ht w
    rw [hag] at hA
    simp [Instr.loadAt, Instr.sureAddr, loadVar, hA, h0, mkv, hag]
theorem rd_load {t by_ b o : Nat} {x : α} (ht : tyI P t = some (Rep.size α, by_, Rep.agg α)) (h : At w0 b o x) (hx : Ext w0 w) (k : ∀ v, Is w0 v x → K v) :
    RD P (Instr.loadAt t (.pointer (some ⟨b, o, none⟩))) w K := by
  obtain ⟨F, cs, hr, hc⟩ := h
  exact rd_of (fun w' hx' => run_loadAt' ht (rep_ext hr (hx.trans hx')) (rangeAt_ext hc (hx.trans hx'))) (k _ ⟨F, cs, hr, rfl⟩)
theorem rd_loadE {t by_ b o : Nat} {F : List Nat} {cs : List Value} {x : α} (ht : tyI P t = some (Rep.size α, by_, Rep.agg α)) (hr : rep F w cs x) (hc : w.rangeAt b o cs) (k : K (mkv α cs)) :
    RD P (Instr.loadAt t (.pointer (some ⟨b, o, none⟩))) w K :=
  rd_of (fun w' hx' => run_loadAt' ht (rep_ext hr hx') (rangeAt_ext hc hx')) k
theorem rd_loadI {t by_ b o : Nat} {x : Int} (ht : tyI P t = some (1, by_, false)) (h : At w0 b o x) (hx : Ext w0 w) (k : I64 x → K (.int .i64 x)) :
    RD P (Instr.loadAt t (.pointer (some ⟨b, o, none⟩))) w K :=
  rd_load (α := Int) ht h hx fun v hv => by obtain ⟨rfl, h⟩ := is_int.1 hv; exact k h
theorem rd_loadS {t by_ b o : Nat} {x : ByteArray} (ht : tyI P t = some (1, by_, false)) (h : At w0 b o x) (hx : Ext w0 w) (k : x.size ≤ maxLen → K (.string x)) :
    RD P (Instr.loadAt t (.pointer (some ⟨b, o, none⟩))) w K :=
  rd_load (α := ByteArray) ht h hx fun v hv => by obtain ⟨rfl, h⟩ := is_str.1 hv; exact k h
theorem rd_loadB {t by_ b o : Nat} {x : Bool} (ht : tyI P t = some (1, by_, false)) (h : At w0 b o x) (hx : Ext w0 w) (k : K (.bool x)) :
    RD P (Instr.loadAt t (.pointer (some ⟨b, o, none⟩))) w K :=
  rd_load (α := Bool) ht h hx fun v hv => by obtain rfl := is_bool.1 hv; exact k

theorem rd_loadR {t by_ b o : Nat} {x : α} (ht : tyI P t = some (Rep.size α, by_, Rep.agg α)) (h : At w0 b o x) (hx : Ext w0 w) (k : ∀ v, Is w0 v x → K v) :
    RD P (loadRes t (.pointer (some ⟨b, o, none⟩))) w K := by
  obtain ⟨F, cs, hr, hc⟩ := h
  refine rd_of (fun w' hx' => ?_) (k _ ⟨F, cs, hr, rfl⟩)
  have := run_loadAt' ht (rep_ext hr (hx.trans hx')) (rangeAt_ext hc (hx.trans hx'))
  simpa [loadRes, asAddr, Instr.loadAt, Instr.sureAddr] using this
theorem rd_loadRE {t by_ b o : Nat} {F : List Nat} {cs : List Value} {x : α} (ht : tyI P t = some (Rep.size α, by_, Rep.agg α)) (hr : rep F w cs x) (hc : w.rangeAt b o cs) (k : K (mkv α cs)) :
    RD P (loadRes t (.pointer (some ⟨b, o, none⟩))) w K := by
  refine rd_of (fun w' hx' => ?_) k
  have := run_loadAt' ht (rep_ext hr hx') (rangeAt_ext hc hx')
  simpa [loadRes, asAddr, Instr.loadAt, Instr.sureAddr] using this
/-- where a field lies -/
def fldB (P : Program) (t : TypeId) (i : Nat) : Option Nat :=
  match P.underlying t with
  | some (.struct fs) => match fs[i]? with
    | some f => match P.info? f.type with
      | some j => bif Nat.beq j.size 0 then none else some f.offset
      | none => none
    | none => none
  | _ => none
theorem rd_fld {t i off b o : Nat} (hf : fldB P t i = some off) (k : K (.pointer (some ⟨b, o + off, none⟩))) : RD P (Instr.fieldAt t (.pointer (some ⟨b, o, none⟩)) i) w K := by
  refine rd_of (fun w' _ => ?_) k
  unfold fldB at hf
  cases hu : P.underlying t with
  | none => simp [hu] at hf
  | some d =>
    cases d with
    | struct fs =>
      simp only [hu] at hf
      cases hfi : fs[i]? with
      | none => simp [hfi] at hf
      | some f =>
        simp only [hfi] at hf
        cases hin : P.info? f.type with
        | none => simp [hin] at hf
        | some j =>
          simp only [hin] at hf
          cases hb : Nat.beq j.size 0 with
          | true => simp [hb] at hf
          | false =>
            simp only [hb, cond_false, Option.some.injEq] at hf
            have hne : ¬ j.size = 0 := fun e => by rw [e] at hb; cases hb
            subst hf
            simp [Instr.fieldAt, run_underlying hu, hfi, Instr.sureAddr, fieldPlace, sizeOf, typeInfo, hin, hne, Addr.add_mid]
    | _ => simp [hu] at hf
theorem at_fst {b o : Nat} {p : α × β} (h : At w b o p) : At w b o p.1 := by
  obtain ⟨F, cs, ⟨F1, F2, c1, c2, rfl, rfl, h1, h2⟩, hr⟩ := h
  exact ⟨F1, c1, h1, (rangeAt_append hr).1⟩
theorem at_snd {b o : Nat} {p : α × β} (h : At w b o p) : At w b (o + Rep.size α) p.2 := by
  obtain ⟨F, cs, ⟨F1, F2, c1, c2, rfl, rfl, h1, h2⟩, hr⟩ := h
  have := (rangeAt_append hr).2
  rw [Rep.len h1] at this
  exact ⟨F2, c2, h2, this⟩
/-- s[k:] -/
theorem is_drop {a : Option Addr} {cap : Nat} {l : List α} (h : Is w (.slice a l.length cap) l) (k : Nat) (hk : k ≤ l.length) (s : Nat) (hs : s = Rep.size α) :
    Is w (.slice (if cap = k then a else a.map (·.add (k * s))) (l.length - k) (cap - k)) (l.drop k) := by
  subst hs
  obtain ⟨F, cs, ⟨a', cap', Fi, xs, rfl, h1, h2, hc, h4⟩, hv⟩ := h
  simp only [mkv, Rep.agg, cond_false, List.headD_cons, Value.slice.injEq] at hv
  obtain ⟨rfl, _, rfl⟩ := hv
  have e : l = l.take k ++ l.drop k := by simp
  have hlen : (l.drop k).length = l.length - k := by simp
  rw [e] at hc
  obtain ⟨F1, F2, x1, x2, rfl, rfl, c1, c2⟩ := Cells.split hc
  have hx1 : x1.length = k * Rep.size α := by rw [Cells.len c1, List.length_take]; congr 1; omega
  by_cases hd : l.drop k = []
  · refine ⟨[], _, ⟨if cap = k then a else a.map (·.add (k * Rep.size α)), cap - k, F2, x2, rfl, by rw [hlen]; omega, by omega, c2, .inl ⟨hd, rfl⟩⟩, ?_⟩
    rw [← hlen]; rfl
  · have hlt : k < l.length := by
      rcases Nat.lt_or_ge k l.length with h' | h'
      · exact h'
      · exact absurd (List.drop_eq_nil_iff.2 h') hd
    rcases h4 with ⟨rfl, _⟩ | ⟨b, o, rfl, rfl, hr, hb⟩
    · simp at hlt
    · have hr2 := (rangeAt_append hr).2
      rw [hx1] at hr2
      refine ⟨_, _, ⟨_, cap - k, F2, x2, rfl, by rw [hlen]; omega, by omega, c2, .inr ⟨b, o + k * Rep.size α, rfl, rfl, hr2, hb⟩⟩, ?_⟩
      rw [if_neg (by omega), ← hlen]
      simp only [Option.map_some, Addr.add_mid]
      rfl
theorem rd_slice_from {t e : TypeId} {by_ : Nat} {v : Value} {l : List α} {i : Int} (ht : P.underlying t = some (.slice e)) (he : tyI P e = some (Rep.size α, by_, Rep.agg α)) (h : Is w0 v l) (h0 : 0 ≤ i) (h1 : i.toNat ≤ l.length)
    (k : ∀ v', Is w0 v' (l.drop i.toNat) → K v') : RD P (Instr.sliceAt t v (some (.int .i64 i)) none none) w K := by
  obtain ⟨a, cap, Fi, xs, rfl, hc1, _, _⟩ := is_list h
  refine rd_of (v := .slice (if cap = i.toNat then a else a.map (·.add (i.toNat * Rep.size α))) (l.length - i.toNat) (cap - i.toNat)) (fun w' _ => ?_) (k _ (is_drop h i.toNat h1 _ rfl))
  have hb : (Instr.sliceBounds true l.length cap (some (.int .i64 i)) none none).run P w' = .ok (i.toNat, l.length, cap) w' := by
    have : i ≤ (l.length : Int) := by omega
    simp [Instr.sliceBounds, Instr.sliceBound, asIntOf, h0, this]
  simp [Instr.sliceAt, Instr.slice, run_underlying ht, hb, run_sizeOf' he]
end data
end
end Go.Sh
