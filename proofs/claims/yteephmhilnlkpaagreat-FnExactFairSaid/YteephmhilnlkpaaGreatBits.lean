/-
  Bits of numbers.
-/
import Derived.Test.YteephmhilnlkpaaGreatMk
namespace Go.Sh
set_option linter.unusedVariables false
set_option linter.unusedSimpArgs false

/-- the bits of m that are not in n -/
def andN (m n : Nat) : Nat := Nat.bitwise (fun a b => a && !b) m n
theorem andN_bit (m n i : Nat) : (andN m n).testBit i = (m.testBit i && !n.testBit i) := Nat.testBit_bitwise rfl m n i
theorem andN_le (m n : Nat) : andN m n ≤ m := Nat.le_of_testBit fun i h => by rw [andN_bit] at h; simp at h; exact h.1
section
variable {P : Program} {w : World} {K : Value → Prop} {t : TypeId} {x y : Operand}
theorem rd_and {m n : Nat} (hm : m < 4611686018427387904) (hn : n < 4611686018427387904) (k : K (.int .i64 ((m &&& n : Nat) : Int))) : RD P (bin .and t x y (.int .i64 (m : Int)) (.int .i64 (n : Int))) w K := by
  have hlt : m &&& n ≤ m := Nat.and_le_left
  refine rd_of (fun w' _ => ?_) k
  have e1 : IntKind.i64.wrap ((m &&& n : Nat) : Int) = ((m &&& n : Nat) : Int) := IntWalk.i64_in _ (by omega)
  have e2 : ((BitVec.ofInt 64 (m : Int)) &&& (BitVec.ofInt 64 (n : Int))).toNat = m &&& n := by
    simp only [BitVec.toNat_and, BitVec.ofInt_natCast, BitVec.toNat_ofNat]
    rw [Nat.mod_eq_of_lt (by omega), Nat.mod_eq_of_lt (by omega)]
  show (do eqGuard .and t x y (.int .i64 (m : Int)) (.int .i64 (n : Int)); binOp .and t (.int .i64 (m : Int)) (.int .i64 (n : Int)) : Sem Value).run P w' = _
  simp only [eqGuard, binOp, Op.intBits]
  show Result.ok (Value.int .i64 (IntKind.i64.wrap (((BitVec.ofInt 64 (m : Int)) &&& (BitVec.ofInt 64 (n : Int))).toNat : Nat))) w' = _
  rw [e2, e1]
theorem rd_andNot {m n : Nat} (hm : m < 4611686018427387904) (hn : n < 4611686018427387904) (k : K (.int .i64 ((andN m n : Nat) : Int))) : RD P (bin .andNot t x y (.int .i64 (m : Int)) (.int .i64 (n : Int))) w K := by
  have hlt : andN m n ≤ m := andN_le m n
  refine rd_of (fun w' _ => ?_) k
  have e1 : IntKind.i64.wrap ((andN m n : Nat) : Int) = ((andN m n : Nat) : Int) := IntWalk.i64_in _ (by omega)
  have e2 : ((BitVec.ofInt 64 (m : Int)) &&& ~~~(BitVec.ofInt 64 (n : Int))).toNat = andN m n := by
    apply Nat.eq_of_testBit_eq
    intro i
    have hm64 : m < 2 ^ 64 := by omega
    have hn64 : n < 2 ^ 64 := by omega
    simp only [BitVec.testBit_toNat, BitVec.getLsbD_and, BitVec.getLsbD_not, BitVec.ofInt_natCast, BitVec.getLsbD_ofNat, andN_bit]
    by_cases hi : i < 64
    · simp [hi]
    · have : m.testBit i = false := Nat.testBit_lt_two_pow (Nat.lt_of_lt_of_le hm64 (Nat.pow_le_pow_right (by omega) (by omega)))
      simp [hi, this]
  show (do eqGuard .andNot t x y (.int .i64 (m : Int)) (.int .i64 (n : Int)); binOp .andNot t (.int .i64 (m : Int)) (.int .i64 (n : Int)) : Sem Value).run P w' = _
  simp only [eqGuard, binOp, Op.intBits]
  show Result.ok (Value.int .i64 (IntKind.i64.wrap (((BitVec.ofInt 64 (m : Int)) &&& ~~~(BitVec.ofInt 64 (n : Int))).toNat : Nat))) w' = _
  rw [e2, e1]
theorem rd_shr {m n : Nat} {ku : IntKind} (hm : m < 4611686018427387904) (k : K (.int .i64 ((m >>> n : Nat) : Int))) : RD P (bin .shr t x y (.int .i64 (m : Int)) (.int ku (n : Int))) w K := by
  refine rd_of (fun w' _ => ?_) k
  have e0 : ¬ ((n : Int) < 0) := by omega
  have e1 : (m : Int).fdiv (2 ^ (min n 64)) = ((m >>> n : Nat) : Int) := by
    rw [Nat.shiftRight_eq_div_pow]
    have h2 : ((2 : Int) ^ (min n 64)) = ((2 ^ (min n 64) : Nat) : Int) := by simp
    rw [h2, Int.fdiv_eq_ediv_of_nonneg _ (Int.natCast_nonneg _), ← Int.natCast_ediv]
    by_cases h : n ≤ 64
    · rw [Nat.min_eq_left h]
    · rw [Nat.min_eq_right (by omega), Nat.div_eq_of_lt (by omega), Nat.div_eq_of_lt (Nat.lt_of_lt_of_le (by omega : m < 2 ^ 64) (Nat.pow_le_pow_right (by omega) (by omega)))]
  show (do eqGuard .shr t x y (.int .i64 (m : Int)) (.int ku (n : Int)); binOp .shr t (.int .i64 (m : Int)) (.int ku (n : Int)) : Sem Value).run P w' = _
  simp only [eqGuard, binOp, Op.shift, e0, if_false, Int.toNat_natCast]
  show Result.ok (Value.int .i64 ((m : Int).fdiv (2 ^ (min n 64)))) w' = _
  rw [e1]
end
/-- the bits of a number below k, rising -/
def bitsTo (m : Nat) : Nat → List Int
  | 0 => []
  | k + 1 => if m.testBit k then bitsTo m k ++ [(k : Int)] else bitsTo m k
theorem bitsTo_len (m : Nat) : ∀ k, (bitsTo m k).length ≤ k
  | 0 => Nat.le_refl _
  | k + 1 => by
    have := bitsTo_len m k
    rw [bitsTo]
    split
    · simp; omega
    · omega
theorem bitsTo_past {m k : Nat} (h : m < 2 ^ k) : ∀ {j : Nat}, k ≤ j → bitsTo m j = bitsTo m k
  | 0, hj => by rw [Nat.le_zero.1 hj]
  | j + 1, hj => by
    by_cases e : k = j + 1
    · rw [e]
    · rw [bitsTo, if_neg, bitsTo_past h (by omega)]
      rw [Nat.testBit_lt_two_pow (Nat.lt_of_lt_of_le h (Nat.pow_le_pow_right (by omega) (by omega)))]
      simp
def bitsL (m : Nat) : List Int := bitsTo m 64
theorem bitsL_eq {m k : Nat} (h : m < 2 ^ k) (hk : k ≤ 64) : bitsL m = bitsTo m k := bitsTo_past h hk
theorem mem_bitsTo {m : Nat} {x : Int} : ∀ {k : Nat}, x ∈ bitsTo m k ↔ ∃ i, i < k ∧ x = (i : Int) ∧ m.testBit i = true
  | 0 => by simp [bitsTo]
  | k + 1 => by
    rw [bitsTo]
    constructor
    · intro h
      split at h
      · rename_i hb
        rcases List.mem_append.1 h with h | h
        · obtain ⟨i, h1, h2, h3⟩ := mem_bitsTo.1 h; exact ⟨i, by omega, h2, h3⟩
        · simp at h; exact ⟨k, by omega, h, hb⟩
      · obtain ⟨i, h1, h2, h3⟩ := mem_bitsTo.1 h; exact ⟨i, by omega, h2, h3⟩
    · rintro ⟨i, h1, h2, h3⟩
      by_cases e : i = k
      · subst e; rw [if_pos h3]; simp [h2]
      · have := (mem_bitsTo (m := m) (x := x) (k := k)).2 ⟨i, by omega, h2, h3⟩
        split
        · simp [this]
        · exact this
theorem bit_and (m i : Nat) : decide (((m >>> i &&& 1 : Nat) : Int) = 1) = m.testBit i := by
  have h : m >>> i &&& 1 = (m.testBit i).toNat := by
    rw [Nat.and_one_is_mod, Nat.testBit_eq_decide_div_mod_eq, Nat.shiftRight_eq_div_pow]
    rcases Nat.mod_two_eq_zero_or_one (m / 2 ^ i) with h | h <;> simp [h]
  rw [h]
  cases m.testBit i <;> rfl
theorem bit_and2 (m i : Nat) : decide (((m &&& 2 ^ i : Nat) : Int) ≠ 0) = m.testBit i := by
  have hp : 0 < 2 ^ i := Nat.pow_pos (by omega)
  cases hb : m.testBit i with
  | false =>
    have : m &&& 2 ^ i = 0 := by
      apply Nat.eq_of_testBit_eq
      intro j
      rw [Nat.testBit_and, Nat.testBit_two_pow]
      by_cases e : i = j
      · subst e; simp [hb]
      · simp [e]
    simp [this]
  | true =>
    have : m &&& 2 ^ i ≠ 0 := fun e => by
      have := congrArg (·.testBit i) e
      simp [Nat.testBit_and, Nat.testBit_two_pow, hb] at this
    simp only [ne_eq, decide_eq_true_eq]
    omega
theorem shr_zero {m i : Nat} : m >>> i = 0 ↔ m < 2 ^ i := by
  rw [Nat.shiftRight_eq_div_pow, Nat.div_eq_zero_iff]
  have : ¬ (2 ^ i = 0) := by have : 0 < 2 ^ i := Nat.pow_pos (by omega); omega
  simp [this]
end Go.Sh
