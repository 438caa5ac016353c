/-
  Parts of the proof, put together by program.
-/
import Derived.Test.YtjgfldfbljmhhaaGreatPRacesOf3
namespace Go.Sh
set_option linter.unusedVariables false
def ints (l : List Nat) : List Int := l.map fun x : Nat => (x : Int)
theorem ints_len (l : List Nat) : (ints l).length = l.length := by simp [ints]
theorem ints_get {l : List Nat} {i : Nat} (h : i < (ints l).length) : (ints l)[i] = ((l[i]'(by rw [← ints_len]; exact h) : Nat) : Int) := by simp [ints]
theorem ints_append (l m : List Nat) : ints (l ++ m) = ints l ++ ints m := by simp [ints]
theorem ints_take (l : List Nat) (k : Nat) : ints (l.take k) = (ints l).take k := by simp [ints]
def mkd (ms : List Bool) (i : Nat) : Prop := ms.getD i false = true
theorem mkd_get {ms : List Bool} {i : Nat} (h : i < ms.length) : mkd ms i ↔ ms[i] = true := by
 unfold mkd; rw [List.getD_eq_getElem?_getD, List.getElem?_eq_getElem h]; rfl
theorem mkd_lt {ms : List Bool} {i : Nat} (h : mkd ms i) : i < ms.length := by
 rcases Nat.lt_or_ge i ms.length with h' | h'
 · exact h'
 · unfold mkd at h; rw [List.getD_eq_getElem?_getD, List.getElem?_eq_none h'] at h; cases h
theorem mkd_set {ms : List Bool} {i j : Nat} (hi : i < ms.length) : mkd (ms.set i true) j ↔ mkd ms j ∨ j = i := by
 unfold mkd
 rw [List.getD_eq_getElem?_getD, List.getD_eq_getElem?_getD, List.getElem?_set]
 by_cases h : i = j
 · subst h; simp [hi]
 · have : ¬ j = i := fun e => h e.symm
   simp [h, this]
theorem mkd_replicate {n i : Nat} : ¬ mkd (List.replicate n false) i := by
 unfold mkd
 rw [List.getD_eq_getElem?_getD, List.getElem?_replicate]
 split <;> simp
theorem marks_ext {ms ns : List Bool} (hl : ms.length = ns.length) (h : ∀ i, i < ms.length → (mkd ms i ↔ mkd ns i)) : ms = ns := by
 refine List.ext_getElem hl fun i h1 h2 => ?_
 have := h i h1
 rw [mkd_get h1, mkd_get h2] at this
 cases e1 : ms[i] <;> cases e2 : ns[i] <;> simp_all
def cntM (ms : List Bool) : Nat := ms.count true
theorem cntM_le (ms : List Bool) : cntM ms ≤ ms.length := List.count_le_length
theorem cntM_set : ∀ {ms : List Bool} {i : Nat}, i < ms.length → ¬ mkd ms i → cntM (ms.set i true) = cntM ms + 1
 | b :: ms, 0, _, h => by
   have : b = false := by cases b <;> simp_all [mkd]
   subst this
   simp [cntM]
 | b :: ms, i + 1, hi, h => by
   have ih := cntM_set (ms := ms) (i := i) (by simpa using hi) (by simpa [mkd] using h)
   simp only [cntM, List.set_cons_succ, List.count_cons] at ih ⊢
   omega
inductive RP (nx : Nat → List Nat) (a : Nat) : Nat → Prop
 | one {b : Nat} (h : b ∈ nx a) : RP nx a b
 | more {b d : Nat} (h : RP nx a b) (k : d ∈ nx b) : RP nx a d
theorem RP.trans {nx : Nat → List Nat} {a b d : Nat} (h : RP nx a b) (k : RP nx b d) : RP nx a d := by
 induction k with
 | one h1 => exact .more h h1
 | more _ h2 ih => exact .more ih h2
theorem RP.keeps {nx : Nat → List Nat} {p : Nat → Prop} {a b : Nat} (h : RP nx a b) (ha : p a) (hp : ∀ i j, p i → j ∈ nx i → p j) : p b := by
 induction h with
 | one h => exact hp _ _ ha h
 | more _ h ih => exact hp _ _ ih h
structure SInv (nx : Nat → List Nat) (n a : Nat) (M0 ms : List Bool) (td : List Nat) (k : Nat) : Prop where
 len : ms.length = n
 sub : ∀ i, mkd M0 i → mkd ms i
 src : ∀ i, mkd ms i → mkd M0 i ∨ RP nx a i
 tdo : ∀ i ∈ td, (i = a ∨ RP nx a i) ∧ i < n
 clo : ∀ i, (i = a ∨ (mkd ms i ∧ ¬ mkd M0 i)) → i ∈ td ∨ ∀ j ∈ nx i, mkd ms j
 cnt : td.length + k + cntM M0 = 1 + cntM ms
structure SIn2 (nx : Nat → List Nat) (n a : Nat) (M0 ms : List Bool) (td : List Nat) (k x q : Nat) : Prop where
 len : ms.length = n
 sub : ∀ i, mkd M0 i → mkd ms i
 src : ∀ i, mkd ms i → mkd M0 i ∨ RP nx a i
 tdo : ∀ i ∈ td, (i = a ∨ RP nx a i) ∧ i < n
 clo : ∀ i, (i = a ∨ (mkd ms i ∧ ¬ mkd M0 i)) → i ∈ td ∨ (i = x ∧ ∀ j ∈ (nx x).take q, mkd ms j) ∨ ∀ j ∈ nx i, mkd ms j
 cnt : td.length + k + 1 + cntM M0 = 1 + cntM ms
 met : x = a ∨ RP nx a x
section
variable {nx : Nat → List Nat} {n a k x q : Nat} {M0 ms : List Bool} {td td' : List Nat}
theorem SInv.start (hl : M0.length = n) (ha : a < n) : SInv nx n a M0 M0 [a] 0 :=
 ⟨hl, fun _ h => h, fun _ h => .inl h, fun i hi => by simp only [List.mem_cons, List.not_mem_nil, or_false] at hi; exact ⟨.inl hi, hi ▸ ha⟩, fun i hi => by
   rcases hi with rfl | ⟨h1, h2⟩
   · exact .inl (by simp)
   · exact absurd h1 h2, by simp⟩
theorem SInv.bound (h : SInv nx n a M0 ms td k) : td.length + k ≤ 1 + n := by
 have h1 := h.cnt
 have h2 := cntM_le ms
 rw [h.len] at h2
 omega
theorem SInv.pop (h : SInv nx n a M0 ms td k) (hm : ∀ i, i ∈ td ↔ i ∈ td' ∨ i = x) (hl : td.length = td'.length + 1) : SIn2 nx n a M0 ms td' k x 0 :=
 ⟨h.len, h.sub, h.src, fun i hi => h.tdo i ((hm i).2 (.inl hi)), fun i hi => by
   rcases h.clo i hi with h1 | h1
   · rcases (hm i).1 h1 with h1 | rfl
     · exact .inl h1
     · exact .inr (.inl ⟨rfl, by simp⟩)
   · exact .inr (.inr h1), by have := h.cnt; omega, (h.tdo x ((hm x).2 (.inr rfl))).1⟩
theorem SIn2.skip (h : SIn2 nx n a M0 ms td k x q) (hq : q < (nx x).length) (hmk : mkd ms (nx x)[q]) : SIn2 nx n a M0 ms td k x (q + 1) :=
 ⟨h.len, h.sub, h.src, h.tdo, fun i hi => by
   rcases h.clo i hi with h1 | ⟨rfl, h1⟩ | h1
   · exact .inl h1
   · refine .inr (.inl ⟨rfl, fun j hj => ?_⟩)
     rw [List.take_succ_eq_append_getElem hq] at hj
     rcases List.mem_append.1 hj with hj | hj
     · exact h1 j hj
     · simp only [List.mem_cons, List.not_mem_nil, or_false] at hj
       rw [hj]; exact hmk
   · exact .inr (.inr h1), h.cnt, h.met⟩
theorem SIn2.push (h : SIn2 nx n a M0 ms td k x q) (hq : q < (nx x).length) (hn : (nx x)[q] < n) (hmk : ¬ mkd ms (nx x)[q]) : SIn2 nx n a M0 (ms.set (nx x)[q] true) (td ++ [(nx x)[q]]) k x (q + 1) := by
 have hs := fun j => mkd_set (ms := ms) (i := (nx x)[q]) (j := j) (by rw [h.len]; exact hn)
 have hr : RP nx a (nx x)[q] := by
   rcases h.met with e | e
   · exact .one (e ▸ List.getElem_mem hq)
   · exact .more e (List.getElem_mem hq)
 refine ⟨by simp [h.len], fun i hi => (hs i).2 (.inl (h.sub i hi)), fun i hi => ?_, fun i hi => ?_, fun i hi => ?_, ?_, h.met⟩
 · rcases (hs i).1 hi with h1 | h1
   · exact h.src i h1
   · exact .inr (h1 ▸ hr)
 · rcases List.mem_append.1 hi with h1 | h1
   · exact h.tdo i h1
   · simp only [List.mem_cons, List.not_mem_nil, or_false] at h1
     exact ⟨.inr (h1 ▸ hr), h1 ▸ hn⟩
 · have hi' : i = (nx x)[q] ∨ (i = a ∨ (mkd ms i ∧ ¬ mkd M0 i)) := by
     rcases hi with h1 | ⟨h1, h2⟩
     · exact .inr (.inl h1)
     · rcases (hs i).1 h1 with h1 | h1
       · exact .inr (.inr ⟨h1, h2⟩)
       · exact .inl h1
   rcases hi' with h1 | h1
   · exact .inl (List.mem_append_right _ (by simp [h1]))
   · rcases h.clo i h1 with h1 | ⟨rfl, h1⟩ | h1
     · exact .inl (List.mem_append_left _ h1)
     · refine .inr (.inl ⟨rfl, fun j hj => ?_⟩)
       rw [List.take_succ_eq_append_getElem hq] at hj
       rcases List.mem_append.1 hj with hj | hj
       · exact (hs j).2 (.inl (h1 j hj))
       · simp only [List.mem_cons, List.not_mem_nil, or_false] at hj
         exact (hs j).2 (.inr hj)
     · exact .inr (.inr fun j hj => (hs j).2 (.inl (h1 j hj)))
 · have := h.cnt
   rw [cntM_set (by rw [h.len]; exact hn) hmk, List.length_append]
   simp only [List.length_cons, List.length_nil]
   omega
theorem SIn2.done (h : SIn2 nx n a M0 ms td k x q) (hq : (nx x).length ≤ q) : SInv nx n a M0 ms td (k + 1) :=
 ⟨h.len, h.sub, h.src, h.tdo, fun i hi => by
   rcases h.clo i hi with h1 | ⟨rfl, h1⟩ | h1
   · exact .inl h1
   · rw [List.take_of_length_le hq] at h1; exact .inr h1
   · exact .inr h1, by have := h.cnt; omega⟩
theorem SInv.fin (h : SInv nx n a M0 ms [] k) (hc : ∀ i, mkd M0 i → i ≠ a → ∀ j ∈ nx i, mkd M0 j) (i : Nat) : mkd ms i ↔ mkd M0 i ∨ RP nx a i := by
 refine ⟨h.src i, fun hi => ?_⟩
 rcases hi with hi | hi
 · exact h.sub i hi
 have hcl : ∀ b, (b = a ∨ mkd ms b) → ∀ j ∈ nx b, mkd ms j := fun b hb => by
   by_cases hba : b = a
   · rcases h.clo b (.inl hba) with h1 | h1
     · cases h1
     · exact h1
   · have hb := hb.resolve_left hba
     by_cases hm : mkd M0 b
     · exact fun j hj => h.sub j (hc b hm hba j hj)
     · rcases h.clo b (.inr ⟨hb, hm⟩) with h1 | h1
       · cases h1
       · exact h1
 induction hi with
 | one h1 => exact hcl a (.inl rfl) _ h1
 | more _ h2 ih => exact hcl _ (.inr ih) _ h2
end
noncomputable def setB (n : Nat) (p : Nat → Prop) : List Bool := (List.range n).map fun i => @decide (p i) (Classical.propDecidable _)
noncomputable def setL (n : Nat) (p : Nat → Prop) : List Nat := (List.range n).filter fun i => @decide (p i) (Classical.propDecidable _)
noncomputable def setN (p : Nat → Prop) : Nat → Nat
 | 0 => 0
 | n + 1 => setN p n ||| (if @decide (p n) (Classical.propDecidable _) then 2 ^ n else 0)
section
variable {n : Nat} {p q : Nat → Prop}
theorem setB_len : (setB n p).length = n := by simp [setB]
theorem mkd_setB {i : Nat} : mkd (setB n p) i ↔ i < n ∧ p i := by
 constructor
 · intro h
   have hl := mkd_lt h
   rw [mkd_get hl] at h
   rw [setB_len] at hl
   refine ⟨hl, ?_⟩
   simpa [setB] using h
 · rintro ⟨h1, h2⟩
   rw [mkd_get (by rw [setB_len]; exact h1)]
   simpa [setB] using h2
theorem marks_setB {ms : List Bool} (hl : ms.length = n) (h : ∀ i, i < n → (mkd ms i ↔ p i)) : ms = setB n p :=
 marks_ext (by rw [hl, setB_len]) fun i hi => by
   rw [mkd_setB, h i (hl ▸ hi)]
   exact ⟨fun h => ⟨hl ▸ hi, h⟩, fun h => h.2⟩
theorem setB_congr (h : ∀ i, i < n → (p i ↔ q i)) : setB n p = setB n q := marks_setB setB_len fun i hi => by rw [mkd_setB, ← h i hi]; exact ⟨fun h => h.2, fun h => ⟨hi, h⟩⟩
theorem mem_setL {i : Nat} : i ∈ setL n p ↔ i < n ∧ p i := by simp [setL]
theorem setL_succ : setL (n + 1) p = setL n p ++ (if @decide (p n) (Classical.propDecidable _) then [n] else []) := by
 simp only [setL, List.range_succ, List.filter_append, List.filter_cons, List.filter_nil]
theorem setL_yes (h : p n) : setL (n + 1) p = setL n p ++ [n] := by rw [setL_succ]; simp [h]
theorem setL_no (h : ¬ p n) : setL (n + 1) p = setL n p := by rw [setL_succ]; simp [h]
theorem setL_len : (setL n p).length ≤ n := Nat.le_trans (List.length_filter_le _ _) (by simp)
theorem setN_bit {i : Nat} : (setN p n).testBit i = true ↔ i < n ∧ p i := by
 induction n with
 | zero => simp [setN]
 | succ n ih =>
   rw [setN, Nat.testBit_or, Bool.or_eq_true, ih]
   by_cases hp : p n
   · simp only [hp, decide_true, if_true, Nat.testBit_two_pow, decide_eq_true_eq]
     constructor
     · rintro (⟨h1, h2⟩ | rfl)
       · exact ⟨by omega, h2⟩
       · exact ⟨by omega, hp⟩
     · rintro ⟨h1, h2⟩
       rcases Nat.lt_or_eq_of_le (Nat.lt_succ_iff.1 h1) with h | h
       · exact .inl ⟨h, h2⟩
       · exact .inr h.symm
   · simp only [hp, decide_false, Bool.false_eq_true, if_false, Nat.zero_testBit, or_false]
     constructor
     · rintro ⟨h1, h2⟩; exact ⟨by omega, h2⟩
     · rintro ⟨h1, h2⟩
       rcases Nat.lt_or_eq_of_le (Nat.lt_succ_iff.1 h1) with h | h
       · exact ⟨h, h2⟩
       · exact absurd (h ▸ h2) hp
theorem setN_lt : setN p n < 2 ^ n := by
 refine Nat.lt_pow_two_of_testBit _ fun i hi => ?_
 cases h : (setN p n).testBit i
 · rfl
 · have := (setN_bit.1 h).1; omega
theorem eq_setN {m : Nat} (h : ∀ i, m.testBit i = true ↔ i < n ∧ p i) : m = setN p n :=
 Nat.eq_of_testBit_eq fun i => by
   have h1 := h i
   rw [← setN_bit] at h1
   cases e1 : m.testBit i <;> cases e2 : (setN p n).testBit i <;> simp_all
theorem setN_congr (h : ∀ i, i < n → (p i ↔ q i)) : setN p n = setN q n := eq_setN fun i => by
 rw [setN_bit]
 exact ⟨fun ⟨h1, h2⟩ => ⟨h1, (h i h1).1 h2⟩, fun ⟨h1, h2⟩ => ⟨h1, (h i h1).2 h2⟩⟩
end
end Go.Sh
namespace Go.Proofs.YtjgfldfbljmhhaaGreat
open Go Go.Sh Go.Proofs
set_option linter.unusedVariables false
set_option linter.unusedSimpArgs false
open Rep (rep)
def F135 (a0 a1 : Value) (w : World) (R : VW) : Prop :=
 NIL a0 <|
 RD tp (Instr.fieldAt 144 a0 0) w fun x8 =>
 RD tp (Instr.fieldAt 35 x8 4) w fun x9 =>
 RD tp (Instr.loadAt 33 x9) w fun x10 =>
 RD tp (Instr.indexAt 33 x10 a1) w fun x12 =>
 RD tp (Instr.loadAt 136 x12) w fun x13 =>
 OP tp (Instr.alloc 136 true (.tuple #[])) w fun x5 w =>
 OPU tp (Instr.storeAt 136 x5 x13) w fun w =>
 RD tp (Instr.fieldAt 136 x5 0) w fun x14 =>
 RD tp (Instr.loadAt 3 x14) w fun x15 =>
 RD tp (bin .eql 3 T0 U0 x15 (Value.int .i64 9)) w fun x17 =>
 BR x17
 (R (Value.slice none 0 0) w)
 (RD tp (bin .eql 3 T0 U0 x15 (Value.int .i64 3)) w fun x19 =>
 BR x19
 (RD tp (Instr.fieldAt 136 x5 3) w fun x20 =>
 RD tp (Instr.loadAt 3 x20) w fun x21 =>
 OP tp (Instr.buildSlice 23 1 #[(0, x21)]) w fun x22 w =>
 R x22 w)
 (RD tp (bin .eql 3 T0 U0 x15 (Value.int .i64 2)) w fun x24 =>
 BR x24
 (RD tp (Instr.fieldAt 136 x5 3) w fun x25 =>
 RD tp (Instr.loadAt 3 x25) w fun x26 =>
 RD tp (bin .add 3 T0 U0 a1 (Value.int .i64 1)) w fun x28 =>
 RD tp (bin .neq 3 T0 T0 x26 x28) w fun x29 =>
 BR x29
 (RD tp (bin .add 3 T0 U0 a1 (Value.int .i64 1)) w fun x31 =>
 RD tp (Instr.fieldAt 136 x5 3) w fun x32 =>
 RD tp (Instr.loadAt 3 x32) w fun x33 =>
 OP tp (Instr.buildSlice 23 2 #[(0, x31), (1, x33)]) w fun x34 w =>
 R x34 w)
 (RD tp (bin .add 3 T0 U0 a1 (Value.int .i64 1)) w fun x36 =>
 OP tp (Instr.buildSlice 23 1 #[(0, x36)]) w fun x37 w =>
 R x37 w))
 (RD tp (bin .add 3 T0 U0 a1 (Value.int .i64 1)) w fun x36 =>
 OP tp (Instr.buildSlice 23 1 #[(0, x36)]) w fun x37 w =>
 R x37 w)))
def cfg135 : Cfg := ⟨extL, [], [], [], [], [], []⟩
theorem F135_eq (a0 a1 : Value) (w : World) (R : VW) : vcF Tryz.prog cfg135 Tryz.f135 [a0, a1] w R = F135 a0 a1 w R := by kernel_rfl
theorem F135_call {a0 a1 : Value} {w : World} {R : VW} (h : F135 a0 a1 w R) : CALL Tryz.prog 135 [a0, a1] w R :=
 call_of (g := cfg135) ent mixed Tryz.func135 (Nat.le_of_ble_eq_true (by kernel_rfl)) (by kernel_rfl) (F135_eq a0 a1 w R ▸ h)
def F121 (a0 a1 : Value) (w : World) (R : VW) : Prop :=
 OP tp (Instr.box 35 a0) w fun x2 w =>
 RD tp (Instr.fieldAt 35 x2 4) w fun x6 =>
 RD tp (Instr.loadAt 33 x6) w fun x7 =>
 RD tp (Instr.indexAt 33 x7 a1) w fun x9 =>
 RD tp (Instr.loadAt 136 x9) w fun x10 =>
 OP tp (Instr.alloc 136 true (.tuple #[])) w fun x5 w =>
 OPU tp (Instr.storeAt 136 x5 x10) w fun w =>
 RD tp (Instr.fieldAt 136 x5 0) w fun x11 =>
 RD tp (Instr.loadAt 3 x11) w fun x12 =>
 RD tp (bin .eql 3 T0 U0 x12 (Value.int .i64 2)) w fun x14 =>
 BR x14
 (RD tp (Instr.fieldAt 136 x5 3) w fun x15 =>
 RD tp (Instr.loadAt 3 x15) w fun x16 =>
 RD tp (bin .add 3 T0 U0 a1 (Value.int .i64 1)) w fun x18 =>
 RD tp (bin .eql 3 T0 T0 x16 x18) w fun x19 =>
 BR x19
 (RD tp (bin .add 3 T0 U0 a1 (Value.int .i64 1)) w fun x21 =>
 OP tp (Instr.buildSlice 23 1 #[(0, x21)]) w fun x22 w =>
 R x22 w)
 (RD tp (bin .add 3 T0 U0 a1 (Value.int .i64 1)) w fun x24 =>
 RD tp (Instr.fieldAt 136 x5 3) w fun x25 =>
 RD tp (Instr.loadAt 3 x25) w fun x26 =>
 OP tp (Instr.buildSlice 23 2 #[(0, x24), (1, x26)]) w fun x27 w =>
 R x27 w))
 (RD tp (bin .eql 3 T0 U0 x12 (Value.int .i64 3)) w fun x29 =>
 BR x29
 (RD tp (Instr.fieldAt 136 x5 3) w fun x30 =>
 RD tp (Instr.loadAt 3 x30) w fun x31 =>
 OP tp (Instr.buildSlice 23 1 #[(0, x31)]) w fun x32 w =>
 R x32 w)
 (RD tp (bin .eql 3 T0 U0 x12 (Value.int .i64 9)) w fun x34 =>
 BR x34
 (OP tp (Instr.buildSlice 23 0 #[]) w fun x35 w =>
 R x35 w)
 (RD tp (bin .add 3 T0 U0 a1 (Value.int .i64 1)) w fun x37 =>
 OP tp (Instr.buildSlice 23 1 #[(0, x37)]) w fun x38 w =>
 R x38 w)))
def cfg121 : Cfg := ⟨extL, [], [], [], [], [], []⟩
theorem F121_eq (a0 a1 : Value) (w : World) (R : VW) : vcF Tryz.prog cfg121 Tryz.f121 [a0, a1] w R = F121 a0 a1 w R := by kernel_rfl
theorem F121_call {a0 a1 : Value} {w : World} {R : VW} (h : F121 a0 a1 w R) : CALL Tryz.prog 121 [a0, a1] w R :=
 call_of (g := cfg121) ent mixed Tryz.func121 (Nat.le_of_ble_eq_true (by kernel_rfl)) (by kernel_rfl) (F121_eq a0 a1 w R ▸ h)
set_option linter.unusedVariables false
set_option linter.unusedSimpArgs false
def nextN (c : DCode) (i : Nat) : List Nat :=
 if (insAt c i).op = 9 then [] else if (insAt c i).op = 3 then [(insAt c i).to.toNat] else if (insAt c i).op = 2 ∧ (insAt c i).to ≠ (i : Int) + 1 then [i + 1, (insAt c i).to.toNat] else [i + 1]
theorem nextN_lt {c : DCode} (hc : CodeR c) {i j : Nat} (hi : i < c.ins.length) (h : j ∈ nextN c i) : j < c.ins.length ∧ procOf c j = procOf c i := by
 have h9 := proc_next hc (a := (i : Int)) (by omega) (by omega)
 have hto := proc_to hc (a := (i : Int)) (by omega) (by omega)
 simp only [Int.toNat_natCast] at h9 hto
 unfold nextN at h
 split at h
 · cases h
 · rename_i ho
   have h1 := h9 ho
   have e1 : ((i + 1 : Nat) : Int) = (i : Int) + 1 := by omega
   split at h
   · rename_i h3
     simp only [List.mem_cons, List.not_mem_nil, or_false] at h
     subst h
     have h2 := hto (.inr h3)
     rw [Int.toNat_of_nonneg h2.1]
     exact ⟨by omega, h2.2.2⟩
   · split at h
     · rename_i h2
       simp only [List.mem_cons, List.not_mem_nil, or_false] at h
       rcases h with rfl | rfl
       · exact ⟨by omega, by rw [e1]; exact h1.2⟩
       · have h2 := hto (.inl h2.1)
         rw [Int.toNat_of_nonneg h2.1]
         exact ⟨by omega, h2.2.2⟩
     · simp only [List.mem_cons, List.not_mem_nil, or_false] at h
       subst h
       exact ⟨by omega, by rw [e1]; exact h1.2⟩
theorem nextN_len (c : DCode) (i : Nat) : (nextN c i).length ≤ 2 := by
 unfold nextN
 split
 · simp
 · split
   · simp
   · split <;> simp
section
variable {P : Program} {w : World} {K : Value → World → Prop}
def vsI (l : List Int) : List Value := l.map fun x => .int .i64 x
theorem cells_vsI {w : World} : ∀ {l : List Int}, (∀ x ∈ l, I64 x) → Cells [] w (vsI l) l
 | [], _ => ⟨rfl, rfl⟩
 | x :: l, h => ⟨[], [], [.int .i64 x], vsI l, rfl, rfl, ⟨rfl, rfl, h x (by simp)⟩, cells_vsI fun y hy => h y (by simp [hy])⟩
theorem own_vsI {l : List Int} {e : Nat} (hl : ∀ x ∈ l, I64 x) (hm : l.length ≤ maxLen) : Own w.heap.size (w.alloc (.cells (vsI l).toArray e)) (.slice (some ⟨w.heap.size, 0, none⟩) l.length l.length) l := by
 have hB : Blk w.heap.size e (w.alloc (.cells (vsI l).toArray e)) (vsI l) := heap_alloc_new w _
 refine ⟨[w.heap.size], ⟨⟨_, ⟨some ⟨w.heap.size, 0, none⟩, l.length, [], vsI l, rfl, Nat.le_refl _, hm, cells_vsI hl, .inr ⟨_, _, rfl, rfl, hB.range, ?_⟩⟩, rfl⟩, by simp, fun i hi => ?_⟩, by simp⟩
 · exact (Array.getElem?_eq_some_iff.1 hB).1
 · simp only [List.mem_cons, List.not_mem_nil, or_false] at hi
   subst hi
   exact ⟨_, _, hB⟩
theorem op_build2I {t e : TypeId} {by_ : Nat} {x y : Int} (ht : P.underlying t = some (.slice e)) (he : tyI P e = some (1, by_, false)) (hz : zeroL P e = some [.int .i64 0]) (hx : I64 x) (hy : I64 y)
   (k : ∀ v w', Ext w w' → Own w.heap.size w' v [x, y] → K v w') : OP P (Instr.buildSlice t 2 #[(0, .int .i64 x), (1, .int .i64 y)]) w K := by
 unfold zeroL at hz
 cases hi : P.info? e with
 | none => simp [hi] at hz
 | some i =>
   simp only [hi] at hz
   obtain ⟨v, hv, hvc⟩ := Option.map_eq_some_iff.1 hz
   refine ⟨_, w.alloc (.cells (vsI [x, y]).toArray e), ?_, k _ _ (ext_alloc w _) (own_vsI (l := [x, y]) (e := e) (by simp [hx, hy]) (by simp [maxLen]))⟩
   have hvc' : v.cells = #[.int .i64 0] := Array.ext' (by simpa using hvc)
   have e1 : ∀ n : Int, (Value.int .i64 n).cells = #[.int .i64 n] := fun _ => rfl
   simp only [Instr.buildSlice, Sem.run_bind, run_underlying ht, Result.andThen_ok, run_sizeOf' he]
   have e2 : Array.range 2 = #[0, 1] := by decide
   simp [zeroValue, typeInfo, hi, hv, newRow, Instr.fill, hvc', vsI, e1, e2]
end
theorem zlIf : zeroL Tryz.prog 3 = some [.int .i64 0] := by kernel_rfl
theorem nextIn_ok {w W0 : World} {b : Nat} {c : DCode} {i : Nat} (hA : At W0 b 0 c) (e0 : Ext W0 w) (hc : CodeR c) (hi : i < c.ins.length) :
   CALL Tryz.prog 135 [.pointer (some ⟨b, 0, none⟩), .int .i64 (i : Int)] w fun r w' => Ext w w' ∧ Own w.heap.size w' r (ints (nextN c i)) := by
 refine F135_call ?_
 unfold F135
 have hil := hc.f.ins
 have hto := proc_to hc (a := (i : Int)) (by omega) (by omega)
 simp only [Int.toNat_natCast] at hto
 refine NIL.mk rfl ?_
 refine rd_fld fd144_0 ?_
 refine rd_fld fd35_4 ?_
 refine rd_load ty33 (at_DCode_4 hA) e0 fun v10 h10 => ?_
 refine rd_indexN u33 ty136 h10 hi fun b12 o12 h12 => ?_
 rw [insAt_get] at h12
 have hnx : nextN c i = if (insAt c i).op = 9 then [] else if (insAt c i).op = 3 then [(insAt c i).to.toNat] else if (insAt c i).op = 2 ∧ (insAt c i).to ≠ (i : Int) + 1 then [i + 1, (insAt c i).to.toNat] else [i + 1] := rfl
 generalize insAt c i = I at *
 refine rd_load ty136 h12 e0 fun v13 h13 => ?_
 refine op_var zl136 rfl ty136 rfl h13 e0 fun w1 hx1 hA5 hV5 => ?_
 refine rd_fld fd136_0 ?_
 refine rd_loadI ty3 (at_DIns_0 hA5) (Ext.refl _) fun _ => ?_
 refine rd_eql ?_
 refine br (fun c9 => ?_) (fun c9 => ?_)
 · rw [hnx, if_pos c9]
   exact ⟨hx1, own_nil rfl⟩
 rw [if_neg c9] at hnx
 refine rd_eql ?_
 refine br (fun c3 => ?_) (fun c3 => ?_)
 · rw [if_pos c3] at hnx
   have ht := hto (.inr c3)
   refine rd_fld fd136_3 ?_
   refine rd_loadI ty3 (at_DIns_3 hA5) (Ext.refl _) fun hI => ?_
   refine op_build1R (x := I.to) u23 ty3 z3 (by decide) (mine_int hI) fun v w2 hx2 hr => ?_
   refine ⟨hx1.trans hx2, ?_⟩
   rw [hnx]
   have e : ints [I.to.toNat] = [I.to] := by simp [ints, Int.toNat_of_nonneg ht.1]
   rw [e]
   have := hx1.size
   exact hr.own.own.mono (by omega)
 rw [if_neg c3] at hnx
 have e1 : ints [i + 1] = [((i + 1 : Nat) : Int)] := by simp [ints]
 refine rd_eql ?_
 refine br (fun c2 => ?_) (fun c2 => ?_)
 · have ht := hto (.inl c2)
   refine rd_fld fd136_3 ?_
   refine rd_loadI ty3 (at_DIns_3 hA5) (Ext.refl _) fun hI => ?_
   refine rd_inc (by omega) ?_
   refine rd_neq ?_
   refine br (fun cn => ?_) (fun cn => ?_)
   · rw [if_pos ⟨c2, by omega⟩] at hnx
     refine rd_inc (by omega) ?_
     refine rd_fld fd136_3 ?_
     refine rd_loadI ty3 (at_DIns_3 hA5) (Ext.refl _) fun _ => ?_
     refine op_build2I u23 ty3 zlIf (by unfold I64; omega) hI fun v w2 hx2 hr => ?_
     refine ⟨hx1.trans hx2, ?_⟩
     have e : ints [i + 1, I.to.toNat] = [((i + 1 : Nat) : Int), I.to] := by simp [ints, Int.toNat_of_nonneg ht.1]
     rw [hnx, e]
     have := hx1.size
     exact hr.mono (by omega)
   · rw [if_neg (fun h => cn (by have := h.2; omega))] at hnx
     refine rd_inc (by omega) ?_
     refine op_build1R (x := ((i + 1 : Nat) : Int)) u23 ty3 z3 (by decide) (mine_int (by unfold I64; omega)) fun v w2 hx2 hr => ?_
     refine ⟨hx1.trans hx2, ?_⟩
     rw [hnx, e1]
     have := hx1.size
     exact hr.own.own.mono (by omega)
 · rw [if_neg (fun h => c2 h.1)] at hnx
   refine rd_inc (by omega) ?_
   refine op_build1R (x := ((i + 1 : Nat) : Int)) u23 ty3 z3 (by decide) (mine_int (by unfold I64; omega)) fun v w2 hx2 hr => ?_
   refine ⟨hx1.trans hx2, ?_⟩
   rw [hnx, e1]
   have := hx1.size
   exact hr.own.own.mono (by omega)
theorem l09Next_ok {w W0 : World} {v0 : Value} {c : DCode} {i : Nat} (h0 : Is W0 v0 c) (e0 : Ext W0 w) (hc : CodeR c) (hi : i < c.ins.length) :
   CALL Tryz.prog 121 [v0, .int .i64 (i : Int)] w fun r w' => Ext w w' ∧ Own w.heap.size w' r (ints (nextN c i)) := by
 refine F121_call ?_
 unfold F121
 have hil := hc.f.ins
 have hto := proc_to hc (a := (i : Int)) (by omega) (by omega)
 simp only [Int.toNat_natCast] at hto
 refine op_box h0 e0 fun w0 hx0 hA => ?_
 refine rd_fld fd35_4 ?_
 refine rd_load ty33 (at_DCode_4 hA) (Ext.refl _) fun v10 h10 => ?_
 refine rd_indexN u33 ty136 h10 hi fun b12 o12 h12 => ?_
 rw [insAt_get] at h12
 have hnx : nextN c i = if (insAt c i).op = 9 then [] else if (insAt c i).op = 3 then [(insAt c i).to.toNat] else if (insAt c i).op = 2 ∧ (insAt c i).to ≠ (i : Int) + 1 then [i + 1, (insAt c i).to.toNat] else [i + 1] := rfl
 generalize insAt c i = I at *
 refine rd_load ty136 h12 (Ext.refl _) fun v13 h13 => ?_
 refine op_var zl136 rfl ty136 rfl h13 (Ext.refl _) fun w1 hx1 hA5 hV5 => ?_
 have hs0 := hx0.size
 have hs1 := hx1.size
 have hx01 := hx0.trans hx1
 have e1 : ints [i + 1] = [((i + 1 : Nat) : Int)] := by simp [ints]
 refine rd_fld fd136_0 ?_
 refine rd_loadI ty3 (at_DIns_0 hA5) (Ext.refl _) fun _ => ?_
 refine rd_eql ?_
 refine br (fun c2 => ?_) (fun c2 => ?_)
 · have ht := hto (.inl c2)
   rw [if_neg (by omega), if_neg (by omega)] at hnx
   refine rd_fld fd136_3 ?_
   refine rd_loadI ty3 (at_DIns_3 hA5) (Ext.refl _) fun hI => ?_
   refine rd_inc (by omega) ?_
   refine rd_eql ?_
   refine br (fun cn => ?_) (fun cn => ?_)
   · rw [if_neg (fun h => h.2 (by omega))] at hnx
     refine rd_inc (by omega) ?_
     refine op_build1R (x := ((i + 1 : Nat) : Int)) u23 ty3 z3 (by decide) (mine_int (by unfold I64; omega)) fun v w2 hx2 hr => ?_
     refine ⟨hx01.trans hx2, ?_⟩
     rw [hnx, e1]
     exact hr.own.own.mono (by omega)
   · rw [if_pos ⟨c2, by omega⟩] at hnx
     refine rd_inc (by omega) ?_
     refine rd_fld fd136_3 ?_
     refine rd_loadI ty3 (at_DIns_3 hA5) (Ext.refl _) fun _ => ?_
     refine op_build2I u23 ty3 zlIf (by unfold I64; omega) hI fun v w2 hx2 hr => ?_
     refine ⟨hx01.trans hx2, ?_⟩
     have e : ints [i + 1, I.to.toNat] = [((i + 1 : Nat) : Int), I.to] := by simp [ints, Int.toNat_of_nonneg ht.1]
     rw [hnx, e]
     exact hr.mono (by omega)
 refine rd_eql ?_
 refine br (fun c3 => ?_) (fun c3 => ?_)
 · rw [if_neg (by omega), if_pos c3] at hnx
   have ht := hto (.inr c3)
   refine rd_fld fd136_3 ?_
   refine rd_loadI ty3 (at_DIns_3 hA5) (Ext.refl _) fun hI => ?_
   refine op_build1R (x := I.to) u23 ty3 z3 (by decide) (mine_int hI) fun v w2 hx2 hr => ?_
   refine ⟨hx01.trans hx2, ?_⟩
   rw [hnx]
   have e : ints [I.to.toNat] = [I.to] := by simp [ints, Int.toNat_of_nonneg ht.1]
   rw [e]
   exact hr.own.own.mono (by omega)
 refine rd_eql ?_
 refine br (fun c9 => ?_) (fun c9 => ?_)
 · rw [if_pos c9] at hnx
   rw [hnx]
   refine op_build0I (α := Int) u23 ty3 fun a w2 hx2 hr => ?_
   have hs2 := hx2.size
   exact ⟨hx01.trans hx2, hr.own.own.mono (by omega)⟩
 · rw [if_neg c9, if_neg c3, if_neg (fun h => c2 h.1)] at hnx
   refine rd_inc (by omega) ?_
   refine op_build1R (x := ((i + 1 : Nat) : Int)) u23 ty3 z3 (by decide) (mine_int (by unfold I64; omega)) fun v w2 hx2 hr => ?_
   refine ⟨hx01.trans hx2, ?_⟩
   rw [hnx, e1]
   exact hr.own.own.mono (by omega)
end Go.Proofs.YtjgfldfbljmhhaaGreat
namespace Go.Sh
set_option linter.unusedVariables false
set_option linter.unusedSimpArgs false
set_option linter.unusedSectionVars false
open Rep (rep)
section
variable {P : Program} {w w0 w' : World} {α : Type} [Rep α] {lo hi e : Nat} {v : Value} {l : List α}
theorem RowG.flat [Flat α] {F : List Nat} (h : RowG F e w v l) : F = [] ∨ ∃ b, F = [b] := by
 rcases h with ⟨_, _, _, rfl⟩ | ⟨xs, Fi, _, hc, rfl, _⟩
 · exact .inl rfl
 · have := Cells.flat (xs := xs) hc
   subst this
   rcases hv : v.ownBlock with _ | b
   · exact .inl (by simp)
   · exact .inr ⟨b, by simp⟩
theorem Chg.ofI {F : List Nat} (h : Chg F w w') (hF : ∀ b ∈ F, lo ≤ b ∧ b < hi) : ChgI lo hi w w' :=
 ⟨h.os, h.tape, h.output, h.size, fun b hb hx => h.block b hb fun hm => by have := hF b hm; omega⟩
theorem ChgI.ext_left {w1 : World} (hx : Ext w w1) (h : ChgI lo hi w1 w') : ChgI lo hi w w' :=
 ⟨h.os.trans hx.os, h.tape.trans hx.tape, h.output.trans hx.output, Nat.le_trans hx.size h.size, fun b hb ho => by rw [h.block b (Nat.lt_of_lt_of_le hb hx.size) ho, hx.block b hb]⟩
theorem op_pushD1 [Flat α] {t ty : TypeId} {by_ : Nat} {u : Value} {x : α} {lo2 hi2 : Nat} {K : Value → World → Prop} (ht : P.underlying t = some (.slice e)) (he : tyI P e = some (Rep.size α, by_, Rep.agg α)) (hz : zeroOf P e = true)
   (hzc : (P.info? e).map (fun i => (i.zero.map (·.cells.size))) = some (some (Rep.size α))) (hsz : Rep.size α ≤ 1000) (hv : RowI lo hi e w v l) (hx : OwnI lo2 hi2 w u x) (hm : l.length + 1 ≤ maxLen) (hb : (l.length + 1) * by_ ≤ 140737488355328)
   (k : ∀ v' w' lo' hi', ChgI lo hi w w' → RowI lo' hi' e w' v' (l ++ [x]) → (lo' = lo ∧ hi' = hi ∨ lo' = w.heap.size ∧ hi' = w'.heap.size) → K v' w') : OP P (Instr.buildSlice t 1 #[(0, u)]) w fun s w1 => OP P (Builtin.append_ #[t, t] ty [v, s].toArray) w1 K := by
 obtain ⟨F, h1, h2, h3⟩ := rowI_iff.1 hv
 obtain ⟨G, hmx, hG⟩ := hx
 have hGn : G = [] := by obtain ⟨cs, hr, _⟩ := hmx.own; exact Flat.flat hr
 subst hGn
 refine op_pushB (K := fun _ => K) ht he hz hzc hsz h1 h2 hmx (by simp) hm hb (fun w1 v' w' G' hx1 hc hR hN hs => ?_) fun _ _ _ h => h
 have hcI := ChgI.ext_left hx1 (hc.ofI h3)
 have hlt := hR.lt
 rcases hR.flat with rfl | ⟨b, rfl⟩
 · exact k v' w' lo hi hcI (rowI_iff.2 ⟨[], hR, hN, by simp⟩) (.inl ⟨rfl, rfl⟩)
 · rcases hs b (by simp) with h | h | h
   · exact k v' w' lo hi hcI (rowI_iff.2 ⟨[b], hR, hN, fun c hc => by simp at hc; subst hc; exact h3 _ h⟩) (.inl ⟨rfl, rfl⟩)
   · cases h
   · exact k v' w' w.heap.size w'.heap.size hcI (rowI_iff.2 ⟨[b], hR, hN, fun c hc => by simp at hc; subst hc; exact ⟨h, hlt _ (by simp)⟩⟩) (.inr ⟨rfl, rfl⟩)
end
end Go.Sh
namespace Go.Proofs.YtjgfldfbljmhhaaGreat
open Go Go.Sh Go.Proofs
set_option linter.unusedVariables false
set_option linter.unusedSimpArgs false
open Rep (rep)
def F235 (a0 a1 : Value) (w : World) (R : VW) : Prop :=
 OP tp (Instr.box 35 a0) w fun x2 w =>
 RD tp (Instr.fieldAt 35 x2 4) w fun x10 =>
 RD tp (Instr.loadAt 33 x10) w fun x11 =>
 RD tp (ln 33 3 x11) w fun x12 =>
 OP tp (Instr.makeSlice 72 x12 x12) w fun x13 w =>
 OP tp (Instr.buildSlice 23 1 #[(0, a1)]) w fun x15 w =>
 LOOPI [6, 7] [x15, (Value.int .i64 0)] w fun u4 w next4 =>
 RD tp (ln 23 3 (u4 6)) w fun x18 =>
 RD tp (bin .lss 3 T0 T0 (u4 7) x18) w fun x19 =>
 BR x19
 ((fun w => RD tp (Instr.loadAt 35 x2) w fun x22 =>
 RD tp (Instr.indexAt 23 (u4 6) (u4 7)) w fun x25 =>
 RD tp (Instr.loadAt 3 x25) w fun x26 =>
 CALL tp 121 [x22, x26] w fun x27 w =>
 LOOPI [6, 9] [(u4 6), (Value.int .i64 0)] w fun u8 w next8 =>
 RD tp (ln 23 3 x27) w fun x30 =>
 RD tp (bin .lss 3 T0 T0 (u8 9) x30) w fun x31 =>
 BR x31
 (RD tp (Instr.indexAt 23 x27 (u8 9)) w fun x37 =>
 RD tp (Instr.loadAt 3 x37) w fun x38 =>
 RD tp (Instr.indexAt 72 x13 x38) w fun x39 =>
 RD tp (Instr.loadAt 4 x39) w fun x40 =>
 RD tp (Op.unary .not x40) w fun x41 =>
 BR x41
 (RD tp (Instr.indexAt 23 x27 (u8 9)) w fun x45 =>
 RD tp (Instr.loadAt 3 x45) w fun x46 =>
 RD tp (Instr.indexAt 72 x13 x46) w fun x47 =>
 OPU tp (Instr.storeAt 4 x47 (Value.bool true)) w fun w =>
 RD tp (Instr.indexAt 23 x27 (u8 9)) w fun x51 =>
 RD tp (Instr.loadAt 3 x51) w fun x52 =>
 OP tp (Instr.buildSlice 23 1 #[(0, x52)]) w fun x53 w =>
 OP tp (Builtin.append_ #[23, 23] 23 [(u8 6), x53].toArray) w fun x54 w =>
 RD tp (bin .add 3 T0 U0 (u8 9) (Value.int .i64 1)) w fun x33 =>
 next8 [x54, x33] w)
 (RD tp (bin .add 3 T0 U0 (u8 9) (Value.int .i64 1)) w fun x33 =>
 next8 [(u8 6), x33] w))
 (RD tp (bin .add 3 T0 U0 (u4 7) (Value.int .i64 1)) w fun x21 =>
 next4 [(u8 6), x21] w)) (World.drew1 w))
 (R x13 w)
def cfg235 : Cfg := ⟨extL, [], [(4, 36028797018899392, [6, 7]), (8, 36028796750529088, [6, 9])], [(6, [0, 1, 2, 3, 4, 5, 6], 0)], [], [], []⟩
theorem F235_eq (a0 a1 : Value) (w : World) (R : VW) : vcF Tryz.prog cfg235 Tryz.f235 [a0, a1] w R = F235 a0 a1 w R := by kernel_rfl
theorem F235_call {a0 a1 : Value} {w : World} {R : VW} (h : F235 a0 a1 w R) : CALL Tryz.prog 235 [a0, a1] w R :=
 call_of (g := cfg235) ent mixed Tryz.func235 (Nat.le_of_ble_eq_true (by kernel_rfl)) (by kernel_rfl) (F235_eq a0 a1 w R ▸ h)
def F126 (a0 a1 a2 : Value) (w : World) (R : VW) : Prop :=
 OP tp (Instr.buildSlice 23 1 #[(0, a2)]) w fun x11 w =>
 LOOPI [6] [x11] w fun u1 w next1 =>
 RD tp (ln 23 3 (u1 6)) w fun x13 =>
 RD tp (bin .gtr 3 T0 U0 x13 (Value.int .i64 0)) w fun x14 =>
 BR x14
 (RD tp (ln 23 3 (u1 6)) w fun x17 =>
 RD tp (bin .sub 3 T0 U0 x17 (Value.int .i64 1)) w fun x18 =>
 RD tp (Instr.indexAt 23 (u1 6) x18) w fun x19 =>
 RD tp (Instr.loadAt 3 x19) w fun x20 =>
 RD tp (ln 23 3 (u1 6)) w fun x23 =>
 RD tp (bin .sub 3 T0 U0 x23 (Value.int .i64 1)) w fun x24 =>
 RD tp (Instr.sliceAt 23 (u1 6) none (some x24) none) w fun x25 =>
 CALL tp 135 [a0, x20] w fun x28 w =>
 RD tp (ln 23 3 x28) w fun x29 =>
 LOOPI [6, 30] [x25, (Value.int .i64 0)] w fun u5 w next5 =>
 RD tp (bin .lss 3 T0 T0 (u5 30) x29) w fun x31 =>
 BR x31
 (RD tp (Instr.indexAt 23 x28 (u5 30)) w fun x32 =>
 RD tp (Instr.loadAt 3 x32) w fun x33 =>
 RD tp (Instr.indexAt 72 a1 x33) w fun x36 =>
 RD tp (Instr.loadAt 4 x36) w fun x37 =>
 RD tp (Op.unary .not x37) w fun x38 =>
 BR x38
 (RD tp (Instr.indexAt 72 a1 x33) w fun x41 =>
 OPU tp (Instr.storeAt 4 x41 (Value.bool true)) w fun w =>
 OP tp (Instr.buildSlice 23 1 #[(0, x33)]) w fun x44 w =>
 OP tp (Builtin.append_ #[23, 23] 23 [(u5 6), x44].toArray) w fun x45 w =>
 RD tp (bin .add 3 T0 U0 (u5 30) (Value.int .i64 1)) w fun x46 =>
 next5 [x45, x46] w)
 (RD tp (bin .add 3 T0 U0 (u5 30) (Value.int .i64 1)) w fun x46 =>
 next5 [(u5 6), x46] w))
 (next1 [(u5 6)] w))
 (R (Value.tuple #[]) w)
def cfg126 : Cfg := ⟨extL, [], [(1, 140737488351936, [6]), (5, 140736414614080, [6, 30])], [], [], [], []⟩
theorem F126_eq (a0 a1 a2 : Value) (w : World) (R : VW) : vcF Tryz.prog cfg126 Tryz.f126 [a0, a1, a2] w R = F126 a0 a1 a2 w R := by kernel_rfl
theorem F126_call {a0 a1 a2 : Value} {w : World} {R : VW} (h : F126 a0 a1 a2 w R) : CALL Tryz.prog 126 [a0, a1, a2] w R :=
 call_of (g := cfg126) ent mixed Tryz.func126 (Nat.le_of_ble_eq_true (by kernel_rfl)) (by kernel_rfl) (F126_eq a0 a1 a2 w R ▸ h)
set_option linter.unusedVariables false
set_option linter.unusedSimpArgs false
set_option linter.unusedSectionVars false
section
variable {P : Program} {w w' : World}
theorem flat_one {α : Type} [Rep α] [Flat α] {F : List Nat} {v : Value} {l : List α} (hm : Mine F w v l) (hl : l ≠ []) : ∃ b o cap, v = .slice (some ⟨b, o, none⟩) l.length cap ∧ F = [b] := by
 obtain ⟨⟨cs, ⟨a, cap, Fi, xs, rfl, h1, h2, hc, h4⟩, rfl⟩, hn, hw⟩ := hm
 rcases h4 with ⟨h4, _⟩ | ⟨b, o, rfl, rfl, hr, hb⟩
 · exact absurd h4 hl
 have hFi := Cells.flat (xs := xs) hc
 subst hFi
 exact ⟨b, o, cap, rfl, rfl⟩
theorem opu_elt {α : Type} [Rep α] [Flat α] (h1 : Rep.size α = 1) {t by_ m n i : Nat} {l : List α} {y : α} {u : Value} {K : World → Prop} (ht : tyI P t = some (1, by_, Rep.agg α)) (hm : Mine [m] w (.slice (some ⟨m, 0, none⟩) n n) l) (hl : l.length = n) (hi : i < n) (hu : Mine [] w u y)
   (k : ∀ w', Chg [m] w w' → Mine [m] w' (.slice (some ⟨m, 0, none⟩) n n) (l.set i y) → K w') : OPU P (Instr.storeAt t (.pointer (some ⟨m, i * 1, none⟩)) u) w K := by
 obtain ⟨b, a, cap, G, hv, hL⟩ := focus hm (k := i) (by omega)
 simp only [Value.slice.injEq, Option.some.injEq, Addr.mk.injEq, and_true] at hv
 obtain ⟨⟨rfl, rfl⟩, _⟩ := hv
 rw [h1, Nat.zero_add] at hL
 refine opu_lensF (y' := y) (by rw [h1]; exact ht) hL hu fun w8 F' hc8 hm8 hF8 => ?_
 have hF9 : F' = [m] := by
   obtain ⟨b, o, cap, hv, hF2⟩ := flat_one hm8 (by intro e; have h := congrArg List.length e; rw [List.length_set, hl] at h; simp only [List.length_nil] at h; omega)
   subst hF2
   have := hF8 b (by simp)
   simpa using this
 subst hF9
 exact k w8 hc8 hm8
theorem rd_elt {α : Type} [Rep α] {t e by_ m n i : Nat} {K : Value → Prop} (h1 : Rep.size α = 1) (ht : P.underlying t = some (.slice e)) (he : tyI P e = some (1, by_, Rep.agg α)) (hi : i < n) (kk : K (.pointer (some ⟨m, i * 1, none⟩))) :
   RD P (Instr.indexAt t (.slice (some ⟨m, 0, none⟩) n n) (.int .i64 (i : Int))) w K := rd_indexG ht he hi kk
end
structure WI (w1 w : World) (m n lo hi : Nat) (tv : Value) (L : List Nat) (ms : List Bool) : Prop where
 chg : ChgI m (m + 1) w1 w
 row : RowI lo hi 3 w tv (ints L)
 mks : Mine [m] w (.slice (some ⟨m, 0, none⟩) n n) ms
 l0 : w1.heap.size ≤ lo
 m1 : m < lo
 h2 : lo ≤ hi
 h3 : hi ≤ w.heap.size
section
variable {w1 w w' : World} {m n lo hi : Nat} {tv : Value} {L : List Nat} {ms : List Bool}
theorem WI.step (h : WI w1 w m n lo hi tv L ms) (hx : Ext w w') : WI w1 w' m n lo hi tv L ms :=
 ⟨h.chg.trans hx.toI, h.row.ext hx, h.mks.ext hx, h.l0, h.m1, h.h2, Nat.le_trans h.h3 hx.size⟩
theorem WI.push {tv' : Value} {x : Nat} {lo' hi' : Nat} (h : WI w1 w m n lo hi tv L ms) (hc : ChgI lo hi w w') (hr : RowI lo' hi' 3 w' tv' (ints L ++ [(x : Int)])) (hd : lo' = lo ∧ hi' = hi ∨ lo' = w.heap.size ∧ hi' = w'.heap.size) :
   WI w1 w' m n lo' hi' tv' (L ++ [x]) ms := by
 have hs := hc.size
 have h1 := h.l0
 have h2 := h.h2
 have h3 := h.h3
 have h4 := h.chg.size
 have h5 := h.m1
 have hml := h.mks.lt m (by simp)
 refine ⟨⟨hc.os.trans h.chg.os, hc.tape.trans h.chg.tape, hc.output.trans h.chg.output, Nat.le_trans h4 hs, fun b hb ho => (hc.block b (Nat.lt_of_lt_of_le hb h4) (by omega)).trans (h.chg.block b hb ho)⟩, by rw [ints_append]; exact hr, h.mks.keep fun b hb => ?_, by omega, by omega, by omega, by omega⟩
 simp only [List.mem_cons, List.not_mem_nil, or_false] at hb
 subst hb
 exact hc.block b hml (by omega)
theorem WI.mark {ms' : List Bool} (h : WI w1 w m n lo hi tv L ms) (hc : Chg [m] w w') (hm : Mine [m] w' (.slice (some ⟨m, 0, none⟩) n n) ms') : WI w1 w' m n lo hi tv L ms' := by
 have hc' : ChgI m (m + 1) w w' := hc.toI fun b hb => by simp only [List.mem_cons, List.not_mem_nil, or_false] at hb; omega
 have h5 := h.m1
 exact ⟨h.chg.trans hc', h.row.chg hc' (by omega), hm, h.l0, h5, h.h2, Nat.le_trans h.h3 hc'.size⟩
end
theorem zlBf : zeroL Tryz.prog 4 = some [.bool false] := by kernel_rfl
theorem ownI_int {w : World} {x : Int} (lo hi : Nat) (h : I64 x) : OwnI lo hi w (.int .i64 x) x := ⟨[], mine_int h, by simp⟩
theorem mine_boolT {w : World} {b : Bool} : Mine [] w (.bool b) b := ⟨⟨[.bool b], ⟨rfl, rfl⟩, rfl⟩, List.nodup_nil, Wr.nil w⟩
theorem l09ReachM_ok {w W0 : World} {v0 : Value} {c : DCode} {a : Nat} (h0 : Is W0 v0 c) (e0 : Ext W0 w) (hc : CodeR c) (ha : a < c.ins.length) :
   CALL Tryz.prog 235 [v0, .int .i64 (a : Int)] w fun r w' => Ext w w' ∧ ∃ m, r = .slice (some ⟨m, 0, none⟩) c.ins.length c.ins.length ∧ w.heap.size ≤ m ∧ Mine [m] w' (.slice (some ⟨m, 0, none⟩) c.ins.length c.ins.length) (setB c.ins.length (RP (nextN c) a)) := by
 refine F235_call ?_
 unfold F235
 have hil := hc.f.ins
 have hnl := fun {i j : Nat} => nextN_lt hc (i := i) (j := j)
 refine op_box h0 e0 fun w1 hx1 hA => ?_
 refine rd_fld fd35_4 ?_
 refine rd_load ty33 (at_DCode_4 hA) (Ext.refl _) fun v11 h11 => ?_
 refine rd_len u33 h11 ?_
 generalize hn : c.ins.length = n at *
 refine op_makeZ (α := Bool) u72 ty4 rfl rfl zlBf (by omega) (by omega) fun w2 hx2 hr2 => ?_
 have hs1 := hx1.size
 have hs2 := hx2.size
 have hM2 : Mine [w1.heap.size] w2 (.slice (some ⟨w1.heap.size, 0, none⟩) n n) (List.replicate n (RepZ.zv : Bool)) := by
   obtain ⟨F, hM, hF⟩ := hr2.own
   obtain ⟨b, o, cap, hv, hF2⟩ := flat_one hM (by intro e; have := congrArg List.length e; simp at this; omega)
   simp only [Value.slice.injEq, Option.some.injEq, Addr.mk.injEq, List.cons.injEq, and_true] at hv
   obtain ⟨⟨hb, ho⟩, _⟩ := hv
   rw [← hb] at hF2
   rwa [hF2] at hM
 have hzz : (List.replicate n (RepZ.zv : Bool)) = List.replicate n false := rfl
 rw [hzz] at hM2
 refine op_build1R (x := (a : Int)) u23 ty3 z3 (by decide) (mine_int (by unfold I64; omega)) fun v15 w3 hx3 hr3 => ?_
 have hs3 := hx3.size
 generalize hm : w1.heap.size = m at *
 have hW3 : WI w1 w3 m n w2.heap.size w3.heap.size v15 [a] (List.replicate n false) := ⟨(hx2.trans hx3).toI, hr3, hM2.ext hx3, by omega, by have := hM2.lt m (by simp); omega, hs3, Nat.le_refl _⟩
 refine loopC (1 + n) (fun h us w' => ∃ (tv : Value) (lo hi : Nat) (L : List Nat) (ms : List Bool), us = [tv, .int .i64 (h : Int)] ∧ h ≤ L.length ∧ WI w1 w' m n lo hi tv L ms ∧ SInv (nextN c) n a (List.replicate n false) ms (L.drop h) h) 0 (Nat.zero_le _) ⟨v15, _, _, [a], _, rfl, by simp, hW3, SInv.start (by simp) ha⟩ ?_
 rintro h mk u w4 hkm ⟨tv, lo, hi, L, ms, hu, hhL, hW4, hS4⟩
 simp only [List.map_cons, List.map_nil, List.cons.injEq, and_true] at hu
 obtain ⟨hu1, hu2⟩ := hu
 rw [hu1, hu2]
 have hb4 := hS4.bound
 rw [List.length_drop] at hb4
 refine rd_len u23 hW4.row.is ?_
 rw [ints_len]
 refine rd_lss ?_
 refine br (fun hlt => ?_) (fun hge => ?_)
 case refine_2 =>
   have hhe : h = L.length := by omega
   rw [hhe, List.drop_length] at hS4
   have hfin := hS4.fin fun i hi => absurd hi mkd_replicate
   have hms : ms = setB n (RP (nextN c) a) := marks_setB hS4.len fun i hi => by
     rw [hfin i]
     exact ⟨fun h => h.resolve_left mkd_replicate, .inr⟩
   rw [← hms]
   have hx4 : Ext w1 w4 := (Ext.refl w1).chgI hW4.chg (by omega)
   exact ⟨hx1.trans hx4, m, rfl, by omega, hW4.mks⟩
 have hh : h < L.length := by omega
 have hx5 := ext_drew w4
 have hW5 := hW4.step hx5
 generalize World.drew1 w4 = w5 at *
 have hxa : ∀ {w : World} {lo hi tv L ms}, WI w1 w m n lo hi tv L ms → Ext w1 w := fun h => (Ext.refl w1).chgI h.chg (by omega)
 refine rd_load ty35 hA (hxa hW5) fun v22 h22 => ?_
 refine rd_indexN u23 ty3 (i := h) hW5.row.is (by rw [ints_len]; exact hh) fun b1 o1 hA1 => ?_
 rw [ints_get] at hA1
 refine rd_loadI ty3 hA1 (Ext.refl _) fun _ => ?_
 generalize hx : L[h] = x at *
 have hdr : L.drop h = x :: L.drop (h + 1) := by rw [List.drop_eq_getElem_cons hh, hx]
 have hxn : x < n := (hS4.tdo x (by rw [hdr]; simp)).2
 refine (l09Next_ok h22 (hxa hW5) hc (by rw [hn]; exact hxn)).mono ?_
 rintro v27 w6 ⟨hx6, ho6⟩
 have hW6 := hW5.step hx6
 have hI6 := hW5.h3
 have hm6 := hW5.mks.lt m (by simp)
 have hS6 : SIn2 (nextN c) n a (List.replicate n false) ms (L.drop (h + 1)) h x 0 := hS4.pop (fun i => by rw [hdr]; simp [or_comm]) (by rw [hdr]; simp)
 have hl2 := nextN_len c x
 refine loopC (nextN c x).length (fun q us w' => ∃ (tv : Value) (lo hi : Nat) (L : List Nat) (ms : List Bool), us = [tv, .int .i64 (q : Int)] ∧ q ≤ (nextN c x).length ∧ h < L.length ∧ WI w1 w' m n lo hi tv L ms ∧ SIn2 (nextN c) n a (List.replicate n false) ms (L.drop (h + 1)) h x q ∧ OwnI w5.heap.size w6.heap.size w' v27 (ints (nextN c x)) ∧ (hi ≤ w5.heap.size ∨ w6.heap.size ≤ lo) ∧ w6.heap.size ≤ w'.heap.size) 0 (Nat.zero_le _) ⟨tv, lo, hi, L, ms, rfl, Nat.zero_le _, hh, hW6, hS6, ho6.toI, .inl hI6, Nat.le_refl _⟩ ?_
 rintro q mk8 u8 w7 hkm8 ⟨tv7, lo7, hi7, L7, ms7, hu8, hql, hh7, hW7, hS7, ho7, hd7, hz7⟩
 simp only [List.map_cons, List.map_nil, List.cons.injEq, and_true] at hu8
 obtain ⟨hu81, hu82⟩ := hu8
 rw [hu81, hu82]
 refine rd_len u23 ho7.is ?_
 rw [ints_len]
 refine rd_lss ?_
 refine br (fun hlt8 => ?_) (fun hge8 => ?_)
 case refine_2 =>
   refine rd_inc (by omega) ?_
   exact ⟨mk - 1, by omega, h + 1, by omega, tv7, lo7, hi7, L7, ms7, rfl, by omega, hW7, hS7.done (by omega)⟩
 have hq : q < (nextN c x).length := by omega
 have hrd : ∀ {w : World} {K : Value → Prop} (ho : OwnI w5.heap.size w6.heap.size w v27 (ints (nextN c x))) (k : K (.int .i64 (((nextN c x)[q] : Nat) : Int))), RD Tryz.prog (Instr.indexAt 23 v27 (.int .i64 (q : Int))) w fun x37 => RD Tryz.prog (Instr.loadAt 3 x37) w K := fun ho k => by
   refine rd_indexN u23 ty3 (i := q) ho.is (by rw [ints_len]; exact hq) fun b1 o1 hA1 => ?_
   rw [ints_get] at hA1
   exact rd_loadI ty3 hA1 (Ext.refl _) fun _ => k
 have hy := hnl hxn (List.getElem_mem hq)
 refine hrd ho7 ?_
 have hlen7 := hS7.len
 refine rd_indexN u72 ty4 hW7.mks.is (by rw [hlen7]; exact hy.1) fun b2 o2 hA2 => ?_
 refine rd_loadB ty4 hA2 (Ext.refl _) ?_
 refine rd_not ?_
 have hmk7 := mkd_get (ms := ms7) (i := (nextN c x)[q]) (by rw [hlen7]; exact hy.1)
 refine br_b (fun hf => ?_) (fun hf => ?_)
 · have hnm : ¬ mkd ms7 (nextN c x)[q] := by rw [hmk7]; simpa using hf
   refine hrd ho7 ?_
   refine rd_elt (α := Bool) rfl u72 ty4 hy.1 ?_
   refine opu_elt (α := Bool) rfl ty4 hW7.mks hlen7 hy.1 mine_boolT fun w8 hc8 hm8 => ?_
   have hW8 := hW7.mark hc8 hm8
   have hc8' : ChgI m (m + 1) w7 w8 := hc8.toI fun b hb => by simp only [List.mem_cons, List.not_mem_nil, or_false] at hb; omega
   have ho8 := ho7.chg hc8' (by omega)
   refine hrd ho8 ?_
   have hS8 := hS7.push hq hy.1 hnm
   generalize (nextN c x)[q] = y at *
   have hLb : L7.length ≤ 2 + n := by
     have h1 := hS7.cnt
     have h2 := cntM_le ms7
     rw [List.length_drop] at h1
     omega
   refine op_pushD1 (x := (y : Int)) u23 ty3 z3 zc3 (by decide) hW8.row (ownI_int 0 0 (by unfold I64; omega)) (by rw [maxLen_eq, ints_len]; omega) (by rw [ints_len]; omega) fun v54 w9 lo9 hi9 hc9 hr9 hd9 => ?_
   have hW9 := hW8.push hc9 hr9 hd9
   have hsz8 := hc8'.size
   have hsz7 := ho7.is
   refine rd_inc (by omega) ?_
   refine ⟨mk8 - 1, by omega, q + 1, by omega, v54, lo9, hi9, L7 ++ [y], _, rfl, by omega, by simp; omega, hW9, ?_, ho8.chg hc9 (by omega), by omega, by have := hc9.size; omega⟩
   rw [List.drop_append_of_le_length (by omega)]
   exact hS8
 · have hnm : mkd ms7 (nextN c x)[q] := by rw [hmk7]; simpa using hf
   refine rd_inc (by omega) ?_
   exact ⟨mk8 - 1, by omega, q + 1, by omega, tv7, lo7, hi7, L7, ms7, rfl, by omega, hh7, hW7, hS7.skip hq hnm, ho7, hd7, hz7⟩
section
variable {P : Program} {w : World} {α : Type} [Rep α] [Flat α] {lo hi e : Nat} {v : Value} {l : List α}
theorem rd_cutG {t e b o n cap k by_ : Nat} {K : Value → Prop} (ht : P.underlying t = some (.slice e)) (he : tyI P e = some (Rep.size α, by_, Rep.agg α)) (hk : k ≤ n) (hn : n ≤ cap) (kk : K (.slice (some ⟨b, o, none⟩) k cap)) :
   RD P (Instr.sliceAt t (.slice (some ⟨b, o, none⟩) n cap) none (some (.int .i64 (k : Int))) none) w K := by
 refine rd_of (fun w' _ => ?_) kk
 have hbd : (Instr.sliceBounds true n cap none (some (.int .i64 (k : Int))) none).run P w' = .ok (0, k, cap) w' := by
   have h5 : (k : Int) ≤ (cap : Int) := by omega
   simp [Instr.sliceBounds, Instr.sliceBound, asIntOf, h5]
   intro h6
   omega
 simp only [Instr.sliceAt, Instr.slice, Sem.run_bind, run_underlying ht, Result.andThen_ok, hbd, run_sizeOf' he]
 simp [Addr.add_mid]
theorem rowI_cut (h : RowI lo hi e w v l) (hl : l ≠ []) {k : Nat} (hk : k ≤ l.length) : ∃ g cap, v = .slice (some ⟨g, 0, none⟩) l.length cap ∧ l.length ≤ cap ∧ RowI lo hi e w (.slice (some ⟨g, 0, none⟩) k cap) (l.take k) := by
 rcases h with ⟨a, _, h⟩ | ⟨F, ⟨xs, Fi, ⟨hlen, ho⟩, hc, hF, hw⟩, hn, hb⟩
 · exact absurd h hl
 rcases ho with ⟨_, h0⟩ | ⟨g, cap, cur, rfl, _, hg, h1, h2, h3, h4⟩
 · exact absurd (List.eq_nil_of_length_eq_zero h0) hl
 refine ⟨g, cap, rfl, h1, .inr ⟨F, ⟨xs.take (k * Rep.size α), [], ⟨?_, .inr ⟨g, cap, cur, ?_, Nat.zero_le _, hg, by rw [List.length_take]; omega, h2, h3, ?_⟩⟩, ?_, ?_, Wr.nil w⟩, hn, hb⟩⟩
 · rw [List.length_take, List.length_take, hlen, Nat.min_eq_left hk]
   exact Nat.min_eq_left (Nat.mul_le_mul_right _ hk)
 · rw [List.length_take, Nat.min_eq_left hk]
 · rw [List.length_take, Nat.min_eq_left hk, ← h4, List.take_take, Nat.min_eq_left (Nat.mul_le_mul_right _ hk)]
 · have e1 : l = l.take k ++ l.drop k := by simp
   have hFi := Cells.flat (xs := xs) hc
   subst hFi
   rw [e1] at hc
   obtain ⟨F1, F2, x1, x2, hF12, hx12, c1, c2⟩ := Cells.split hc
   have hF1 := Cells.flat (xs := x1) c1
   subst hF1
   have hl1 := Cells.len c1
   rw [List.length_take, Nat.min_eq_left hk] at hl1
   rw [hx12, List.take_left' hl1]
   exact c1
 · have hFi := Cells.flat (xs := xs) hc
   subst hFi
   rw [hF]; rfl
end
theorem l09Reach_ok {w W0 : World} {v0 : Value} {c : DCode} {a : Nat} (h0 : Is W0 v0 c) (e0 : Ext W0 w) (hc : CodeR c) (ha : a < c.ins.length) :
   CALL Tryz.prog 235 [v0, .int .i64 (a : Int)] w fun r w' => Ext w w' ∧ Own w.heap.size w' r (setB c.ins.length (RP (nextN c) a)) :=
 (l09ReachM_ok h0 e0 hc ha).mono fun r w' ⟨hx, m, hr, hm, hM⟩ => ⟨hx, [m], by rw [hr]; exact hM, fun b hb => by simp only [List.mem_cons, List.not_mem_nil, or_false] at hb; omega⟩
def KAt (W0 w : World) (b : Nat) (c : DCode) : Prop := ∃ F cs, Rep.rep F W0 cs c ∧ w.rangeAt b 0 cs ∧ b < w.heap.size
theorem KAt.at {W0 w : World} {b : Nat} {c : DCode} (h : KAt W0 w b c) (hx : Ext W0 w) : At w b 0 c := by
 obtain ⟨F, cs, hr, hc, _⟩ := h
 exact ⟨F, cs, rep_ext hr hx, hc⟩
theorem KAt.keep {W0 w w' : World} {b : Nat} {c : DCode} (h : KAt W0 w b c) (hb : w'.heap[b]? = w.heap[b]?) (hs : w.heap.size ≤ w'.heap.size) : KAt W0 w' b c := by
 obtain ⟨F, cs, hr, hc, hl⟩ := h
 exact ⟨F, cs, hr, rangeAt_keep hc hb, by omega⟩
theorem KAt.lt {W0 w : World} {b : Nat} {c : DCode} (h : KAt W0 w b c) : b < w.heap.size := by obtain ⟨_, _, _, _, h⟩ := h; exact h
theorem spread_ok {w W0 : World} {b m n a : Nat} {c : DCode} {ms0 : List Bool} (hk : KAt W0 w b c) (e0 : Ext W0 w) (hc : CodeR c) (hn : c.ins.length = n) (ha : a < n) (hM : Mine [m] w (.slice (some ⟨m, 0, none⟩) n n) ms0) (hl : ms0.length = n) (h0 : W0.heap.size ≤ m) (hb : b ≠ m)
   (hclo : ∀ i, mkd ms0 i → i ≠ a → ∀ j ∈ nextN c i, mkd ms0 j) :
   CALL Tryz.prog 126 [.pointer (some ⟨b, 0, none⟩), .slice (some ⟨m, 0, none⟩) n n, .int .i64 (a : Int)] w fun r w' => r = .tuple #[] ∧ ChgI m (m + 1) w w' ∧ Mine [m] w' (.slice (some ⟨m, 0, none⟩) n n) (setB n fun i => mkd ms0 i ∨ RP (nextN c) a i) := by
 refine F126_call ?_
 unfold F126
 have hil := hc.f.ins
 have hnl := fun {i j : Nat} => nextN_lt hc (i := i) (j := j)
 rw [hn] at hnl hil
 refine op_build1R (x := (a : Int)) u23 ty3 z3 (by decide) (mine_int (by unfold I64; omega)) fun v11 w1 hx1 hr1 => ?_
 have hW1 : WI w w1 m n w.heap.size w1.heap.size v11 [a] ms0 := ⟨hx1.toI, hr1, hM.ext hx1, Nat.le_refl _, hM.lt m (by simp), hx1.size, Nat.le_refl _⟩
 have hKA : ∀ {w' : World} {lo hi tv L ms}, WI w w' m n lo hi tv L ms → At w' b 0 c := fun h => (hk.keep (h.chg.block b hk.lt (by omega)) h.chg.size).at (e0.chgI h.chg h0)
 refine loopC (1 + n) (fun h us w' => ∃ (tv : Value) (lo hi : Nat) (L : List Nat) (ms : List Bool), us = [tv] ∧ WI w w' m n lo hi tv L ms ∧ SInv (nextN c) n a ms0 ms L h) 0 (Nat.zero_le _) ⟨v11, _, _, [a], _, rfl, hW1, SInv.start hl ha⟩ ?_
 rintro h mk u w4 hkm ⟨tv, lo, hi, L, ms, hu, hW4, hS4⟩
 simp only [List.map_cons, List.map_nil, List.cons.injEq, and_true] at hu
 rw [hu]
 have hb4 := hS4.bound
 refine rd_len u23 hW4.row.is ?_
 rw [ints_len]
 refine rd_gtr ?_
 refine br (fun hlt => ?_) (fun hge => ?_)
 case refine_2 =>
   have hL0 : L = [] := List.eq_nil_of_length_eq_zero (by omega)
   rw [hL0] at hS4
   have hfin := hS4.fin hclo
   have hms : ms = setB n (fun i => mkd ms0 i ∨ RP (nextN c) a i) := marks_setB hS4.len fun i hi => hfin i
   rw [← hms]
   exact ⟨rfl, hW4.chg, hW4.mks⟩
 obtain ⟨z, hz⟩ : ∃ z, L.length = z + 1 := ⟨L.length - 1, by omega⟩
 have hzl : z < L.length := by omega
 have hne : ints L ≠ [] := fun e => by have := congrArg List.length e; rw [ints_len, hz] at this; cases this
 refine rd_len u23 hW4.row.is ?_
 rw [ints_len]
 refine rd_sub (by unfold I64; omega) ?_
 have ez : (L.length : Int) - 1 = (z : Int) := by omega
 rw [ez]
 refine rd_indexN u23 ty3 (i := z) hW4.row.is (by rw [ints_len]; exact hzl) fun b1 o1 hA1 => ?_
 rw [ints_get] at hA1
 refine rd_loadI ty3 hA1 (Ext.refl _) fun _ => ?_
 generalize hx : L[z] = x at *
 refine rd_len u23 hW4.row.is ?_
 rw [ints_len]
 refine rd_sub (by unfold I64; omega) ?_
 rw [ez]
 obtain ⟨g, cap, hv4, hcap, hr4⟩ := rowI_cut hW4.row hne (k := z) (by rw [ints_len]; omega)
 rw [ints_len] at hv4 hcap
 rw [hv4]
 refine rd_cutG (α := Int) u23 ty3 (by omega) hcap ?_
 have hLz : L = L.take z ++ [x] := by
   have := List.take_succ_eq_append_getElem hzl
   rw [← hz, List.take_length, hx] at this
   exact this
 rw [← ints_take] at hr4
 have hW5 : WI w w4 m n lo hi (.slice (some ⟨g, 0, none⟩) z cap) (L.take z) ms := ⟨hW4.chg, hr4, hW4.mks, hW4.l0, hW4.m1, hW4.h2, hW4.h3⟩
 have hxn : x < n := (hS4.tdo x (by rw [hLz]; simp)).2
 refine (nextIn_ok (hKA hW5) (Ext.refl _) hc (by rw [hn]; exact hxn)).mono ?_
 rintro v27 w6 ⟨hx6, ho6⟩
 have hW6 := hW5.step hx6
 have hI6 := hW5.h3
 have hm6 := hW5.mks.lt m (by simp)
 have hLm : ∀ i, i ∈ L ↔ i ∈ L.take z ∨ i = x := fun i => by
   have : i ∈ L ↔ i ∈ L.take z ++ [x] := by rw [← hLz]
   rw [this]; simp
 have hS6 : SIn2 (nextN c) n a ms0 ms (L.take z) h x 0 := hS4.pop hLm (by rw [List.length_take]; omega)
 have hl2 := nextN_len c x
 refine rd_len u23 ho6.is ?_
 rw [ints_len]
 refine loopC (nextN c x).length (fun q us w' => ∃ (tv : Value) (lo hi : Nat) (L : List Nat) (ms : List Bool), us = [tv, .int .i64 (q : Int)] ∧ q ≤ (nextN c x).length ∧ WI w w' m n lo hi tv L ms ∧ SIn2 (nextN c) n a ms0 ms L h x q ∧ OwnI w4.heap.size w6.heap.size w' v27 (ints (nextN c x)) ∧ (hi ≤ w4.heap.size ∨ w6.heap.size ≤ lo) ∧ w6.heap.size ≤ w'.heap.size) 0 (Nat.zero_le _) ⟨_, lo, hi, _, ms, rfl, Nat.zero_le _, hW6, hS6, ho6.toI, .inl hI6, Nat.le_refl _⟩ ?_
 rintro q mk8 u8 w7 hkm8 ⟨tv7, lo7, hi7, L7, ms7, hu8, hql, hW7, hS7, ho7, hd7, hz7⟩
 simp only [List.map_cons, List.map_nil, List.cons.injEq, and_true] at hu8
 obtain ⟨hu81, hu82⟩ := hu8
 rw [hu81, hu82]
 refine rd_lss ?_
 refine br (fun hlt8 => ?_) (fun hge8 => ?_)
 case refine_2 =>
   exact ⟨mk - 1, by omega, h + 1, by omega, tv7, lo7, hi7, L7, ms7, rfl, hW7, hS7.done (by omega)⟩
 have hq : q < (nextN c x).length := by omega
 have hy := hnl hxn (List.getElem_mem hq)
 refine rd_indexN u23 ty3 (i := q) ho7.is (by rw [ints_len]; exact hq) fun b3 o3 hA3 => ?_
 rw [ints_get] at hA3
 refine rd_loadI ty3 hA3 (Ext.refl _) fun _ => ?_
 have hlen7 := hS7.len
 refine rd_indexN u72 ty4 hW7.mks.is (by rw [hlen7]; exact hy.1) fun b2 o2 hA2 => ?_
 refine rd_loadB ty4 hA2 (Ext.refl _) ?_
 refine rd_not ?_
 have hmk7 := mkd_get (ms := ms7) (i := (nextN c x)[q]) (by rw [hlen7]; exact hy.1)
 refine br_b (fun hf => ?_) (fun hf => ?_)
 · have hnm : ¬ mkd ms7 (nextN c x)[q] := by rw [hmk7]; simpa using hf
   refine rd_elt (α := Bool) rfl u72 ty4 hy.1 ?_
   refine opu_elt (α := Bool) rfl ty4 hW7.mks hlen7 hy.1 mine_boolT fun w8 hc8 hm8 => ?_
   have hW8 := hW7.mark hc8 hm8
   have hc8' : ChgI m (m + 1) w7 w8 := hc8.toI fun b hb => by simp only [List.mem_cons, List.not_mem_nil, or_false] at hb; omega
   have ho8 := ho7.chg hc8' (by omega)
   have hS8 := hS7.push hq hy.1 hnm
   generalize (nextN c x)[q] = y at *
   have hLb : L7.length ≤ 2 + n := by
     have h1 := hS7.cnt
     have h2 := cntM_le ms7
     omega
   refine op_pushD1 (x := (y : Int)) u23 ty3 z3 zc3 (by decide) hW8.row (ownI_int 0 0 (by unfold I64; omega)) (by rw [maxLen_eq, ints_len]; omega) (by rw [ints_len]; omega) fun v54 w9 lo9 hi9 hc9 hr9 hd9 => ?_
   have hW9 := hW8.push hc9 hr9 hd9
   have hsz8 := hc8'.size
   refine rd_inc (by omega) ?_
   exact ⟨mk8 - 1, by omega, q + 1, by omega, v54, lo9, hi9, L7 ++ [y], _, rfl, by omega, hW9, hS8, ho8.chg hc9 (by omega), by omega, by have := hc9.size; omega⟩
 · have hnm : mkd ms7 (nextN c x)[q] := by rw [hmk7]; simpa using hf
   refine rd_inc (by omega) ?_
   exact ⟨mk8 - 1, by omega, q + 1, by omega, tv7, lo7, hi7, L7, ms7, rfl, by omega, hW7, hS7.skip hq hnm, ho7, hd7, hz7⟩
def F77 (a0 : Value) (w : World) (R : VW) : Prop :=
 OP tp (Instr.buildSlice 23 0 #[]) w fun x5 w =>
 LOOPI [3, 4] [x5, (Value.int .i64 0)] w fun u3 w next3 =>
 RD tp (ln 72 3 a0) w fun x8 =>
 RD tp (bin .lss 3 T0 T0 (u3 4) x8) w fun x9 =>
 BR x9
 (RD tp (Instr.indexAt 72 a0 (u3 4)) w fun x14 =>
 RD tp (Instr.loadAt 4 x14) w fun x15 =>
 BR x15
 (OP tp (Instr.buildSlice 23 1 #[(0, (u3 4))]) w fun x18 w =>
 OP tp (Builtin.append_ #[23, 23] 23 [(u3 3), x18].toArray) w fun x19 w =>
 RD tp (bin .add 3 T0 U0 (u3 4) (Value.int .i64 1)) w fun x11 =>
 next3 [x19, x11] w)
 (RD tp (bin .add 3 T0 U0 (u3 4) (Value.int .i64 1)) w fun x11 =>
 next3 [(u3 3), x11] w))
 (R (u3 3) w)
def cfg77 : Cfg := ⟨extL, [], [(3, 1048536, [3, 4])], [], [], [], []⟩
theorem F77_eq (a0 : Value) (w : World) (R : VW) : vcF Tryz.prog cfg77 Tryz.f77 [a0] w R = F77 a0 w R := by kernel_rfl
theorem F77_call {a0 : Value} {w : World} {R : VW} (h : F77 a0 w R) : CALL Tryz.prog 77 [a0] w R :=
 call_of (g := cfg77) ent mixed Tryz.func77 (Nat.le_of_ble_eq_true (by kernel_rfl)) (by kernel_rfl) (F77_eq a0 w R ▸ h)
def F185 (a0 a1 : Value) (w : World) (R : VW) : Prop :=
 OP tp (Instr.box 35 a0) w fun x2 w =>
 (fun w => RD tp (Instr.loadAt 35 x2) w fun x6 =>
 RD tp (Instr.fieldAt 35 x2 3) w fun x7 =>
 RD tp (Instr.loadAt 23 x7) w fun x8 =>
 RD tp (Instr.indexAt 23 x8 a1) w fun x10 =>
 RD tp (Instr.loadAt 3 x10) w fun x11 =>
 CALL tp 235 [x6, x11] w fun x12 w =>
 RD tp (Instr.fieldAt 35 x2 3) w fun x14 =>
 RD tp (Instr.loadAt 23 x14) w fun x15 =>
 RD tp (Instr.indexAt 23 x15 a1) w fun x17 =>
 RD tp (Instr.loadAt 3 x17) w fun x18 =>
 RD tp (Instr.indexAt 72 x12 x18) w fun x19 =>
 OPU tp (Instr.storeAt 4 x19 (Value.bool true)) w fun w =>
 R x12 w) (World.drew1 w)
def cfg185 : Cfg := ⟨extL, [], [], [(1, [0, 1, 2, 3, 4, 5, 6, 7], 0)], [], [], []⟩
theorem F185_eq (a0 a1 : Value) (w : World) (R : VW) : vcF Tryz.prog cfg185 Tryz.f185 [a0, a1] w R = F185 a0 a1 w R := by kernel_rfl
theorem F185_call {a0 a1 : Value} {w : World} {R : VW} (h : F185 a0 a1 w R) : CALL Tryz.prog 185 [a0, a1] w R :=
 call_of (g := cfg185) ent mixed Tryz.func185 (Nat.le_of_ble_eq_true (by kernel_rfl)) (by kernel_rfl) (F185_eq a0 a1 w R ▸ h)
def F189 (a0 a1 a2 : Value) (w : World) (R : VW) : Prop :=
 OP tp (Instr.box 35 a0) w fun x3 w =>
 RD tp (Instr.loadAt 35 x3) w fun x10 =>
 CALL tp 185 [x10, a1] w fun x12 w =>
 RD tp (Instr.fieldAt 35 x3 2) w fun x13 =>
 RD tp (Instr.loadAt 22 x13) w fun x14 =>
 RD tp (ln 22 3 x14) w fun x15 =>
 OP tp (Instr.makeSlice 72 x15 x15) w fun x16 w =>
 LOOPI [9] [(Value.int .i64 0)] w fun u4 w next4 =>
 RD tp (Instr.fieldAt 35 x3 4) w fun x18 =>
 RD tp (Instr.loadAt 33 x18) w fun x19 =>
 RD tp (ln 33 3 x19) w fun x20 =>
 RD tp (bin .lss 3 T0 T0 (u4 9) x20) w fun x21 =>
 BR x21
 (RD tp (Instr.indexAt 72 x12 (u4 9)) w fun x26 =>
 RD tp (Instr.loadAt 4 x26) w fun x27 =>
 BR x27
 (RD tp (Instr.fieldAt 35 x3 4) w fun x29 =>
 RD tp (Instr.loadAt 33 x29) w fun x30 =>
 RD tp (Instr.indexAt 33 x30 (u4 9)) w fun x32 =>
 RD tp (Instr.fieldAt 136 x32 0) w fun x33 =>
 RD tp (Instr.loadAt 3 x33) w fun x34 =>
 RD tp (bin .eql 3 T0 T0 x34 a2) w fun x36 =>
 BR x36
 (RD tp (Instr.fieldAt 35 x3 4) w fun x39 =>
 RD tp (Instr.loadAt 33 x39) w fun x40 =>
 RD tp (Instr.indexAt 33 x40 (u4 9)) w fun x42 =>
 RD tp (Instr.fieldAt 136 x42 1) w fun x43 =>
 RD tp (Instr.loadAt 3 x43) w fun x44 =>
 RD tp (Instr.indexAt 72 x16 x44) w fun x45 =>
 OPU tp (Instr.storeAt 4 x45 (Value.bool true)) w fun w =>
 RD tp (bin .add 3 T0 U0 (u4 9) (Value.int .i64 1)) w fun x23 =>
 next4 [x23] w)
 (RD tp (bin .add 3 T0 U0 (u4 9) (Value.int .i64 1)) w fun x23 =>
 next4 [x23] w))
 (RD tp (bin .add 3 T0 U0 (u4 9) (Value.int .i64 1)) w fun x23 =>
 next4 [x23] w))
 (CALL tp 77 [x16] w fun x47 w =>
 R x47 w)
def cfg189 : Cfg := ⟨extL, [], [(4, 70368744047104, [9])], [], [], [], []⟩
theorem F189_eq (a0 a1 a2 : Value) (w : World) (R : VW) : vcF Tryz.prog cfg189 Tryz.f189 [a0, a1, a2] w R = F189 a0 a1 a2 w R := by kernel_rfl
theorem F189_call {a0 a1 a2 : Value} {w : World} {R : VW} (h : F189 a0 a1 a2 w R) : CALL Tryz.prog 189 [a0, a1, a2] w R :=
 call_of (g := cfg189) ent mixed Tryz.func189 (Nat.le_of_ble_eq_true (by kernel_rfl)) (by kernel_rfl) (F189_eq a0 a1 a2 w R ▸ h)
set_option linter.unusedVariables false
set_option linter.unusedSimpArgs false
def idxM (ms : List Bool) (n : Nat) : List Nat := (List.range n).filter fun i => ms.getD i false
theorem idxM_succ (ms : List Bool) (n : Nat) : idxM ms (n + 1) = idxM ms n ++ (if ms.getD n false then [n] else []) := by
 simp only [idxM, List.range_succ, List.filter_append, List.filter_cons, List.filter_nil]
theorem idxM_len (ms : List Bool) (n : Nat) : (idxM ms n).length ≤ n := Nat.le_trans (List.length_filter_le _ _) (by simp)
theorem idxM_setB (n : Nat) (p : Nat → Prop) : idxM (setB n p) n = setL n p := by
 refine List.filter_congr fun i hi => ?_
 have hi' := List.mem_range.1 hi
 have := mkd_setB (n := n) (p := p) (i := i)
 unfold mkd at this
 by_cases h : p i
 · rw [this.2 ⟨hi', h⟩]; simp [h]
 · have h2 : (setB n p).getD i false ≠ true := fun e => h (this.1 e).2
   simp only [h, decide_false]
   cases hh : (setB n p).getD i false
   · rfl
   · exact absurd hh h2
theorem l09Marked_ok {w W0 : World} {v0 : Value} {ms : List Bool} (h0 : Is W0 v0 ms) (e0 : Ext W0 w) (hn : ms.length ≤ 1000000) :
   CALL Tryz.prog 77 [v0] w fun r w' => Ext w w' ∧ Own w.heap.size w' r (ints (idxM ms ms.length)) := by
 refine F77_call ?_
 unfold F77
 refine op_build0I (α := Int) u23 ty3 fun a w1 hx1 hr1 => ?_
 have hs1 := hx1.size
 refine loopC ms.length (fun k us w' => ∃ (v : Value), us = [v, .int .i64 (k : Int)] ∧ k ≤ ms.length ∧ Ext w w' ∧ RowI w.heap.size w'.heap.size 3 w' v (ints (idxM ms k))) 0 (Nat.zero_le _) ⟨_, rfl, Nat.zero_le _, hx1, hr1.mono hs1 (Nat.le_refl _)⟩ ?_
 rintro k mk u w2 hkm ⟨v, hu, hkl, hx2, hr2⟩
 simp only [List.map_cons, List.map_nil, List.cons.injEq, and_true] at hu
 obtain ⟨hu1, hu2⟩ := hu
 rw [hu1, hu2]
 refine rd_len u72 h0 ?_
 refine rd_lss ?_
 refine br (fun hlt => ?_) (fun hge => ?_)
 case refine_2 =>
   have : k = ms.length := by omega
   rw [this] at hr2
   exact ⟨hx2, hr2.own.own⟩
 have hk : k < ms.length := by omega
 have hs2 := hx2.size
 have hg : ms.getD k false = ms[k] := by rw [List.getD_eq_getElem?_getD, List.getElem?_eq_getElem hk]; rfl
 have hil := idxM_len ms k
 refine rd_indexN u72 ty4 h0 hk fun b2 o2 hA2 => ?_
 refine rd_loadB ty4 hA2 (e0.trans hx2) ?_
 refine br_b (fun hf => ?_) (fun hf => ?_)
 · refine op_push (lo2 := w2.heap.size) (hi2 := w2.heap.size) (x := (k : Int)) u23 ty3 z3 zc3 (by decide) hr2 hs2 (ownI_int _ _ (by unfold I64; omega)) (Nat.le_refl _) hs2 (by rw [maxLen_eq, ints_len]; omega) (by rw [ints_len]; omega) fun v54 w9 hc9 hr9 => ?_
   refine rd_inc (by omega) ?_
   refine ⟨mk - 1, by omega, k + 1, by omega, v54, rfl, by omega, hx2.chgI hc9 (Nat.le_refl _), ?_⟩
   rw [idxM_succ, hg, hf, if_pos rfl, ints_append]
   exact hr9
 · refine rd_inc (by omega) ?_
   refine ⟨mk - 1, by omega, k + 1, by omega, v, rfl, by omega, hx2, ?_⟩
   rw [idxM_succ, hg, hf]
   simpa using hr2
def LiveP (c : DCode) (p : Nat) (i : Nat) : Prop := i = (en c p).toNat ∨ RP (nextN c) (en c p).toNat i
theorem l09Live_ok {w W0 : World} {v0 : Value} {c : DCode} {p : Nat} (h0 : Is W0 v0 c) (e0 : Ext W0 w) (hc : CodeR c) (hp : p < c.entry.length) :
   CALL Tryz.prog 185 [v0, .int .i64 (p : Int)] w fun r w' => Ext w w' ∧ Own w.heap.size w' r (setB c.ins.length (LiveP c p)) := by
 refine F185_call ?_
 unfold F185
 have hen := proc_en hc hp
 refine op_box h0 e0 fun w1 hx1 hA => ?_
 have hx2 := ext_drew w1
 generalize World.drew1 w1 = w2 at *
 have hs1 := hx1.size
 have hs2 := hx2.size
 obtain ⟨a, hae⟩ : ∃ a : Nat, en c p = (a : Int) := ⟨(en c p).toNat, by omega⟩
 have hla : LiveP c p = fun i => i = a ∨ RP (nextN c) a i := by
   funext i; unfold LiveP; rw [hae]; rfl
 have ha : a < c.ins.length := by omega
 rw [hla]
 refine rd_load ty35 hA hx2 fun v6 h6 => ?_
 refine rd_fld fd35_3 ?_
 refine rd_load ty23 (at_DCode_3 hA) hx2 fun v8 h8 => ?_
 refine rd_indexN u23 ty3 h8 hp fun b1 o1 hA1 => ?_
 rw [en_get hp, hae] at hA1
 refine rd_loadI ty3 hA1 hx2 fun _ => ?_
 refine (l09ReachM_ok h6 hx2 hc ha).mono ?_
 rintro _ w3 ⟨hx3, m, rfl, hm, hM⟩
 have hs3 := hx3.size
 refine rd_fld fd35_3 ?_
 refine rd_load ty23 (at_DCode_3 hA) (hx2.trans hx3) fun v15 h15 => ?_
 refine rd_indexN u23 ty3 h15 hp fun b2 o2 hA2 => ?_
 rw [en_get hp, hae] at hA2
 refine rd_loadI ty3 hA2 (hx2.trans hx3) fun _ => ?_
 refine rd_elt (α := Bool) rfl u72 ty4 ha ?_
 refine opu_elt (α := Bool) rfl ty4 hM setB_len ha mine_boolT fun w4 hc4 hm4 => ?_
 have hset : (setB c.ins.length (RP (nextN c) a)).set a true = setB c.ins.length (fun i => i = a ∨ RP (nextN c) a i) := marks_setB (by rw [List.length_set, setB_len]) fun i hi => by
   rw [mkd_set (by rw [setB_len]; exact ha), mkd_setB]
   constructor
   · rintro (⟨_, h⟩ | h)
     · exact .inr h
     · exact .inl h
   · rintro (h | h)
     · exact .inr h
     · exact .inl ⟨hi, h⟩
 rw [hset] at hm4
 have hc4' : ChgI m (m + 1) w3 w4 := hc4.toI fun b hb => by simp only [List.mem_cons, List.not_mem_nil, or_false] at hb; omega
 exact ⟨((hx1.trans hx2).trans hx3).chgI hc4' (by omega), [m], hm4, fun b hb => by simp only [List.mem_cons, List.not_mem_nil, or_false] at hb; omega⟩
theorem op_makeB {w : World} {n : Nat} {K : Value → World → Prop} (h0 : 0 < n) (hn : n ≤ 1000000)
   (k : ∀ w', Ext w w' → Mine [w.heap.size] w' (.slice (some ⟨w.heap.size, 0, none⟩) n n) (List.replicate n false) → K (.slice (some ⟨w.heap.size, 0, none⟩) n n) w') : OP Tryz.prog (Instr.makeSlice 72 (.int .i64 (n : Int)) (.int .i64 (n : Int))) w K :=
 op_makeZ (α := Bool) u72 ty4 rfl rfl zlBf (by omega) (by omega) fun w2 hx2 hr2 => by
   refine k w2 hx2 ?_
   obtain ⟨F, hM, hF⟩ := hr2.own
   obtain ⟨b, o, cap, hv, hF2⟩ := flat_one hM (by intro e; have := congrArg List.length e; simp at this; omega)
   simp only [Value.slice.injEq, Option.some.injEq, Addr.mk.injEq, List.cons.injEq, and_true] at hv
   obtain ⟨⟨hb, ho⟩, _⟩ := hv
   rw [← hb] at hF2
   rw [hF2] at hM
   exact hM
theorem replicate_setB (n : Nat) {p : Nat → Prop} (h : ∀ i, ¬ p i) : List.replicate n false = setB n p :=
 marks_setB (by simp) fun i _ => ⟨fun h => absurd h mkd_replicate, fun hp => absurd hp (h i)⟩
theorem setB_set {n q : Nat} {p p' : Nat → Prop} (hq : q < n) (h : ∀ i, p' i ↔ p i ∨ i = q) : (setB n p).set q true = setB n p' :=
 marks_setB (by rw [List.length_set, setB_len]) fun i hi => by
   rw [mkd_set (by rw [setB_len]; exact hq), mkd_setB, h]
   exact ⟨fun h => h.imp (·.2) id, fun h => h.imp (fun h => ⟨hi, h⟩) id⟩
def OpsP (c : DCode) (p : Nat) (op : Int) (q : Nat) : Prop := ∃ i, i < c.ins.length ∧ LiveP c p i ∧ (insAt c i).op = op ∧ (insAt c i).arg = (q : Int)
theorem l10Ops_ok {w W0 : World} {v0 : Value} {c : DCode} {p : Nat} {op : Int} (h0 : Is W0 v0 c) (e0 : Ext W0 w) (hc : CodeR c) (hp : p < c.entry.length) (hop : op = 4 ∨ op = 5) :
   CALL Tryz.prog 189 [v0, .int .i64 (p : Int), .int .i64 op] w fun r w' => Ext w w' ∧ Own w.heap.size w' r (ints (setL c.procs.length (OpsP c p op))) := by
 refine F189_call ?_
 unfold F189
 have hil := hc.f.ins
 have h8 := hc.1.procs8
 refine op_box h0 e0 fun w1 hx1 hA => ?_
 refine rd_load ty35 hA (Ext.refl _) fun v10 h10 => ?_
 refine (l09Live_ok h10 (Ext.refl _) hc hp).mono ?_
 rintro v12 w2 ⟨hx2, ho2⟩
 refine rd_fld fd35_2 ?_
 refine rd_load ty22 (at_DCode_2 hA) hx2 fun v14 h14 => ?_
 refine rd_len u22 h14 ?_
 have hs1 := hx1.size
 have hs2 := hx2.size
 refine op_makeB h8.2 (by omega) fun w3 hx3 hM3 => ?_
 have hs3 := hx3.size
 have ho3 := ho2.toI.ext hx3
 have hm3 := hM3.lt _ (List.mem_singleton.2 rfl)
 have hx13 := hx2.trans hx3
 generalize hm : w2.heap.size = m at *
 rw [replicate_setB c.procs.length (p := fun q => ∃ i, i < 0 ∧ LiveP c p i ∧ (insAt c i).op = op ∧ (insAt c i).arg = (q : Int)) (fun i ⟨j, h, _⟩ => by omega)] at hM3
 refine loopC c.ins.length (fun k us w' => us = [.int .i64 (k : Int)] ∧ k ≤ c.ins.length ∧ ChgI m (m + 1) w3 w' ∧ Mine [m] w' (.slice (some ⟨m, 0, none⟩) c.procs.length c.procs.length) (setB c.procs.length fun q => ∃ i, i < k ∧ LiveP c p i ∧ (insAt c i).op = op ∧ (insAt c i).arg = (q : Int))) 0 (Nat.zero_le _) ⟨rfl, Nat.zero_le _, ChgI.refl _, hM3⟩ ?_
 rintro k mk u w4 hkm ⟨hu, hkl, hc4, hM4⟩
 simp only [List.map_cons, List.map_nil, List.cons.injEq, and_true] at hu
 rw [hu]
 have hx4 : Ext w1 w4 := hx13.chgI hc4 (by omega)
 have ho4 := ho3.chg hc4 (by omega)
 refine rd_fld fd35_4 ?_
 refine rd_load ty33 (at_DCode_4 hA) hx4 fun v19 h19 => ?_
 refine rd_len u33 h19 ?_
 refine rd_lss ?_
 refine br (fun hlt => ?_) (fun hge => ?_)
 case refine_2 =>
   have hke : k = c.ins.length := by omega
   rw [hke] at hM4
   refine (l09Marked_ok hM4.is (Ext.refl _) (by rw [setB_len]; omega)).mono ?_
   rintro r w5 ⟨hx5, ho5⟩
   rw [setB_len, idxM_setB] at ho5
   have hsz := hx4.size
   exact ⟨(hx1.trans hx4).trans hx5, ho5.mono (by omega)⟩
 have hk : k < c.ins.length := by omega
 have hno : ¬ (LiveP c p k ∧ (insAt c k).op = op) → (setB c.procs.length fun q => ∃ i, i < k ∧ LiveP c p i ∧ (insAt c i).op = op ∧ (insAt c i).arg = (q : Int)) = setB c.procs.length fun q => ∃ i, i < k + 1 ∧ LiveP c p i ∧ (insAt c i).op = op ∧ (insAt c i).arg = (q : Int) := fun hn => setB_congr fun q _ => by
   constructor
   · rintro ⟨i, h1, h2⟩
     exact ⟨i, by omega, h2⟩
   · rintro ⟨i, h1, h2, h3, h4⟩
     by_cases h : i = k
     · subst h; exact absurd ⟨h2, h3⟩ hn
     · exact ⟨i, by omega, h2, h3, h4⟩
 refine rd_indexN u72 ty4 (i := k) ho4.is (by rw [setB_len]; exact hk) fun b2 o2 hA2 => ?_
 refine rd_loadB ty4 hA2 (Ext.refl _) ?_
 have hmk := mkd_setB (n := c.ins.length) (p := LiveP c p) (i := k)
 rw [mkd_get (by rw [setB_len]; exact hk)] at hmk
 refine br_b (fun hf => ?_) (fun hf => ?_)
 case refine_2 =>
   refine rd_inc (by omega) ?_
   refine ⟨mk - 1, by omega, k + 1, by omega, rfl, by omega, hc4, ?_⟩
   rw [← hno fun h => by rw [hmk.2 ⟨hk, h.1⟩] at hf; cases hf]
   exact hM4
 have hlive := (hmk.1 hf).2
 refine rd_fld fd35_4 ?_
 refine rd_load ty33 (at_DCode_4 hA) hx4 fun v30 h30 => ?_
 refine rd_indexN u33 ty136 h30 hk fun b3 o3 hA3 => ?_
 rw [insAt_get] at hA3
 refine rd_fld fd136_0 ?_
 refine rd_loadI ty3 (at_DIns_0 hA3) hx4 fun _ => ?_
 refine rd_eql ?_
 refine br (fun ho => ?_) (fun ho => ?_)
 case refine_2 =>
   refine rd_inc (by omega) ?_
   refine ⟨mk - 1, by omega, k + 1, by omega, rfl, by omega, hc4, ?_⟩
   rw [← hno fun h => ho h.2]
   exact hM4
 have harg := (ins_right hc hk).2.1
 unfold argMost at harg
 rw [if_neg (by omega), if_pos (by omega)] at harg
 obtain ⟨q, hq⟩ : ∃ q : Nat, (insAt c k).arg = (q : Int) := ⟨(insAt c k).arg.toNat, by omega⟩
 have hql : q < c.procs.length := by omega
 refine rd_fld fd35_4 ?_
 refine rd_load ty33 (at_DCode_4 hA) hx4 fun v40 h40 => ?_
 refine rd_indexN u33 ty136 h40 hk fun b5 o5 hA5 => ?_
 rw [insAt_get] at hA5
 refine rd_fld fd136_1 ?_
 refine rd_loadI ty3 (at_DIns_1 hA5) hx4 fun _ => ?_
 rw [hq]
 refine rd_elt (α := Bool) rfl u72 ty4 hql ?_
 refine opu_elt (α := Bool) rfl ty4 hM4 setB_len hql mine_boolT fun w5 hc5 hm5 => ?_
 have hc5' : ChgI m (m + 1) w4 w5 := hc5.toI fun b hb => by simp only [List.mem_cons, List.not_mem_nil, or_false] at hb; omega
 refine rd_inc (by omega) ?_
 refine ⟨mk - 1, by omega, k + 1, by omega, rfl, by omega, hc4.trans hc5', ?_⟩
 rw [← setB_set (p := fun q => ∃ i, i < k ∧ LiveP c p i ∧ (insAt c i).op = op ∧ (insAt c i).arg = (q : Int)) hql fun r => ?_]
 · exact hm5
 · constructor
   · rintro ⟨i, h1, h2, h3, h4⟩
     by_cases h : i = k
     · subst h; right; omega
     · exact .inl ⟨i, by omega, h2, h3, h4⟩
   · rintro (⟨i, h1, h2⟩ | rfl)
     · exact ⟨i, by omega, h2⟩
     · exact ⟨k, by omega, hlive, ho, hq⟩
end Go.Proofs.YtjgfldfbljmhhaaGreat
namespace Go.Sh
set_option linter.unusedVariables false
set_option linter.unusedSimpArgs false
def andN (m n : Nat) : Nat := Nat.bitwise (fun a b => a && !b) m n
theorem andN_bit (m n i : Nat) : (andN m n).testBit i = (m.testBit i && !n.testBit i) := Nat.testBit_bitwise rfl m n i
theorem andN_le (m n : Nat) : andN m n ≤ m := Nat.le_of_testBit fun i h => by rw [andN_bit] at h; simp at h; exact h.1
section
variable {P : Program} {w : World} {K : Value → Prop} {t : TypeId} {x y : Operand}
theorem rd_and {m n : Nat} (hm : m < 4611686018427387904) (hn : n < 4611686018427387904) (k : K (.int .i64 ((m &&& n : Nat) : Int))) : RD P (bin .and t x y (.int .i64 (m : Int)) (.int .i64 (n : Int))) w K := by
 have hlt : m &&& n ≤ m := Nat.and_le_left
 refine rd_of (fun w' _ => ?_) k
 have e1 : IntKind.i64.wrap ((m &&& n : Nat) : Int) = ((m &&& n : Nat) : Int) := IntWalk.i64_in _ (by omega)
 have e2 : ((BitVec.ofInt 64 (m : Int)) &&& (BitVec.ofInt 64 (n : Int))).toNat = m &&& n := by
   simp only [BitVec.toNat_and, BitVec.ofInt_natCast, BitVec.toNat_ofNat]
   rw [Nat.mod_eq_of_lt (by omega), Nat.mod_eq_of_lt (by omega)]
 show (do eqGuard .and t x y (.int .i64 (m : Int)) (.int .i64 (n : Int)); binOp .and t (.int .i64 (m : Int)) (.int .i64 (n : Int)) : Sem Value).run P w' = _
 simp only [eqGuard, binOp, Op.intBits]
 show Result.ok (Value.int .i64 (IntKind.i64.wrap (((BitVec.ofInt 64 (m : Int)) &&& (BitVec.ofInt 64 (n : Int))).toNat : Nat))) w' = _
 rw [e2, e1]
theorem rd_andNot {m n : Nat} (hm : m < 4611686018427387904) (hn : n < 4611686018427387904) (k : K (.int .i64 ((andN m n : Nat) : Int))) : RD P (bin .andNot t x y (.int .i64 (m : Int)) (.int .i64 (n : Int))) w K := by
 have hlt : andN m n ≤ m := andN_le m n
 refine rd_of (fun w' _ => ?_) k
 have e1 : IntKind.i64.wrap ((andN m n : Nat) : Int) = ((andN m n : Nat) : Int) := IntWalk.i64_in _ (by omega)
 have e2 : ((BitVec.ofInt 64 (m : Int)) &&& ~~~(BitVec.ofInt 64 (n : Int))).toNat = andN m n := by
   apply Nat.eq_of_testBit_eq
   intro i
   have hm64 : m < 2 ^ 64 := by omega
   have hn64 : n < 2 ^ 64 := by omega
   simp only [BitVec.testBit_toNat, BitVec.getLsbD_and, BitVec.getLsbD_not, BitVec.ofInt_natCast, BitVec.getLsbD_ofNat, andN_bit]
   by_cases hi : i < 64
   · simp [hi]
   · have : m.testBit i = false := Nat.testBit_lt_two_pow (Nat.lt_of_lt_of_le hm64 (Nat.pow_le_pow_right (by omega) (by omega)))
     simp [hi, this]
 show (do eqGuard .andNot t x y (.int .i64 (m : Int)) (.int .i64 (n : Int)); binOp .andNot t (.int .i64 (m : Int)) (.int .i64 (n : Int)) : Sem Value).run P w' = _
 simp only [eqGuard, binOp, Op.intBits]
 show Result.ok (Value.int .i64 (IntKind.i64.wrap (((BitVec.ofInt 64 (m : Int)) &&& ~~~(BitVec.ofInt 64 (n : Int))).toNat : Nat))) w' = _
 rw [e2, e1]
theorem rd_shr {m n : Nat} {ku : IntKind} (hm : m < 4611686018427387904) (k : K (.int .i64 ((m >>> n : Nat) : Int))) : RD P (bin .shr t x y (.int .i64 (m : Int)) (.int ku (n : Int))) w K := by
 refine rd_of (fun w' _ => ?_) k
 have e0 : ¬ ((n : Int) < 0) := by omega
 have e1 : (m : Int).fdiv (2 ^ (min n 64)) = ((m >>> n : Nat) : Int) := by
   rw [Nat.shiftRight_eq_div_pow]
   have h2 : ((2 : Int) ^ (min n 64)) = ((2 ^ (min n 64) : Nat) : Int) := by simp
   rw [h2, Int.fdiv_eq_ediv_of_nonneg _ (Int.natCast_nonneg _), ← Int.natCast_ediv]
   by_cases h : n ≤ 64
   · rw [Nat.min_eq_left h]
   · rw [Nat.min_eq_right (by omega), Nat.div_eq_of_lt (by omega), Nat.div_eq_of_lt (Nat.lt_of_lt_of_le (by omega : m < 2 ^ 64) (Nat.pow_le_pow_right (by omega) (by omega)))]
 show (do eqGuard .shr t x y (.int .i64 (m : Int)) (.int ku (n : Int)); binOp .shr t (.int .i64 (m : Int)) (.int ku (n : Int)) : Sem Value).run P w' = _
 simp only [eqGuard, binOp, Op.shift, e0, if_false, Int.toNat_natCast]
 show Result.ok (Value.int .i64 ((m : Int).fdiv (2 ^ (min n 64)))) w' = _
 rw [e1]
end
def bitsTo (m : Nat) : Nat → List Int
 | 0 => []
 | k + 1 => if m.testBit k then bitsTo m k ++ [(k : Int)] else bitsTo m k
theorem bitsTo_len (m : Nat) : ∀ k, (bitsTo m k).length ≤ k
 | 0 => Nat.le_refl _
 | k + 1 => by
   have := bitsTo_len m k
   rw [bitsTo]
   split
   · simp; omega
   · omega
theorem bitsTo_past {m k : Nat} (h : m < 2 ^ k) : ∀ {j : Nat}, k ≤ j → bitsTo m j = bitsTo m k
 | 0, hj => by rw [Nat.le_zero.1 hj]
 | j + 1, hj => by
   by_cases e : k = j + 1
   · rw [e]
   · rw [bitsTo, if_neg, bitsTo_past h (by omega)]
     rw [Nat.testBit_lt_two_pow (Nat.lt_of_lt_of_le h (Nat.pow_le_pow_right (by omega) (by omega)))]
     simp
def bitsL (m : Nat) : List Int := bitsTo m 64
theorem bitsL_eq {m k : Nat} (h : m < 2 ^ k) (hk : k ≤ 64) : bitsL m = bitsTo m k := bitsTo_past h hk
theorem mem_bitsTo {m : Nat} {x : Int} : ∀ {k : Nat}, x ∈ bitsTo m k ↔ ∃ i, i < k ∧ x = (i : Int) ∧ m.testBit i = true
 | 0 => by simp [bitsTo]
 | k + 1 => by
   rw [bitsTo]
   constructor
   · intro h
     split at h
     · rename_i hb
       rcases List.mem_append.1 h with h | h
       · obtain ⟨i, h1, h2, h3⟩ := mem_bitsTo.1 h; exact ⟨i, by omega, h2, h3⟩
       · simp at h; exact ⟨k, by omega, h, hb⟩
     · obtain ⟨i, h1, h2, h3⟩ := mem_bitsTo.1 h; exact ⟨i, by omega, h2, h3⟩
   · rintro ⟨i, h1, h2, h3⟩
     by_cases e : i = k
     · subst e; rw [if_pos h3]; simp [h2]
     · have := (mem_bitsTo (m := m) (x := x) (k := k)).2 ⟨i, by omega, h2, h3⟩
       split
       · simp [this]
       · exact this
theorem bit_and (m i : Nat) : decide (((m >>> i &&& 1 : Nat) : Int) = 1) = m.testBit i := by
 have h : m >>> i &&& 1 = (m.testBit i).toNat := by
   rw [Nat.and_one_is_mod, Nat.testBit_eq_decide_div_mod_eq, Nat.shiftRight_eq_div_pow]
   rcases Nat.mod_two_eq_zero_or_one (m / 2 ^ i) with h | h <;> simp [h]
 rw [h]
 cases m.testBit i <;> rfl
theorem shr_zero {m i : Nat} : m >>> i = 0 ↔ m < 2 ^ i := by
 rw [Nat.shiftRight_eq_div_pow, Nat.div_eq_zero_iff]
 have : ¬ (2 ^ i = 0) := by have : 0 < 2 ^ i := Nat.pow_pos (by omega); omega
 simp [this]
end Go.Sh
namespace Go.Proofs.YtjgfldfbljmhhaaGreat
open Go Go.Sh Go.Proofs
set_option linter.unusedVariables false
set_option linter.unusedSimpArgs false
open Rep (rep)
def F164 (a0 a1 : Value) (w : World) (R : VW) : Prop :=
 RD tp (convert 3 77 a1) w fun x7 =>
 RD tp (bin .shr 3 T0 T0 a0 x7) w fun x8 =>
 RD tp (bin .and 3 T0 U0 x8 (Value.int .i64 1)) w fun x9 =>
 RD tp (bin .eql 3 T0 U0 x9 (Value.int .i64 1)) w fun x10 =>
 R x10 w
def cfg164 : Cfg := ⟨extL, [], [], [], [], [], []⟩
theorem F164_eq (a0 a1 : Value) (w : World) (R : VW) : vcF Tryz.prog cfg164 Tryz.f164 [a0, a1] w R = F164 a0 a1 w R := by kernel_rfl
theorem F164_call {a0 a1 : Value} {w : World} {R : VW} (h : F164 a0 a1 w R) : CALL Tryz.prog 164 [a0, a1] w R :=
 call_of (g := cfg164) ent mixed Tryz.func164 (Nat.le_of_ble_eq_true (by kernel_rfl)) (by kernel_rfl) (F164_eq a0 a1 w R ▸ h)
theorem hasBit_ok {w : World} {m : Nat} {i : Nat}   (hm : m < 4611686018427387904) (hi : i < 4611686018427387904) :
   CALL Tryz.prog 164 [.int .i64 (m : Int), .int .i64 (i : Int)] w fun r w' => Ext w w' ∧ (r = .bool (m.testBit i)) := by
 refine F164_call ?_
 unfold F164
 refine rd_uint (by kernel_rfl) u77 (by omega) ?_
 refine rd_shr (by omega) ?_
 refine rd_and (n := 1) (Nat.lt_of_le_of_lt (Nat.shiftRight_le m i) hm) (by omega) ?_
 refine rd_eql ?_
 refine ⟨Ext.refl w, ?_⟩
 rw [bit_and]
def F97 (a0 : Value) (w : World) (R : VW) : Prop :=
 LOOPI [3, 4] [(Value.slice none 0 0), (Value.int .i64 0)] w fun u3 w next3 =>
 RD tp (convert 3 77 (u3 4)) w fun x7 =>
 RD tp (bin .shr 3 T0 T0 a0 x7) w fun x8 =>
 RD tp (bin .neq 3 T0 U0 x8 (Value.int .i64 0)) w fun x9 =>
 BR x9
 (CALL tp 164 [a0, (u3 4)] w fun x14 w =>
 BR x14
 (OP tp (Instr.buildSlice 23 1 #[(0, (u3 4))]) w fun x17 w =>
 OP tp (Builtin.append_ #[23, 23] 23 [(u3 3), x17].toArray) w fun x18 w =>
 RD tp (bin .add 3 T0 U0 (u3 4) (Value.int .i64 1)) w fun x11 =>
 next3 [x18, x11] w)
 (RD tp (bin .add 3 T0 U0 (u3 4) (Value.int .i64 1)) w fun x11 =>
 next3 [(u3 3), x11] w))
 (R (u3 3) w)
def cfg97 : Cfg := ⟨extL, [], [(3, 524280, [3, 4])], [], [], [], []⟩
theorem F97_eq (a0 : Value) (w : World) (R : VW) : vcF Tryz.prog cfg97 Tryz.f97 [a0] w R = F97 a0 w R := by kernel_rfl
theorem F97_call {a0 : Value} {w : World} {R : VW} (h : F97 a0 w R) : CALL Tryz.prog 97 [a0] w R :=
 call_of (g := cfg97) ent mixed Tryz.func97 (Nat.le_of_ble_eq_true (by kernel_rfl)) (by kernel_rfl) (F97_eq a0 w R ▸ h)
theorem bitsOf_ok {w : World} {m : Nat}   (hm : m < 4611686018427387904) :
   CALL Tryz.prog 97 [.int .i64 (m : Int)] w fun r w' => Ext w w' ∧ (Own w.heap.size w' r (bitsL m)) := by
 refine F97_call ?_
 unfold F97
 refine loopC (62) (fun k us w' => ∃ v : Value, us = [v, .int .i64 (k : Int)] ∧ Ext w w' ∧ (RowI w.heap.size w'.heap.size 3 w' v (bitsTo m k))) (0) (by omega) ⟨_, rfl, Ext.refl w, rowI_nil _ _ _ _⟩ ?_
 rintro k m3 uu3 w1_ hk3 ⟨v3, hu, hx1_, hrow⟩
 have hs_hx1_ := hx1_.size
 simp only [List.map_cons, List.map_nil, List.cons.injEq, and_true] at hu
 obtain ⟨hu0, hu1⟩ := hu
 try rw [hu0]
 try rw [hu1]
 try clear hu0 hu1
 have hrl := bitsTo_len m k
 refine rd_uint (by kernel_rfl) u77 (by omega) ?_
 refine rd_shr (by omega) ?_
 refine rd_neq ?_
 refine br (fun c1 => ?_) (fun c1 => ?_)
 · have hk62 : k < 62 := by
     rcases Nat.lt_or_ge k 62 with h | h
     · exact h
     · have h1 : m < 2 ^ k := Nat.lt_of_lt_of_le (show m < 2 ^ 62 by omega) (Nat.pow_le_pow_right (by omega) h)
       exact absurd (by rw [shr_zero.2 h1]; rfl) c1
   refine (hasBit_ok (by omega) (by omega)).mono ?_
   rintro _ w2_ ⟨hx2_, rfl⟩
   have hs_hx2_ := hx2_.size
   refine br_b (fun c2 => ?_) (fun c2 => ?_)
   · refine op_push (α := Int) u23 ty3 z3 zc3 (by decide) (hrow.ext hx2_) (by omega) (ownI_int (lo := w2_.heap.size) (hi := w2_.heap.size) (by first | assumption | (unfold I64 at *; omega))) (by omega) (by omega) (by rw [maxLen_eq]; omega) (by omega) fun v18 w3_ hc3_ o18 => ?_
     have hs_hc3_ := hc3_.size
     refine rd_inc (by omega) ?_
     refine ⟨m3 - 1, by omega, k + 1, by omega, _, rfl, (Ext.chgI (hx1_.trans hx2_) hc3_ (by omega)), ?_⟩
     rw [bitsTo, if_pos c2]; exact o18
   · refine rd_inc (by omega) ?_
     refine ⟨m3 - 1, by omega, k + 1, by omega, _, rfl, (hx1_.trans hx2_), ?_⟩
     rw [bitsTo, if_neg (by simp [c2])]; exact (hrow.ext hx2_).mono (by omega) (by omega)
 · refine ⟨hx1_, ?_⟩
   have h1 : m >>> k = 0 := by have := Decidable.not_not.1 c1; omega
   rw [bitsL_eq (shr_zero.1 h1) (by omega)]
   exact hrow.own.own
def F119 (a0 : Value) (w : World) (R : VW) : Prop :=
 RD tp (convert 3 77 a0) w fun x4 =>
 RD tp (bin .shl 3 U0 T0 (Value.int .i64 1) x4) w fun x5 =>
 R x5 w
def cfg119 : Cfg := ⟨extL, [], [], [], [], [], []⟩
theorem F119_eq (a0 : Value) (w : World) (R : VW) : vcF Tryz.prog cfg119 Tryz.f119 [a0] w R = F119 a0 w R := by kernel_rfl
theorem F119_call {a0 : Value} {w : World} {R : VW} (h : F119 a0 w R) : CALL Tryz.prog 119 [a0] w R :=
 call_of (g := cfg119) ent mixed Tryz.func119 (Nat.le_of_ble_eq_true (by kernel_rfl)) (by kernel_rfl) (F119_eq a0 w R ▸ h)
theorem l12Bit_ok {w : World} {i : Nat}   (hi : i < 62) :
   CALL Tryz.prog 119 [.int .i64 (i : Int)] w fun r w' => Ext w w' ∧ (r = .int .i64 ((2 ^ i : Nat) : Int)) := by
 refine F119_call ?_
 unfold F119
 refine rd_uint (by kernel_rfl) u77 (by omega) ?_
 refine rd_shl1 (by omega) ?_
 refine ⟨Ext.refl w, ?_⟩
 rfl
def F123 (a0 : Value) (w : World) (R : VW) : Prop :=
 CALL tp 122 [a0, (Value.int .i64 0), (Value.int .i64 63)] w fun x4 w =>
 R x4 w
def cfg123 : Cfg := ⟨extL, [], [], [], [], [], []⟩
theorem F123_eq (a0 : Value) (w : World) (R : VW) : vcF Tryz.prog cfg123 Tryz.f123 [a0] w R = F123 a0 w R := by kernel_rfl
theorem F123_call {a0 : Value} {w : World} {R : VW} (h : F123 a0 w R) : CALL Tryz.prog 123 [a0] w R :=
 call_of (g := cfg123) ent mixed Tryz.func123 (Nat.le_of_ble_eq_true (by kernel_rfl)) (by kernel_rfl) (F123_eq a0 w R ▸ h)
theorem l12Ok_ok {w : World} {a : Int}    :
   CALL Tryz.prog 123 [.int .i64 a] w fun r w' => Ext w w' ∧ (r = .bool (decide (0 ≤ a ∧ a ≤ 63))) := by
 refine F123_call ?_
 unfold F123
 refine (l01In_ok ).mono ?_
 rintro _ w1_ ⟨hx1_, rfl⟩
 refine ⟨hx1_, ?_⟩
 rfl
def knotG (c : DCode) (s : DState) (t : Int) : Nat → Nat → Int → Nat
 | 0, _, _ => 0
 | n + 1, m, u => if waitsOf c s u < 0 then 0 else if ow s (waitsOf c s u) = t then m ||| 2 ^ (waitsOf c s u).toNat else knotG c s t n (m ||| 2 ^ (waitsOf c s u).toNat) (ow s (waitsOf c s u))
def knotOf (c : DCode) (s : DState) (t : Int) : Nat := knotG c s t s.stacks.length 0 t
theorem or_lt6 {m i : Nat} (hm : m < 64) (hi : i < 6) : m ||| 2 ^ i < 64 := Nat.or_lt_two_pow (n := 6) hm (Nat.pow_lt_pow_right (by omega) hi)
def knotsTo (c : DCode) (s : DState) : Nat → Nat
 | 0 => 0
 | k + 1 => if knotOf c s k ≠ 0 then knotsTo c s k ||| 2 ^ (waitsOf c s k).toNat else knotsTo c s k
def F195 (a0 a1 : Value) (w : World) (R : VW) : Prop :=
 CALL tp 97 [a1] w fun x9 w =>
 RD tp (ln 23 3 x9) w fun x10 =>
 LOOPI [5, 11] [(Value.int .i64 0), (Value.int .i64 0)] w fun u3 w next3 =>
 RD tp (bin .lss 3 T0 T0 (u3 11) x10) w fun x12 =>
 BR x12
 (RD tp (Instr.indexAt 23 x9 (u3 11)) w fun x13 =>
 RD tp (Instr.loadAt 3 x13) w fun x14 =>
 RD tp (Instr.indexAt 23 a0 x14) w fun x18 =>
 RD tp (Instr.loadAt 3 x18) w fun x19 =>
 RD tp (bin .or 3 T0 T0 (u3 5) x19) w fun x20 =>
 RD tp (bin .add 3 T0 U0 (u3 11) (Value.int .i64 1)) w fun x21 =>
 next3 [x20, x21] w)
 (R (u3 5) w)
def cfg195 : Cfg := ⟨extL, [], [(3, 4192416, [5, 11])], [], [], [], []⟩
theorem F195_eq (a0 a1 : Value) (w : World) (R : VW) : vcF Tryz.prog cfg195 Tryz.f195 [a0, a1] w R = F195 a0 a1 w R := by kernel_rfl
theorem F195_call {a0 a1 : Value} {w : World} {R : VW} (h : F195 a0 a1 w R) : CALL Tryz.prog 195 [a0, a1] w R :=
 call_of (g := cfg195) ent mixed Tryz.func195 (Nat.le_of_ble_eq_true (by kernel_rfl)) (by kernel_rfl) (F195_eq a0 a1 w R ▸ h)
set_option linter.unusedVariables false
set_option linter.unusedSimpArgs false
def orL (sets : List Nat) (l : List Int) : Nat := l.foldl (fun a i => a ||| sets.getD i.toNat 0) 0
theorem orL_snoc (sets : List Nat) (l : List Int) (i : Int) : orL sets (l ++ [i]) = orL sets l ||| sets.getD i.toNat 0 := by simp [orL]
theorem orL_lt {sets : List Nat} (hs : ∀ x ∈ sets, x < 256) (l : List Int) : orL sets l < 256 := by
 have key : ∀ (l : List Int) (a : Nat), a < 256 → l.foldl (fun a i => a ||| sets.getD i.toNat 0) a < 256 := fun l => by
   induction l with
   | nil => exact fun a h => h
   | cons i l ih =>
     intro a ha
     rw [List.foldl_cons]
     refine ih _ (Nat.or_lt_two_pow (n := 8) ha ?_)
     rw [List.getD_eq_getElem?_getD]
     cases h : sets[i.toNat]? with
     | none => simp
     | some x => exact hs x (List.mem_of_getElem? h)
 exact key l 0 (by omega)
theorem unionOf_ok {w W0 : World} {v0 : Value} {sets : List Nat} {m : Nat} (h0 : Is W0 v0 (ints sets)) (e0 : Ext W0 w) (hs : ∀ x ∈ sets, x < 256) (hl : sets.length ≤ 8) (hm : m < 2 ^ sets.length) :
   CALL Tryz.prog 195 [v0, .int .i64 (m : Int)] w fun r w' => Ext w w' ∧ r = .int .i64 (orL sets (bitsL m) : Nat) := by
 refine F195_call ?_
 unfold F195
 have h256 : 2 ^ sets.length ≤ 2 ^ 8 := Nat.pow_le_pow_right (by omega) hl
 refine (bitsOf_ok (m := m) (by omega)).mono ?_
 rintro v9 w1 ⟨hx1, ho1⟩
 have hbl : (bitsL m).length ≤ 64 := bitsTo_len m 64
 refine rd_len u23 ho1.is ?_
 refine loopC (bitsL m).length (fun k us w' => us = [.int .i64 ((orL sets ((bitsL m).take k) : Nat) : Int), .int .i64 (k : Int)] ∧ k ≤ (bitsL m).length ∧ Ext w1 w') 0 (Nat.zero_le _) ⟨rfl, Nat.zero_le _, Ext.refl _⟩ ?_
 rintro k mk u w2 hkm ⟨hu, hkl, hx2⟩
 simp only [List.map_cons, List.map_nil, List.cons.injEq, and_true] at hu
 obtain ⟨hu1, hu2⟩ := hu
 rw [hu1, hu2]
 refine rd_lss ?_
 refine br (fun hlt => ?_) (fun hge => ?_)
 case refine_2 =>
   have : k = (bitsL m).length := by omega
   rw [this, List.take_length]
   exact ⟨hx1.trans hx2, rfl⟩
 have hk : k < (bitsL m).length := by omega
 have hmem : (bitsL m)[k] ∈ bitsL m := List.getElem_mem hk
 obtain ⟨i, hi1, hi2, hi3⟩ := mem_bitsTo.1 hmem
 have hil : i < sets.length := Decidable.byContradiction fun hc => by
   have := Nat.testBit_lt_two_pow (Nat.lt_of_lt_of_le hm (Nat.pow_le_pow_right (by omega) (by omega : sets.length ≤ i)))
   rw [this] at hi3; cases hi3
 refine rd_indexN u23 ty3 (i := k) ho1.is hk fun b1 o1 hA1 => ?_
 refine rd_loadI ty3 hA1 hx2 fun _ => ?_
 rw [hi2]
 refine rd_indexN u23 ty3 (i := i) h0 (by rw [ints_len]; exact hil) fun b2 o2 hA2 => ?_
 rw [ints_get] at hA2
 refine rd_loadI ty3 hA2 ((e0.trans hx1).trans hx2) fun _ => ?_
 have h1 := orL_lt hs ((bitsL m).take k)
 have h2 := hs sets[i] (List.getElem_mem hil)
 refine rd_or (by omega) (by omega) ?_
 refine rd_inc (by omega) ?_
 refine ⟨mk - 1, by omega, k + 1, by omega, ?_, by omega, hx2⟩
 rw [List.take_succ_eq_append_getElem hk, orL_snoc, hi2, Int.toNat_natCast, List.getD_eq_getElem?_getD, List.getElem?_eq_getElem hil]
 rfl
def F186 (a0 a1 : Value) (w : World) (R : VW) : Prop :=
 OP tp (Instr.box 35 a0) w fun x2 w =>
 RD tp (Instr.fieldAt 35 x2 2) w fun x10 =>
 RD tp (Instr.loadAt 22 x10) w fun x11 =>
 RD tp (ln 22 3 x11) w fun x12 =>
 OP tp (Instr.makeSlice 72 x12 x12) w fun x13 w =>
 RD tp (Instr.indexAt 72 x13 a1) w fun x16 =>
 OPU tp (Instr.storeAt 4 x16 (Value.bool true)) w fun w =>
 OP tp (Instr.buildSlice 23 1 #[(0, a1)]) w fun x18 w =>
 LOOPI [6, 7] [x18, (Value.int .i64 0)] w fun u5 w next5 =>
 RD tp (ln 23 3 (u5 6)) w fun x21 =>
 RD tp (bin .lss 3 T0 T0 (u5 7) x21) w fun x22 =>
 BR x22
 ((fun w => RD tp (Instr.loadAt 35 x2) w fun x25 =>
 RD tp (Instr.indexAt 23 (u5 6) (u5 7)) w fun x28 =>
 RD tp (Instr.loadAt 3 x28) w fun x29 =>
 CALL tp 189 [x25, x29, (Value.int .i64 4)] w fun x30 w =>
 LOOPI [6, 9] [(u5 6), (Value.int .i64 0)] w fun u9 w next9 =>
 RD tp (ln 23 3 x30) w fun x33 =>
 RD tp (bin .lss 3 T0 T0 (u9 9) x33) w fun x34 =>
 BR x34
 (RD tp (Instr.indexAt 23 x30 (u9 9)) w fun x40 =>
 RD tp (Instr.loadAt 3 x40) w fun x41 =>
 RD tp (Instr.indexAt 72 x13 x41) w fun x42 =>
 RD tp (Instr.loadAt 4 x42) w fun x43 =>
 RD tp (Op.unary .not x43) w fun x44 =>
 BR x44
 (RD tp (Instr.indexAt 23 x30 (u9 9)) w fun x48 =>
 RD tp (Instr.loadAt 3 x48) w fun x49 =>
 RD tp (Instr.indexAt 72 x13 x49) w fun x50 =>
 OPU tp (Instr.storeAt 4 x50 (Value.bool true)) w fun w =>
 RD tp (Instr.indexAt 23 x30 (u9 9)) w fun x54 =>
 RD tp (Instr.loadAt 3 x54) w fun x55 =>
 OP tp (Instr.buildSlice 23 1 #[(0, x55)]) w fun x56 w =>
 OP tp (Builtin.append_ #[23, 23] 23 [(u9 6), x56].toArray) w fun x57 w =>
 RD tp (bin .add 3 T0 U0 (u9 9) (Value.int .i64 1)) w fun x36 =>
 next9 [x57, x36] w)
 (RD tp (bin .add 3 T0 U0 (u9 9) (Value.int .i64 1)) w fun x36 =>
 next9 [(u9 6), x36] w))
 (RD tp (bin .add 3 T0 U0 (u5 7) (Value.int .i64 1)) w fun x24 =>
 next5 [(u9 6), x24] w)) (World.drew1 w))
 (R x13 w)
def cfg186 : Cfg := ⟨extL, [], [(5, 288230376151188416, [6, 7]), (9, 288230374004228672, [6, 9])], [(7, [0, 1, 2, 3, 4, 5, 6], 0)], [], [], []⟩
theorem F186_eq (a0 a1 : Value) (w : World) (R : VW) : vcF Tryz.prog cfg186 Tryz.f186 [a0, a1] w R = F186 a0 a1 w R := by kernel_rfl
theorem F186_call {a0 a1 : Value} {w : World} {R : VW} (h : F186 a0 a1 w R) : CALL Tryz.prog 186 [a0, a1] w R :=
 call_of (g := cfg186) ent mixed Tryz.func186 (Nat.le_of_ble_eq_true (by kernel_rfl)) (by kernel_rfl) (F186_eq a0 a1 w R ▸ h)
set_option linter.unusedVariables false
set_option linter.unusedSimpArgs false
noncomputable def callN (c : DCode) (p : Nat) : List Nat := setL c.procs.length (OpsP c p 4)
theorem l10FromM_ok {w W0 : World} {v0 : Value} {c : DCode} {a : Nat} (h0 : Is W0 v0 c) (e0 : Ext W0 w) (hc : CodeR c) (ha : a < c.procs.length) :
   CALL Tryz.prog 186 [v0, .int .i64 (a : Int)] w fun r w' => Ext w w' ∧ ∃ m, r = .slice (some ⟨m, 0, none⟩) c.procs.length c.procs.length ∧ w.heap.size ≤ m ∧ Mine [m] w' (.slice (some ⟨m, 0, none⟩) c.procs.length c.procs.length) (setB c.procs.length fun i => i = a ∨ RP (callN c) a i) := by
 refine F186_call ?_
 unfold F186
 have h8 := hc.1.procs8
 have hep := hc.2.1.1
 have hcn : ∀ x, callN c x = setL c.procs.length (OpsP c x 4) := fun _ => rfl
 refine op_box h0 e0 fun w1 hx1 hA => ?_
 refine rd_fld fd35_2 ?_
 refine rd_load ty22 (at_DCode_2 hA) (Ext.refl _) fun v11 h11 => ?_
 refine rd_len u22 h11 ?_
 generalize hn : c.procs.length = n at *
 have hnl : ∀ {i j : Nat}, i < n → j ∈ callN c i → j < n ∧ True := fun {i j} _ hj => by rw [hcn] at hj; exact ⟨(mem_setL.1 hj).1, trivial⟩
 have hnxl : ∀ x, (callN c x).length ≤ n := fun x => by rw [hcn]; exact setL_len
 refine op_makeB h8.2 (by omega) fun w2 hx2 hM2 => ?_
 have hs1 := hx1.size
 have hs2 := hx2.size
 refine rd_elt (α := Bool) rfl u72 ty4 ha ?_
 refine opu_elt (α := Bool) rfl ty4 hM2 (by simp) ha mine_boolT fun w2b hc2 hM2b => ?_
 have hc2' : ChgI w1.heap.size (w1.heap.size + 1) w2 w2b := hc2.toI fun b hb => by simp only [List.mem_cons, List.not_mem_nil, or_false] at hb; omega
 have hs2b := hc2'.size
 have hM0l : ((List.replicate n false).set a true).length = n := by simp
 have hM0 : ∀ i, mkd ((List.replicate n false).set a true) i ↔ i = a := fun i => by
   rw [mkd_set (by simp; exact ha)]
   exact ⟨fun h => h.resolve_left mkd_replicate, .inr⟩
 generalize (List.replicate n false).set a true = M0 at *
 refine op_build1R (x := (a : Int)) u23 ty3 z3 (by decide) (mine_int (by unfold I64; omega)) fun v15 w3 hx3 hr3 => ?_
 have hs3 := hx3.size
 generalize hm : w1.heap.size = m at *
 have hW3 : WI w1 w3 m n w2b.heap.size w3.heap.size v15 [a] M0 := ⟨(hx2.toI.trans hc2').trans hx3.toI, hr3, hM2b.ext hx3, by omega, by have := hM2b.lt m (by simp); omega, hs3, Nat.le_refl _⟩
 generalize callN c = nx at *
 refine loopC (1 + n) (fun h us w' => ∃ (tv : Value) (lo hi : Nat) (L : List Nat) (ms : List Bool), us = [tv, .int .i64 (h : Int)] ∧ h ≤ L.length ∧ WI w1 w' m n lo hi tv L ms ∧ SInv nx n a M0 ms (L.drop h) h) 0 (Nat.zero_le _) ⟨v15, _, _, [a], _, rfl, by simp, hW3, SInv.start hM0l ha⟩ ?_
 rintro h mk u w4 hkm ⟨tv, lo, hi, L, ms, hu, hhL, hW4, hS4⟩
 simp only [List.map_cons, List.map_nil, List.cons.injEq, and_true] at hu
 obtain ⟨hu1, hu2⟩ := hu
 rw [hu1, hu2]
 have hb4 := hS4.bound
 rw [List.length_drop] at hb4
 refine rd_len u23 hW4.row.is ?_
 rw [ints_len]
 refine rd_lss ?_
 refine br (fun hlt => ?_) (fun hge => ?_)
 case refine_2 =>
   have hhe : h = L.length := by omega
   rw [hhe, List.drop_length] at hS4
   have hfin := hS4.fin fun i hi hne => absurd ((hM0 i).1 hi) hne
   have hms : ms = setB n (fun i => i = a ∨ RP nx a i) := marks_setB hS4.len fun i hi => by rw [hfin i, hM0]
   rw [← hms]
   have hx4 : Ext w1 w4 := (Ext.refl w1).chgI hW4.chg (by omega)
   exact ⟨hx1.trans hx4, m, rfl, by omega, hW4.mks⟩
 have hh : h < L.length := by omega
 have hx5 := ext_drew w4
 have hW5 := hW4.step hx5
 generalize World.drew1 w4 = w5 at *
 have hxa : ∀ {w : World} {lo hi tv L ms}, WI w1 w m n lo hi tv L ms → Ext w1 w := fun h => (Ext.refl w1).chgI h.chg (by omega)
 refine rd_load ty35 hA (hxa hW5) fun v22 h22 => ?_
 refine rd_indexN u23 ty3 (i := h) hW5.row.is (by rw [ints_len]; exact hh) fun b1 o1 hA1 => ?_
 rw [ints_get] at hA1
 refine rd_loadI ty3 hA1 (Ext.refl _) fun _ => ?_
 generalize hx : L[h] = x at *
 have hdr : L.drop h = x :: L.drop (h + 1) := by rw [List.drop_eq_getElem_cons hh, hx]
 have hxn : x < n := (hS4.tdo x (by rw [hdr]; simp)).2
 refine (l10Ops_ok h22 (hxa hW5) hc (by omega) (.inl rfl)).mono ?_
 rintro v27 w6 ⟨hx6, ho6⟩
 rw [hn, ← hcn] at ho6
 have hW6 := hW5.step hx6
 have hI6 := hW5.h3
 have hm6 := hW5.mks.lt m (by simp)
 have hS6 : SIn2 nx n a M0 ms (L.drop (h + 1)) h x 0 := hS4.pop (fun i => by rw [hdr]; simp [or_comm]) (by rw [hdr]; simp)
 have hl2 := hnxl x
 refine loopC (nx x).length (fun q us w' => ∃ (tv : Value) (lo hi : Nat) (L : List Nat) (ms : List Bool), us = [tv, .int .i64 (q : Int)] ∧ q ≤ (nx x).length ∧ h < L.length ∧ WI w1 w' m n lo hi tv L ms ∧ SIn2 nx n a M0 ms (L.drop (h + 1)) h x q ∧ OwnI w5.heap.size w6.heap.size w' v27 (ints (nx x)) ∧ (hi ≤ w5.heap.size ∨ w6.heap.size ≤ lo) ∧ w6.heap.size ≤ w'.heap.size) 0 (Nat.zero_le _) ⟨tv, lo, hi, L, ms, rfl, Nat.zero_le _, hh, hW6, hS6, ho6.toI, .inl hI6, Nat.le_refl _⟩ ?_
 rintro q mk8 u8 w7 hkm8 ⟨tv7, lo7, hi7, L7, ms7, hu8, hql, hh7, hW7, hS7, ho7, hd7, hz7⟩
 simp only [List.map_cons, List.map_nil, List.cons.injEq, and_true] at hu8
 obtain ⟨hu81, hu82⟩ := hu8
 rw [hu81, hu82]
 refine rd_len u23 ho7.is ?_
 rw [ints_len]
 refine rd_lss ?_
 refine br (fun hlt8 => ?_) (fun hge8 => ?_)
 case refine_2 =>
   refine rd_inc (by omega) ?_
   exact ⟨mk - 1, by omega, h + 1, by omega, tv7, lo7, hi7, L7, ms7, rfl, by omega, hW7, hS7.done (by omega)⟩
 have hq : q < (nx x).length := by omega
 have hrd : ∀ {w : World} {K : Value → Prop} (ho : OwnI w5.heap.size w6.heap.size w v27 (ints (nx x))) (k : K (.int .i64 (((nx x)[q] : Nat) : Int))), RD Tryz.prog (Instr.indexAt 23 v27 (.int .i64 (q : Int))) w fun x37 => RD Tryz.prog (Instr.loadAt 3 x37) w K := fun ho k => by
   refine rd_indexN u23 ty3 (i := q) ho.is (by rw [ints_len]; exact hq) fun b1 o1 hA1 => ?_
   rw [ints_get] at hA1
   exact rd_loadI ty3 hA1 (Ext.refl _) fun _ => k
 have hy := hnl hxn (List.getElem_mem hq)
 refine hrd ho7 ?_
 have hlen7 := hS7.len
 refine rd_indexN u72 ty4 hW7.mks.is (by rw [hlen7]; exact hy.1) fun b2 o2 hA2 => ?_
 refine rd_loadB ty4 hA2 (Ext.refl _) ?_
 refine rd_not ?_
 have hmk7 := mkd_get (ms := ms7) (i := (nx x)[q]) (by rw [hlen7]; exact hy.1)
 refine br_b (fun hf => ?_) (fun hf => ?_)
 · have hnm : ¬ mkd ms7 (nx x)[q] := by rw [hmk7]; simpa using hf
   refine hrd ho7 ?_
   refine rd_elt (α := Bool) rfl u72 ty4 hy.1 ?_
   refine opu_elt (α := Bool) rfl ty4 hW7.mks hlen7 hy.1 mine_boolT fun w8 hc8 hm8 => ?_
   have hW8 := hW7.mark hc8 hm8
   have hc8' : ChgI m (m + 1) w7 w8 := hc8.toI fun b hb => by simp only [List.mem_cons, List.not_mem_nil, or_false] at hb; omega
   have ho8 := ho7.chg hc8' (by omega)
   refine hrd ho8 ?_
   have hS8 := hS7.push hq hy.1 hnm
   generalize (nx x)[q] = y at *
   have hLb : L7.length ≤ 2 + n := by
     have h1 := hS7.cnt
     have h2 := cntM_le ms7
     rw [List.length_drop] at h1
     omega
   refine op_pushD1 (x := (y : Int)) u23 ty3 z3 zc3 (by decide) hW8.row (ownI_int 0 0 (by unfold I64; omega)) (by rw [maxLen_eq, ints_len]; omega) (by rw [ints_len]; omega) fun v54 w9 lo9 hi9 hc9 hr9 hd9 => ?_
   have hW9 := hW8.push hc9 hr9 hd9
   have hsz8 := hc8'.size
   have hsz7 := ho7.is
   refine rd_inc (by omega) ?_
   refine ⟨mk8 - 1, by omega, q + 1, by omega, v54, lo9, hi9, L7 ++ [y], _, rfl, by omega, by simp; omega, hW9, ?_, ho8.chg hc9 (by omega), by omega, by have := hc9.size; omega⟩
   rw [List.drop_append_of_le_length (by omega)]
   exact hS8
 · have hnm : mkd ms7 (nx x)[q] := by rw [hmk7]; simpa using hf
   refine rd_inc (by omega) ?_
   exact ⟨mk8 - 1, by omega, q + 1, by omega, tv7, lo7, hi7, L7, ms7, rfl, by omega, hh7, hW7, hS7.skip hq hnm, ho7, hd7, hz7⟩
noncomputable def m6 (p : Nat → Prop) : Nat := setN p 6
theorem m6_bit {p : Nat → Prop} {l : Nat} : (m6 p).testBit l = true ↔ l < 6 ∧ p l := setN_bit
theorem m6_lt {p : Nat → Prop} : m6 p < 64 := setN_lt (n := 6)
theorem bit_lt6 {m l : Nat} (h : m < 64) (hb : m.testBit l = true) : l < 6 := Decidable.byContradiction fun hc => by
 have := Nat.testBit_lt_two_pow (Nat.lt_of_lt_of_le (show m < 2 ^ 6 from h) (Nat.pow_le_pow_right (by omega) (by omega : 6 ≤ l)))
 rw [this] at hb; cases hb
theorem eq_m6 {m : Nat} {p : Nat → Prop} (h : m < 64) (hb : ∀ l, l < 6 → (m.testBit l = true ↔ p l)) : m = m6 p :=
 eq_setN fun l => ⟨fun e => ⟨bit_lt6 h e, (hb l (bit_lt6 h e)).1 e⟩, fun e => (hb l e.1).2 e.2⟩
theorem m6_congr {p q : Nat → Prop} (h : ∀ l, l < 6 → (p l ↔ q l)) : m6 p = m6 q := setN_congr h
theorem bit_of_not {m l : Nat} (h : ¬ m.testBit l = false) : m.testBit l = true := by simpa using h
def nat0 (l : List Nat) (i : Nat) : Nat := l.getD i 0
theorem nat0_get {l : List Nat} {i : Nat} (h : i < l.length) : l[i] = nat0 l i := by unfold nat0; rw [List.getD_eq_getElem?_getD, List.getElem?_eq_getElem h]; rfl
theorem nat0_set {l : List Nat} {i j v : Nat} (hi : i < l.length) : nat0 (l.set i v) j = if i = j then v else nat0 l j := by
 unfold nat0
 rw [List.getD_eq_getElem?_getD, List.getD_eq_getElem?_getD, List.getElem?_set]
 by_cases h : i = j
 · subst h; simp [hi]
 · simp [h]
theorem sum_set : ∀ {l : List Nat} {i v : Nat}, i < l.length → (l.set i v).sum + nat0 l i = l.sum + v
 | x :: l, 0, v, _ => by simp [nat0]; omega
 | x :: l, i + 1, v, h => by
   have := sum_set (l := l) (i := i) (v := v) (by simpa using h)
   simp only [nat0, List.set_cons_succ, List.sum_cons, List.getD_cons_succ] at this ⊢
   omega
theorem ints_set (l : List Nat) (i v : Nat) : ints (l.set i v) = (ints l).set i (v : Int) := by simp [ints, List.map_set]
theorem sum_le {l : List Nat} {b : Nat} (h : ∀ x ∈ l, x ≤ b) : l.sum ≤ l.length * b := by
 induction l with
 | nil => simp
 | cons x l ih =>
   have h1 := ih fun y hy => h y (by simp [hy])
   have h2 := h x (by simp)
   rw [List.sum_cons, List.length_cons, Nat.add_mul]; omega
theorem nat0_mem {l : List Nat} {i : Nat} (h : i < l.length) : nat0 l i ∈ l := by rw [← nat0_get h]; exact List.getElem_mem h
theorem ints_nat0 {l : List Nat} {i : Nat} (h : i < (ints l).length) : (ints l)[i] = (nat0 l i : Int) := by rw [ints_get, nat0_get]
def eN (c : DCode) (p : Nat) : Nat := (en c p).toNat
def zN (c : DCode) (p : Nat) : Nat := (endB c p - 1).toNat
def agN (c : DCode) (i : Nat) : Nat := (insAt c i).arg.toNat
theorem eN_eq {c : DCode} (hc : CodeR c) {p : Nat} (hp : p < c.entry.length) : en c p = (eN c p : Int) ∧ eN c p < c.ins.length ∧ procOf c (eN c p) = p := by
 have h := proc_en hc hp
 unfold eN
 rw [Int.toNat_of_nonneg h.1]
 exact ⟨rfl, by omega, h.2.2⟩
theorem zN_eq {c : DCode} (hc : CodeR c) {p : Nat} (hp : p < c.entry.length) : endB c p = (zN c p : Int) + 1 ∧ eN c p ≤ zN c p ∧ zN c p < c.ins.length := by
 have h1 := hc.f.lt p hp
 have h2 := hc.f.nonneg hp
 have h4 := hc.f.lt p hp
 have h5 : endB c p ≤ c.ins.length := h4.2
 unfold zN eN
 omega
theorem live_lt {c : DCode} (hc : CodeR c) {p i : Nat} (hp : p < c.entry.length) (h : LiveP c p i) : i < c.ins.length ∧ procOf c i = p := by
 have he := eN_eq hc hp
 rcases h with rfl | h
 · exact ⟨he.2.1, he.2.2⟩
 · refine h.keeps (p := fun i => i < c.ins.length ∧ procOf c i = p) ⟨he.2.1, he.2.2⟩ fun i j hi hj => ?_
   have := nextN_lt hc hi.1 hj
   exact ⟨this.1, this.2.trans hi.2⟩
theorem live_next {c : DCode} {p i j : Nat} (h : LiveP c p i) (hj : j ∈ nextN c i) : LiveP c p j := by
 rcases h with rfl | h
 · exact .inr (.one hj)
 · exact .inr (.more h hj)
theorem in_proc {c : DCode} (hc : CodeR c) {p i : Nat} (hi : i < c.ins.length) (hp : p < c.entry.length) (h : procOf c i = p) : eN c p ≤ i ∧ i ≤ zN c p := by
 obtain ⟨q, hq, h1, h2, h3⟩ := hc.f.find hc.1.procs8.2 (a := (i : Int)) (by omega) (by omega)
 have : q = p := by omega
 subst this
 have h4 := zN_eq hc hp
 have h5 := eN_eq hc hp
 omega
theorem proc_in {c : DCode} (hc : CodeR c) {p i : Nat} (hp : p < c.entry.length) (h1 : eN c p ≤ i) (h2 : i ≤ zN c p) : procOf c i = p := by
 have h4 := zN_eq hc hp
 have h5 := eN_eq hc hp
 exact hc.f.proc hp (by omega) (by omega)
theorem ag_proc {c : DCode} (hc : CodeR c) {i : Nat} (hi : i < c.ins.length) (ho : (insAt c i).op = 4 ∨ (insAt c i).op = 5) : (insAt c i).arg = (agN c i : Int) ∧ agN c i < c.procs.length := by
 have harg := (ins_right hc hi).2.1
 unfold argMost at harg
 rw [if_neg (by omega), if_pos (by omega)] at harg
 unfold agN
 omega
theorem ag_lock {c : DCode} (hc : CodeR c) {i : Nat} (hi : i < c.ins.length) (ho : (insAt c i).op = 6 ∨ (insAt c i).op = 7) : (insAt c i).arg = (agN c i : Int) ∧ agN c i < c.locks.length ∧ agN c i < 6 := by
 have h := lock_arg hc hi ho
 have h6 := hc.1.locks6
 unfold agN
 omega
def genX (c : DCode) (K G : Nat → Nat → Prop) (i l : Nat) : Prop := ((insAt c i).op = 7 ∧ agN c i = l) ∨ ((insAt c i).op = 4 ∧ ¬ K (agN c i) l ∧ ¬ G (agN c i) l)
def passX (c : DCode) (G : Nat → Nat → Prop) (i l : Nat) : Prop := ¬ ((insAt c i).op = 6 ∧ agN c i = l) ∧ ¬ ((insAt c i).op = 4 ∧ G (agN c i) l)
inductive LostP (c : DCode) (K G : Nat → Nat → Prop) (p : Nat) (h : Nat → Prop) : Nat → Nat → Prop
 | ent {l : Nat} (h0 : ¬ h l) : LostP c K G p h (eN c p) l
 | gen {i j l : Nat} (h0 : LiveP c p i) (hj : j ∈ nextN c i) (h1 : genX c K G i l) : LostP c K G p h j l
 | pass {i j l : Nat} (h0 : LiveP c p i) (hj : j ∈ nextN c i) (h1 : LostP c K G p h i l) (h2 : passX c G i l) : LostP c K G p h j l
theorem LostP.mono {c : DCode} {K K' G G' : Nat → Nat → Prop} {p : Nat} {h h' : Nat → Prop} (hK : ∀ q l, K' q l → K q l) (hG : ∀ q l, G' q l → G q l) (hh : ∀ l, h' l → h l) {i l : Nat} (hl : LostP c K G p h i l) : LostP c K' G' p h' i l := by
 induction hl with
 | ent h0 => exact .ent fun e => h0 (hh _ e)
 | gen h0 hj h1 => exact .gen h0 hj (h1.imp id fun ⟨a, b, d⟩ => ⟨a, fun e => b (hK _ _ e), fun e => d (hG _ _ e)⟩)
 | pass h0 hj _ h2 ih => exact .pass h0 hj ih ⟨h2.1, fun ⟨a, b⟩ => h2.2 ⟨a, hG _ _ b⟩⟩
abbrev Tab := List (Nat × Nat)
def tbl (T : Tab) (q : Nat) : Nat × Nat := T.getD q (0, 0)
def tK (T : Tab) (q l : Nat) : Prop := (tbl T q).1.testBit l = true
def tG (T : Tab) (q l : Nat) : Prop := (tbl T q).2.testBit l = true
theorem tbl_get {T : Tab} {q : Nat} (h : q < T.length) : T[q] = tbl T q := by unfold tbl; rw [List.getD_eq_getElem?_getD, List.getElem?_eq_getElem h]; rfl
theorem tbl_set {T : Tab} {q r : Nat} {v : Nat × Nat} (h : q < T.length) : tbl (T.set q v) r = if q = r then v else tbl T r := by
 unfold tbl
 rw [List.getD_eq_getElem?_getD, List.getD_eq_getElem?_getD, List.getElem?_set]
 by_cases e : q = r
 · subst e; simp [h]
 · simp [e]
def TabR (c : DCode) (T : Tab) : Prop := T.length = c.procs.length ∧ ∀ q, (tbl T q).1 < 64 ∧ (tbl T q).2 < 64
def aft (c : DCode) (T : Tab) (i m : Nat) : Nat :=
 if (insAt c i).op = 6 then m ||| 2 ^ agN c i else if (insAt c i).op = 7 then andN m (2 ^ agN c i) else if (insAt c i).op = 4 then (m &&& (tbl T (agN c i)).1) ||| (tbl T (agN c i)).2 else m
theorem aft_lt {c : DCode} {T : Tab} (hc : CodeR c) (hT : TabR c T) {i m : Nat} (hi : i < c.ins.length) (hm : m < 64) : aft c T i m < 64 := by
 unfold aft
 split
 · rename_i h
   exact or_lt6 hm (ag_lock hc hi (.inl h)).2.2
 · split
   · exact Nat.lt_of_le_of_lt (andN_le _ _) hm
   · split
     · exact Nat.or_lt_two_pow (n := 6) (Nat.lt_of_le_of_lt Nat.and_le_left hm) (hT.2 _).2
     · exact hm
theorem aft_bit {c : DCode} {T : Tab} {i m l : Nat} : (aft c T i m).testBit l = false ↔ genX c (tK T) (tG T) i l ∨ (passX c (tG T) i l ∧ m.testBit l = false) := by
 unfold aft genX passX tK tG
 split
 · rename_i h
   rw [Nat.testBit_or, Nat.testBit_two_pow]
   have e6 : ((insAt c i).op = 6) = True := eq_true h
   have e4 : ((insAt c i).op = 4) = False := eq_false (by omega)
   have e7 : ((insAt c i).op = 7) = False := eq_false (by omega)
   simp only [e6, e4, e7, true_and, false_and, false_or, or_false, not_false_eq_true, and_true, Bool.or_eq_false_iff, decide_eq_false_iff_not]
   exact ⟨fun ⟨a, b⟩ => ⟨b, a⟩, fun ⟨a, b⟩ => ⟨b, a⟩⟩
 · rename_i h6
   have e6 : ((insAt c i).op = 6) = False := eq_false h6
   split
   · rename_i h
     have e7 : ((insAt c i).op = 7) = True := eq_true h
     have e4 : ((insAt c i).op = 4) = False := eq_false (by omega)
     rw [andN_bit, Nat.testBit_two_pow]
     simp only [e6, e4, e7, true_and, false_and, false_or, or_false, not_false_eq_true, and_true, Bool.and_eq_false_iff, Bool.not_eq_false', decide_eq_true_eq]
     exact ⟨fun h => h.elim .inr .inl, fun h => h.elim .inr .inl⟩
   · rename_i h7
     have e7 : ((insAt c i).op = 7) = False := eq_false h7
     split
     · rename_i h
       have e4 : ((insAt c i).op = 4) = True := eq_true h
       rw [Nat.testBit_or, Nat.testBit_and]
       simp only [e6, e4, e7, true_and, false_and, false_or, not_false_eq_true]
       cases (tbl T (agN c i)).1.testBit l <;> cases (tbl T (agN c i)).2.testBit l <;> cases m.testBit l <;> simp
     · rename_i h4
       simp [h6, h7, h4]
noncomputable def flowN (c : DCode) (T : Tab) (p h : Nat) : List Nat := (List.range c.ins.length).map fun i => m6 fun l => ¬ LostP c (tK T) (tG T) p (fun l => h.testBit l = true) i l
theorem flowN_len (c : DCode) (T : Tab) (p h : Nat) : (flowN c T p h).length = c.ins.length := by simp [flowN]
theorem flowN_at {c : DCode} {T : Tab} {p h i : Nat} (hi : i < c.ins.length) : nat0 (flowN c T p h) i = m6 fun l => ¬ LostP c (tK T) (tG T) p (fun l => h.testBit l = true) i l := by
 rw [← nat0_get (by rw [flowN_len]; exact hi)]; simp [flowN]
theorem flowN_lt {c : DCode} {T : Tab} {p h : Nat} : ∀ x ∈ flowN c T p h, x < 64 := fun x hx => by
 unfold flowN at hx
 obtain ⟨i, _, rfl⟩ := List.mem_map.1 hx
 exact m6_lt
structure FL (c : DCode) (T : Tab) (p h : Nat) (out : List Nat) : Prop where
 len : out.length = c.ins.length
 lt : ∀ x ∈ out, x < 64
 snd : ∀ i l, i < c.ins.length → l < 6 → (nat0 out i).testBit l = false → LostP c (tK T) (tG T) p (fun l => h.testBit l = true) i l
 ent : ∀ l, l < 6 → h.testBit l = false → (nat0 out (eN c p)).testBit l = false
theorem FL.lt0 {c : DCode} {T : Tab} {p h : Nat} {out : List Nat} (h : FL c T p h out) (i : Nat) : nat0 out i < 64 := by
 rcases Nat.lt_or_ge i out.length with hi | hi
 · exact h.lt _ (nat0_mem hi)
 · unfold nat0; rw [List.getD_eq_getElem?_getD, List.getElem?_eq_none hi]; simp
theorem full_bit {l : Nat} (h : l < 6) : (63 : Nat).testBit l = true := by
 have : l = 0 ∨ l = 1 ∨ l = 2 ∨ l = 3 ∨ l = 4 ∨ l = 5 := by omega
 rcases this with rfl | rfl | rfl | rfl | rfl | rfl <;> rfl
theorem FL.start {c : DCode} {T : Tab} {p h : Nat} (hc : CodeR c) (hp : p < c.entry.length) (hh : h < 64) : FL c T p h ((List.replicate c.ins.length 63).set (eN c p) h) := by
 have he := (eN_eq hc hp).2.1
 have hr : (List.replicate c.ins.length 63).length = c.ins.length := by simp
 have hg : ∀ i, i < c.ins.length → nat0 (List.replicate c.ins.length 63) i = 63 := fun i hi => by rw [← nat0_get (by rw [hr]; exact hi)]; simp
 refine ⟨by simp, fun x hx => ?_, fun i l hi hl hb => ?_, fun l hl hb => ?_⟩
 · rcases mem_set hx with rfl | hx
   · exact hh
   · rw [(List.mem_replicate.1 hx).2]; omega
 · rw [nat0_set (by rw [hr]; exact he)] at hb
   split at hb
   · rename_i e
     subst e
     exact .ent (by rw [hb]; simp)
   · rw [hg i hi, full_bit hl] at hb; cases hb
 · rw [nat0_set (by rw [hr]; exact he), if_pos rfl]; exact hb
theorem FL.upd {c : DCode} {T : Tab} {p h : Nat} {out : List Nat} (hF : FL c T p h out) (hc : CodeR c) (hp : p < c.entry.length) (hT : TabR c T) {i j : Nat} (hi : LiveP c p i) (hj : j ∈ nextN c i) :
   FL c T p h (out.set j (nat0 out j &&& aft c T i (nat0 out i))) := by
 have hil := (live_lt hc hp hi).1
 have hjl := (nextN_lt hc hil hj).1
 refine ⟨by simp [hF.len], fun x hx => ?_, fun k l hk hl hb => ?_, fun l hl hb => ?_⟩
 · rcases mem_set hx with rfl | hx
   · exact Nat.lt_of_le_of_lt Nat.and_le_left (hF.lt0 j)
   · exact hF.lt x hx
 · rw [nat0_set (by rw [hF.len]; exact hjl)] at hb
   split at hb
   · rename_i e
     subst e
     rw [Nat.testBit_and, Bool.and_eq_false_iff] at hb
     rcases hb with hb | hb
     · exact hF.snd j l hk hl hb
     · rcases aft_bit.1 hb with h1 | ⟨h1, h2⟩
       · exact .gen hi hj h1
       · exact .pass hi hj (hF.snd i l hil hl h2) h1
   · exact hF.snd k l hk hl hb
 · rw [nat0_set (by rw [hF.len]; exact hjl)]
   split
   · rename_i e
     rw [Nat.testBit_and, e, hF.ent l hl hb]; rfl
   · exact hF.ent l hl hb
theorem and_lt {a b : Nat} (h : a &&& b ≠ a) : a &&& b < a := by
 have : a &&& b ≤ a := Nat.and_le_left
 omega
def Shut (c : DCode) (T : Tab) (out : List Nat) (i : Nat) : Prop := ∀ j ∈ nextN c i, nat0 out j &&& aft c T i (nat0 out i) = nat0 out j
theorem FL.fin {c : DCode} {T : Tab} {p h : Nat} {out : List Nat} (hF : FL c T p h out) (hc : CodeR c) (hp : p < c.entry.length) (hs : ∀ i, LiveP c p i → Shut c T out i) : out = flowN c T p h := by
 refine List.ext_getElem (by rw [hF.len, flowN_len]) fun i h1 h2 => ?_
 rw [nat0_get h1, nat0_get h2, flowN_at (by rw [← hF.len]; exact h1)]
 refine eq_m6 (hF.lt0 i) fun l hl => ⟨fun hb hn => ?_, fun hn => bit_of_not fun hb => hn (hF.snd i l (by rw [← hF.len]; exact h1) hl hb)⟩
 have key : ∀ {i l : Nat}, LostP c (tK T) (tG T) p (fun l => h.testBit l = true) i l → l < 6 → (nat0 out i).testBit l = false := fun {i l} hn => by
   induction hn with
   | ent h0 => exact fun hl => hF.ent _ hl (by simpa using h0)
   | gen h0 hj h1 =>
     intro hl
     rw [← hs _ h0 _ hj, Nat.testBit_and, aft_bit.2 (.inl h1), Bool.and_false]
   | pass h0 hj _ h2 ih =>
     intro hl
     rw [← hs _ h0 _ hj, Nat.testBit_and, aft_bit.2 (.inr ⟨h2, ih hl⟩), Bool.and_false]
 rw [key hn hl] at hb; cases hb
def FromP (c : DCode) (p q : Nat) : Prop := q = p ∨ RP (callN c) p q
theorem FromP.lt {c : DCode} {p q : Nat} (hp : p < c.procs.length) (h : FromP c p q) : q < c.procs.length := by
 rcases h with rfl | h
 · exact hp
 · exact h.keeps (p := fun i => i < c.procs.length) hp fun i j _ hj => (mem_setL.1 hj).1
theorem FromP.trans {c : DCode} {p q r : Nat} (h : FromP c p q) (k : FromP c q r) : FromP c p r := by
 rcases h with rfl | h
 · exact k
 · rcases k with rfl | k
   · exact .inr h
   · exact .inr (h.trans k)
theorem FromP.call {c : DCode} {p q r : Nat} (h : FromP c p q) (hr : r < c.procs.length) (k : OpsP c q 4 r) : FromP c p r := h.trans (.inr (.one (mem_setL.2 ⟨hr, k⟩)))
noncomputable def keepN (c : DCode) (p : Nat) : Nat := m6 fun l => ¬ ∃ q i, q < c.procs.length ∧ FromP c p q ∧ LiveP c q i ∧ (insAt c i).op = 7 ∧ agN c i = l
inductive LostE (c : DCode) : Nat → Nat → Nat → Prop
 | ent {p l : Nat} : LostE c p (eN c p) l
 | unl {p i j l : Nat} (h0 : LiveP c p i) (hj : j ∈ nextN c i) (ho : (insAt c i).op = 7) (ha : agN c i = l) : LostE c p j l
 | cal {p i j l : Nat} (h0 : LiveP c p i) (hj : j ∈ nextN c i) (ho : (insAt c i).op = 4) (hk : (keepN c (agN c i)).testBit l = false) (h1 : LostE c (agN c i) (zN c (agN c i)) l) : LostE c p j l
 | bck {p i j l : Nat} (h0 : LiveP c p i) (hj : j ∈ nextN c i) (ho : (insAt c i).op = 4) (h2 : LostE c p i l) (h1 : LostE c (agN c i) (zN c (agN c i)) l) : LostE c p j l
 | pass {p i j l : Nat} (h0 : LiveP c p i) (hj : j ∈ nextN c i) (h6 : ¬ ((insAt c i).op = 6 ∧ agN c i = l)) (h4 : ¬ (insAt c i).op = 4) (h1 : LostE c p i l) : LostE c p j l
noncomputable def effN (c : DCode) : Tab := (List.range c.procs.length).map fun p => (keepN c p, m6 fun l => ¬ LostE c p (zN c p) l)
theorem effN_len (c : DCode) : (effN c).length = c.procs.length := by simp [effN]
theorem effN_at {c : DCode} {p : Nat} (hp : p < c.procs.length) : tbl (effN c) p = (keepN c p, m6 fun l => ¬ LostE c p (zN c p) l) := by
 rw [← tbl_get (by rw [effN_len]; exact hp)]; simp [effN]
theorem tabR_of {c : DCode} {T : Tab} (hl : T.length = c.procs.length) (h : ∀ q, q < c.procs.length → (tbl T q).1 < 64 ∧ (tbl T q).2 < 64) : TabR c T := ⟨hl, fun q => by
 rcases Nat.lt_or_ge q c.procs.length with hq | hq
 · exact h q hq
 · unfold tbl; rw [List.getD_eq_getElem?_getD, List.getElem?_eq_none (by omega)]; simp⟩
theorem effN_right (c : DCode) : TabR c (effN c) := tabR_of (effN_len c) fun q hq => by rw [effN_at hq]; exact ⟨m6_lt, m6_lt⟩
noncomputable def asked (c : DCode) (T : Tab) (p : Nat) : Nat := nat0 (flowN c T p 0) (zN c p)
theorem asked_bit {c : DCode} (hc : CodeR c) {T : Tab} {p l : Nat} (hp : p < c.procs.length) (hl : l < 6) : (asked c T p).testBit l = false ↔ LostP c (tK T) (tG T) p (fun l => (0 : Nat).testBit l = true) (zN c p) l := by
 have hz := (zN_eq hc (p := p) (by rw [hc.2.1.1]; exact hp)).2.2
 unfold asked
 rw [flowN_at hz]
 constructor
 · intro h
   refine Classical.byContradiction fun hn => ?_
   rw [m6_bit.2 ⟨hl, hn⟩] at h; cases h
 · intro h
   cases e : (m6 fun l => ¬ LostP c (tK T) (tG T) p (fun l => (0 : Nat).testBit l = true) (zN c p) l).testBit l
   · rfl
   · exact absurd h (m6_bit.1 e).2
theorem asked_lt {c : DCode} (hc : CodeR c) {T : Tab} {p : Nat} (hp : p < c.procs.length) : asked c T p < 64 := by
 have hz := (zN_eq hc (p := p) (by rw [hc.2.1.1]; exact hp)).2.2
 unfold asked
 rw [flowN_at hz]; exact m6_lt
structure EI (c : DCode) (T : Tab) : Prop where
 tab : TabR c T
 keep : ∀ p, p < c.procs.length → (tbl T p).1 = keepN c p
 snd : ∀ p l, p < c.procs.length → l < 6 → (tbl T p).2.testBit l = false → LostE c p (zN c p) l
 desc : ∀ p l, p < c.procs.length → l < 6 → (tbl T p).2.testBit l = false → (asked c T p).testBit l = false
theorem EI.lost {c : DCode} (hc : CodeR c) {T : Tab} (h : EI c T) {p i l : Nat} (hp : p < c.procs.length) (hl : l < 6) (k : LostP c (tK T) (tG T) p (fun l => (0 : Nat).testBit l = true) i l) : LostE c p i l := by
 have he := hc.2.1.1
 induction k with
 | ent _ => exact .ent
 | gen h0 hj h1 =>
   have hi := (live_lt hc (by rw [he]; exact hp) h0).1
   rcases h1 with ⟨h1, h2⟩ | ⟨h1, h2, h3⟩
   · exact .unl h0 hj h1 h2
   · have hq := (ag_proc hc hi (.inl h1)).2
     refine .cal h0 hj h1 ?_ (h.snd _ _ hq hl (by unfold tG at h3; simpa using h3))
     unfold tK at h2
     rw [h.keep _ hq] at h2
     simpa using h2
 | @pass i j l h0 hj _ h2 ih =>
   have hi := (live_lt hc (by rw [he]; exact hp) h0).1
   by_cases h4 : (insAt c i).op = 4
   · have hq := (ag_proc hc hi (.inl h4)).2
     refine .bck h0 hj h4 (ih hl) (h.snd _ _ hq hl ?_)
     have := h2.2
     unfold tG at this
     simpa [h4] using this
   · exact .pass h0 hj h2.1 h4 (ih hl)
theorem EI.start (c : DCode) (hc : CodeR c) : EI c ((List.range c.procs.length).map fun p => (keepN c p, 63)) := by
 have hl : ((List.range c.procs.length).map fun p => (keepN c p, 63)).length = c.procs.length := by simp
 have hat : ∀ p, p < c.procs.length → tbl ((List.range c.procs.length).map fun p => (keepN c p, 63)) p = (keepN c p, 63) := fun p hp => by
   rw [← tbl_get (by rw [hl]; exact hp)]; simp
 refine ⟨tabR_of hl fun q hq => by rw [hat q hq]; exact ⟨m6_lt, by omega⟩, fun p hp => by rw [hat p hp], fun p l hp h6 hb => ?_, fun p l hp h6 hb => ?_⟩
 · rw [hat p hp, full_bit h6] at hb; cases hb
 · rw [hat p hp, full_bit h6] at hb; cases hb
theorem EI.upd {c : DCode} (hc : CodeR c) {T : Tab} (h : EI c T) {p : Nat} (hp : p < c.procs.length) : EI c (T.set p ((tbl T p).1, asked c T p)) := by
 have hpl : p < T.length := by rw [h.tab.1]; exact hp
 have hat := fun r => tbl_set (T := T) (q := p) (r := r) (v := ((tbl T p).1, asked c T p)) hpl
 have hle : ∀ q l, l < 6 → (tbl T q).2.testBit l = false → (tbl (T.set p ((tbl T p).1, asked c T p)) q).2.testBit l = false := fun q l hl hb => by
   rw [hat]
   split
   · rename_i e; subst e; exact h.desc p l hp hl hb
   · exact hb
 have hmono : ∀ {q l : Nat}, q < c.procs.length → l < 6 → (asked c T q).testBit l = false → (asked c (T.set p ((tbl T p).1, asked c T p)) q).testBit l = false := fun {q l} hq hl hb => by
   rw [asked_bit hc hq hl] at hb ⊢
   have key : ∀ {i l : Nat}, l < 6 → LostP c (tK T) (tG T) q (fun l => (0 : Nat).testBit l = true) i l → LostP c (tK (T.set p ((tbl T p).1, asked c T p))) (tG (T.set p ((tbl T p).1, asked c T p))) q (fun l => (0 : Nat).testBit l = true) i l := fun {i l} hl k => by
     have hK : ∀ r l, tK (T.set p ((tbl T p).1, asked c T p)) r l ↔ tK T r l := fun r l => by
       unfold tK
       rw [hat]
       split
       · rename_i e; rw [← e]
       · exact Iff.rfl
     have hG : ∀ r, tG (T.set p ((tbl T p).1, asked c T p)) r l → tG T r l := fun r e => by
       unfold tG at e ⊢
       refine bit_of_not fun hf => ?_
       rw [hle r l hl hf] at e; cases e
     clear hb
     induction k with
     | ent h0 => exact .ent h0
     | gen h0 hj h1 => exact .gen h0 hj (h1.imp id fun ⟨a, b, d⟩ => ⟨a, fun e => b ((hK _ _).1 e), fun e => d (hG _ e)⟩)
     | pass h0 hj _ h2 ih => exact .pass h0 hj (ih hl hG) ⟨h2.1, fun ⟨a, b⟩ => h2.2 ⟨a, hG _ b⟩⟩
   exact key hl hb
 refine ⟨⟨by simp [h.tab.1], fun q => ?_⟩, fun q hq => ?_, fun q l hq hl hb => ?_, fun q l hq hl hb => ?_⟩
 · rw [hat]
   split
   · exact ⟨(h.tab.2 p).1, asked_lt hc hp⟩
   · exact h.tab.2 q
 · rw [hat]
   split
   · rename_i e; subst e; exact h.keep p hp
   · exact h.keep q hq
 · rw [hat] at hb
   split at hb
   · rename_i e; subst e
     exact h.lost hc hp hl ((asked_bit hc hp hl).1 hb)
   · exact h.snd q l hq hl hb
 · rw [hat] at hb
   split at hb
   · rename_i e; subst e
     exact hmono hp hl hb
   · exact hmono hq hl (h.desc q l hq hl hb)
theorem EI.le {c : DCode} (hc : CodeR c) {T : Tab} (h : EI c T) {p : Nat} (hp : p < c.procs.length) : asked c T p ≤ (tbl T p).2 := by
 refine Nat.le_of_testBit fun l hb => ?_
 have hl := bit_lt6 (asked_lt hc hp) hb
 refine bit_of_not fun hf => ?_
 rw [h.desc p l hp hl hf] at hb; cases hb
theorem EI.fin {c : DCode} (hc : CodeR c) {T : Tab} (h : EI c T) (hs : ∀ p, p < c.procs.length → asked c T p = (tbl T p).2) : T = effN c := by
 refine List.ext_getElem (by rw [h.tab.1, effN_len]) fun p h1 h2 => ?_
 have hp : p < c.procs.length := by rw [← h.tab.1]; exact h1
 rw [tbl_get h1, tbl_get h2, effN_at hp]
 have key : ∀ {p i l : Nat}, LostE c p i l → p < c.procs.length → l < 6 → LostP c (tK T) (tG T) p (fun l => (0 : Nat).testBit l = true) i l := fun {p i l} k => by
   have hz : ∀ {i l : Nat}, (insAt c i).op = 4 → i < c.ins.length → l < 6 → (agN c i < c.procs.length → l < 6 → LostP c (tK T) (tG T) (agN c i) (fun l => (0 : Nat).testBit l = true) (zN c (agN c i)) l) → ¬ tG T (agN c i) l := fun {i l} ho hi hl k1 => by
     have hq := (ag_proc hc hi (.inl ho)).2
     have := (asked_bit hc hq hl).2 (k1 hq hl)
     rw [hs _ hq] at this
     unfold tG
     rw [this]; simp
   induction k with
   | ent => exact fun _ _ => .ent (by simp)
   | unl h0 hj ho ha => exact fun _ _ => .gen h0 hj (.inl ⟨ho, ha⟩)
   | cal h0 hj ho hk _ ih =>
     intro hp hl
     have hi := (live_lt hc (by rw [hc.2.1.1]; exact hp) h0).1
     have hq := (ag_proc hc hi (.inl ho)).2
     refine .gen h0 hj (.inr ⟨ho, ?_, hz ho hi hl ih⟩)
     unfold tK
     rw [h.keep _ hq, hk]; simp
   | bck h0 hj ho _ _ ih2 ih1 =>
     intro hp hl
     have hi := (live_lt hc (by rw [hc.2.1.1]; exact hp) h0).1
     exact .pass h0 hj (ih2 hp hl) ⟨fun h => by omega, fun h => hz ho hi hl ih1 h.2⟩
   | pass h0 hj h6 h4 _ ih => exact fun hp hl => .pass h0 hj (ih hp hl) ⟨h6, fun h => h4 h.1⟩
 refine Prod.ext (h.keep p hp) (eq_m6 (h.tab.2 p).2 fun l hl => ⟨fun hb hn => ?_, fun hn => bit_of_not fun hb => hn (h.snd p l hp hl hb)⟩)
 have := (asked_bit hc hp hl).2 (key hn hp hl)
 rw [hs p hp] at this
 rw [this] at hb; cases hb
def gsum (T : Tab) : Nat := (T.map (·.2)).sum
theorem gsum_set {T : Tab} {p : Nat} {v : Nat × Nat} (hp : p < T.length) : gsum (T.set p v) + (tbl T p).2 = gsum T + v.2 := by
 unfold gsum
 rw [List.map_set]
 have := sum_set (l := T.map (·.2)) (i := p) (v := v.2) (by simpa using hp)
 rw [← nat0_get (by simpa using hp)] at this
 rw [← tbl_get hp]
 simpa using this
def mainN (c : DCode) : Nat := (plc mainS c.procs).toNat
inductive RootP (c : DCode) : Nat → Prop
 | main : RootP c (mainN c)
 | spawn {r p q : Nat} (h0 : RootP c r) (h1 : FromP c r p) (h2 : OpsP c p 5 q) (hq : q < c.procs.length) : RootP c q
def UsedP (c : DCode) (p : Nat) : Prop := ∃ r, RootP c r ∧ FromP c r p
theorem main_lt' {c : DCode} (hc : CodeR c) : plc mainS c.procs = (mainN c : Int) ∧ mainN c < c.procs.length := by
 have h := main_lt hc
 have h2 := hc.2.1.1
 unfold mainN
 omega
theorem RootP.lt {c : DCode} (hc : CodeR c) {r : Nat} (h : RootP c r) : r < c.procs.length := by
 cases h with
 | main => exact (main_lt' hc).2
 | spawn _ _ _ hq => exact hq
theorem UsedP.lt {c : DCode} (hc : CodeR c) {p : Nat} (h : UsedP c p) : p < c.procs.length := by
 obtain ⟨r, h1, h2⟩ := h
 exact h2.lt (h1.lt hc)
theorem UsedP.call {c : DCode} {p q : Nat} (h : UsedP c p) (hq : q < c.procs.length) (k : OpsP c p 4 q) : UsedP c q := by
 obtain ⟨r, h1, h2⟩ := h
 exact ⟨r, h1, h2.call hq k⟩
inductive LostM (c : DCode) (K G : Nat → Nat → Prop) : Nat → Option Nat → Nat → Prop
 | root {p l : Nat} (h : RootP c p) : LostM c K G p none l
 | call {p i l : Nat} (hu : UsedP c p) (h0 : LiveP c p i) (ho : (insAt c i).op = 4) (h : LostM c K G p (some i) l) : LostM c K G (agN c i) none l
 | ent {p l : Nat} (h : LostM c K G p none l) : LostM c K G p (some (eN c p)) l
 | gen {p i j l : Nat} (h0 : LiveP c p i) (hj : j ∈ nextN c i) (h1 : genX c K G i l) : LostM c K G p (some j) l
 | pass {p i j l : Nat} (h0 : LiveP c p i) (hj : j ∈ nextN c i) (h1 : LostM c K G p (some i) l) (h2 : passX c G i l) : LostM c K G p (some j) l
noncomputable def begN (c : DCode) (p : Nat) : Nat := m6 fun l => ¬ LostM c (tK (effN c)) (tG (effN c)) p none l
noncomputable def begs (c : DCode) : List Nat := (List.range c.procs.length).map (begN c)
theorem begs_len (c : DCode) : (begs c).length = c.procs.length := by simp [begs]
theorem begs_at {c : DCode} {p : Nat} (hp : p < c.procs.length) : nat0 (begs c) p = begN c p := by rw [← nat0_get (by rw [begs_len]; exact hp)]; simp [begs]
structure BI (c : DCode) (out : List Nat) : Prop where
 len : out.length = c.procs.length
 lt : ∀ x ∈ out, x < 64
 snd : ∀ p l, p < c.procs.length → l < 6 → (nat0 out p).testBit l = false → LostM c (tK (effN c)) (tG (effN c)) p none l
 root : ∀ p l, RootP c p → l < 6 → (nat0 out p).testBit l = false
theorem BI.lt0 {c : DCode} {out : List Nat} (h : BI c out) (i : Nat) : nat0 out i < 64 := by
 rcases Nat.lt_or_ge i out.length with hi | hi
 · exact h.lt _ (nat0_mem hi)
 · unfold nat0; rw [List.getD_eq_getElem?_getD, List.getElem?_eq_none hi]; simp
theorem flow_bit {c : DCode} {T : Tab} {p h i l : Nat} (hi : i < c.ins.length) (hl : l < 6) : (nat0 (flowN c T p h) i).testBit l = false ↔ LostP c (tK T) (tG T) p (fun l => h.testBit l = true) i l := by
 rw [flowN_at hi]
 constructor
 · intro h
   refine Classical.byContradiction fun hn => ?_
   rw [m6_bit.2 ⟨hl, hn⟩] at h; cases h
 · intro k
   cases e : (m6 fun l => ¬ LostP c (tK T) (tG T) p (fun l => h.testBit l = true) i l).testBit l
   · rfl
   · exact absurd k (m6_bit.1 e).2
theorem BI.start {c : DCode} (hc : CodeR c) (out : List Nat) (hl : out.length = c.procs.length) (h : ∀ p, p < c.procs.length → (RootP c p → nat0 out p = 0) ∧ (¬ RootP c p → nat0 out p = 63)) : BI c out := by
 refine ⟨hl, fun x hx => ?_, fun p l hp h6 hb => ?_, fun p l hr h6 => ?_⟩
 · obtain ⟨i, hi, rfl⟩ := List.getElem_of_mem hx
   rw [nat0_get hi]
   have := h i (by omega)
   by_cases hr : RootP c i
   · rw [this.1 hr]; omega
   · rw [this.2 hr]; omega
 · by_cases hr : RootP c p
   · exact .root hr
   · rw [(h p hp).2 hr, full_bit h6] at hb; cases hb
 · rw [(h p (hr.lt hc)).1 hr]; simp
theorem BI.lost {c : DCode} {out : List Nat} (h : BI c out) {p i l : Nat} (hp : p < c.procs.length) (hl : l < 6) (k : LostP c (tK (effN c)) (tG (effN c)) p (fun l => (nat0 out p).testBit l = true) i l) : LostM c (tK (effN c)) (tG (effN c)) p (some i) l := by
 induction k with
 | ent h0 => exact .ent (h.snd p _ hp hl (by simpa using h0))
 | gen h0 hj h1 => exact .gen h0 hj h1
 | pass h0 hj _ h2 ih => exact .pass h0 hj (ih hl) h2
theorem BI.upd {c : DCode} (hc : CodeR c) {out : List Nat} (h : BI c out) {p i : Nat} (hu : UsedP c p) (hi : LiveP c p i) (ho : (insAt c i).op = 4) :
   BI c (out.set (agN c i) (nat0 out (agN c i) &&& nat0 (flowN c (effN c) p (nat0 out p)) i)) := by
 have hp := hu.lt hc
 have hil := (live_lt hc (by rw [hc.2.1.1]; exact hp) hi).1
 have hq := (ag_proc hc hil (.inl ho)).2
 refine ⟨by simp [h.len], fun x hx => ?_, fun r l hr hl hb => ?_, fun r l hr hl => ?_⟩
 · rcases mem_set hx with rfl | hx
   · exact Nat.lt_of_le_of_lt Nat.and_le_left (h.lt0 _)
   · exact h.lt x hx
 · rw [nat0_set (by rw [h.len]; exact hq)] at hb
   split at hb
   · rename_i e
     subst e
     rw [Nat.testBit_and, Bool.and_eq_false_iff] at hb
     rcases hb with hb | hb
     · exact h.snd _ l hr hl hb
     · refine .call hu hi ho ?_
       exact h.lost hp hl ((flow_bit hil hl).1 hb)
   · exact h.snd r l hr hl hb
 · rw [nat0_set (by rw [h.len]; exact hq)]
   split
   · rename_i e
     rw [Nat.testBit_and, e, h.root r l hr hl]; rfl
   · exact h.root r l hr hl
theorem BI.fin {c : DCode} (hc : CodeR c) {out : List Nat} (h : BI c out) (hs : ∀ p i, UsedP c p → LiveP c p i → (insAt c i).op = 4 → nat0 out (agN c i) &&& nat0 (flowN c (effN c) p (nat0 out p)) i = nat0 out (agN c i)) : out = begs c := by
 refine List.ext_getElem (by rw [h.len, begs_len]) fun p h1 h2 => ?_
 have hp : p < c.procs.length := by rw [← h.len]; exact h1
 rw [nat0_get h1, nat0_get h2, begs_at hp]
 have key : ∀ {p : Nat} {o : Option Nat} {l : Nat}, LostM c (tK (effN c)) (tG (effN c)) p o l → l < 6 → match o with
     | none => (nat0 out p).testBit l = false
     | some i => LostP c (tK (effN c)) (tG (effN c)) p (fun l => (nat0 out p).testBit l = true) i l := fun {p o l} k => by
   induction k with
   | root hr => exact fun hl => h.root _ _ hr hl
   | @call p i l hu h0 ho _ ih =>
     intro hl
     have hil := (live_lt hc (by rw [hc.2.1.1]; exact hu.lt hc) h0).1
     simp only
     rw [← hs p i hu h0 ho, Nat.testBit_and, (flow_bit hil hl).2 (ih hl), Bool.and_false]
   | ent _ ih => exact fun hl => .ent (by have := ih hl; simp only at this; rw [this]; simp)
   | gen h0 hj h1 => exact fun hl => .gen h0 hj h1
   | pass h0 hj _ h2 ih => exact fun hl => .pass h0 hj (ih hl) h2
 refine eq_m6 (h.lt0 p) fun l hl => ⟨fun hb hn => ?_, fun hn => bit_of_not fun hb => hn (h.snd p l hp hl hb)⟩
 have := key hn hl
 simp only at this
 rw [this] at hb; cases hb
noncomputable def mustAt (c : DCode) (i : Nat) : Nat := @ite _ (UsedP c (procOf c i).toNat) (Classical.propDecidable _) (nat0 (flowN c (effN c) (procOf c i).toNat (begN c (procOf c i).toNat)) i) 63
noncomputable def mustN (c : DCode) : List Nat := (List.range c.ins.length).map (mustAt c)
theorem mustN_len (c : DCode) : (mustN c).length = c.ins.length := by simp [mustN]
theorem mustN_at {c : DCode} {i : Nat} (hi : i < c.ins.length) : nat0 (mustN c) i = mustAt c i := by rw [← nat0_get (by rw [mustN_len]; exact hi)]; simp [mustN]
theorem nat0_lt {l : List Nat} (h : ∀ x ∈ l, x < 64) (i : Nat) : nat0 l i < 64 := by
 rcases Nat.lt_or_ge i l.length with hi | hi
 · exact h _ (nat0_mem hi)
 · unfold nat0; rw [List.getD_eq_getElem?_getD, List.getElem?_eq_none hi]; simp
theorem mustAt_lt (c : DCode) (i : Nat) : mustAt c i < 64 := by
 unfold mustAt
 split
 · exact nat0_lt flowN_lt i
 · omega
theorem mustN_lt (c : DCode) : ∀ x ∈ mustN c, x < 64 := fun x hx => by
 obtain ⟨i, _, rfl⟩ := List.mem_map.1 hx
 exact mustAt_lt c i
theorem mustAt_used {c : DCode} {i p : Nat} (hp : procOf c i = p) (hu : UsedP c p) : mustAt c i = nat0 (flowN c (effN c) p (begN c p)) i := by
 unfold mustAt
 rw [hp, Int.toNat_natCast, if_pos hu]
theorem mustAt_not {c : DCode} {i p : Nat} (hp : procOf c i = p) (hu : ¬ UsedP c p) : mustAt c i = 63 := by
 unfold mustAt
 rw [hp, Int.toNat_natCast, if_neg hu]
inductive MetP (c : DCode) : Nat → Prop
 | root {p : Nat} (h : RootP c p) : MetP c (eN c p)
 | call {i : Nat} (h : MetP c i) (ho : (insAt c i).op = 4) : MetP c (eN c (agN c i))
 | next {i j : Nat} (h : MetP c i) (ho : ¬ (insAt c i).op = 4) (hj : j ∈ nextN c i) : MetP c j
 | back {i j : Nat} (h : MetP c i) (ho : (insAt c i).op = 4) (hz : MetP c (zN c (agN c i))) (hj : j ∈ nextN c i) : MetP c j
theorem MetP.lt {c : DCode} (hc : CodeR c) {i : Nat} (h : MetP c i) : i < c.ins.length := by
 induction h with
 | root h => exact (eN_eq hc (by rw [hc.2.1.1]; exact h.lt hc)).2.1
 | call _ ho ih => exact (eN_eq hc (by rw [hc.2.1.1]; exact (ag_proc hc ih (.inl ho)).2)).2.1
 | next _ _ hj ih => exact (nextN_lt hc ih hj).1
 | back _ _ _ hj ih _ => exact (nextN_lt hc ih hj).1
inductive MayP (c : DCode) : Nat → Nat → Prop
 | lock {i j l : Nat} (h : MetP c i) (ho : (insAt c i).op = 6) (ha : agN c i = l) (hj : j ∈ nextN c i) : MayP c j l
 | pass {i j l : Nat} (h : MetP c i) (ho : ¬ (insAt c i).op = 4) (ha : ¬ ((insAt c i).op = 7 ∧ agN c i = l)) (hm : MayP c i l) (hj : j ∈ nextN c i) : MayP c j l
 | call {i l : Nat} (h : MetP c i) (ho : (insAt c i).op = 4) (hm : MayP c i l) : MayP c (eN c (agN c i)) l
 | back {i j l : Nat} (h : MetP c i) (ho : (insAt c i).op = 4) (hz : MetP c (zN c (agN c i))) (hm : MayP c (zN c (agN c i)) l) (hj : j ∈ nextN c i) : MayP c j l
noncomputable def metN (c : DCode) : List Bool := setB c.ins.length (MetP c)
noncomputable def mayN (c : DCode) : List Nat := (List.range c.ins.length).map fun i => m6 (MayP c i)
theorem mayN_len (c : DCode) : (mayN c).length = c.ins.length := by simp [mayN]
theorem mayN_at {c : DCode} {i : Nat} (hi : i < c.ins.length) : nat0 (mayN c) i = m6 (MayP c i) := by rw [← nat0_get (by rw [mayN_len]; exact hi)]; simp [mayN]
structure MetC (c : DCode) (M : Nat → Prop) : Prop where
 root : ∀ p, RootP c p → M (eN c p)
 call : ∀ i, M i → (insAt c i).op = 4 → M (eN c (agN c i))
 next : ∀ i j, M i → ¬ (insAt c i).op = 4 → j ∈ nextN c i → M j
 back : ∀ i j, M i → (insAt c i).op = 4 → M (zN c (agN c i)) → j ∈ nextN c i → M j
theorem MetC.all {c : DCode} {M : Nat → Prop} (h : MetC c M) {i : Nat} (k : MetP c i) : M i := by
 induction k with
 | root h1 => exact h.root _ h1
 | call _ ho ih => exact h.call _ ih ho
 | next _ ho hj ih => exact h.next _ _ ih ho hj
 | back _ ho _ hj ih1 ih2 => exact h.back _ _ ih1 ho ih2 hj
structure MayC (c : DCode) (H : Nat → Nat → Prop) : Prop where
 lock : ∀ i j, MetP c i → (insAt c i).op = 6 → j ∈ nextN c i → H j (agN c i)
 pass : ∀ i j l, MetP c i → l < 6 → ¬ (insAt c i).op = 4 → ¬ ((insAt c i).op = 7 ∧ agN c i = l) → H i l → j ∈ nextN c i → H j l
 call : ∀ i l, MetP c i → l < 6 → (insAt c i).op = 4 → H i l → H (eN c (agN c i)) l
 back : ∀ i j l, MetP c i → l < 6 → (insAt c i).op = 4 → MetP c (zN c (agN c i)) → H (zN c (agN c i)) l → j ∈ nextN c i → H j l
theorem MayC.all {c : DCode} {H : Nat → Nat → Prop} (h : MayC c H) {i l : Nat} (hl : l < 6) (k : MayP c i l) : H i l := by
 induction k with
 | lock hm ho ha hj => exact ha ▸ h.lock _ _ hm ho hj
 | pass hm ho ha _ hj ih => exact h.pass _ _ _ hm hl ho ha (ih hl) hj
 | call hm ho _ ih => exact h.call _ _ hm hl ho (ih hl)
 | back hm ho hz _ hj ih => exact h.back _ _ _ hm hl ho hz (ih hl) hj
def F200 (a0 a1 a2 : Value) (w : World) (R : VW) : Prop :=
 OP tp (Instr.box 136 a0) w fun x3 w =>
 RD tp (Instr.fieldAt 136 x3 0) w fun x7 =>
 RD tp (Instr.loadAt 3 x7) w fun x8 =>
 RD tp (bin .eql 3 T0 U0 x8 (Value.int .i64 6)) w fun x10 =>
 BR x10
 (RD tp (Instr.fieldAt 136 x3 1) w fun x12 =>
 RD tp (Instr.loadAt 3 x12) w fun x13 =>
 RD tp (convert 3 77 x13) w fun x14 =>
 RD tp (bin .shl 3 U0 T0 (Value.int .i64 1) x14) w fun x15 =>
 RD tp (bin .or 3 T0 T0 a2 x15) w fun x16 =>
 R x16 w)
 (RD tp (bin .eql 3 T0 U0 x8 (Value.int .i64 7)) w fun x18 =>
 BR x18
 (RD tp (Instr.fieldAt 136 x3 1) w fun x20 =>
 RD tp (Instr.loadAt 3 x20) w fun x21 =>
 RD tp (convert 3 77 x21) w fun x22 =>
 RD tp (bin .shl 3 U0 T0 (Value.int .i64 1) x22) w fun x23 =>
 RD tp (bin .andNot 3 T0 T0 a2 x23) w fun x24 =>
 R x24 w)
 (RD tp (bin .eql 3 T0 U0 x8 (Value.int .i64 4)) w fun x26 =>
 BR x26
 ((fun w => RD tp (Instr.fieldAt 136 x3 1) w fun x29 =>
 RD tp (Instr.loadAt 3 x29) w fun x30 =>
 RD tp (Instr.indexAt 126 a1 x30) w fun x31 =>
 RD tp (Instr.fieldAt 195 x31 0) w fun x32 =>
 RD tp (Instr.loadAt 3 x32) w fun x33 =>
 RD tp (bin .and 3 T0 T0 a2 x33) w fun x34 =>
 RD tp (Instr.fieldAt 136 x3 1) w fun x36 =>
 RD tp (Instr.loadAt 3 x36) w fun x37 =>
 RD tp (Instr.indexAt 126 a1 x37) w fun x38 =>
 RD tp (Instr.fieldAt 195 x38 1) w fun x39 =>
 RD tp (Instr.loadAt 3 x39) w fun x40 =>
 RD tp (bin .or 3 T0 T0 x34 x40) w fun x41 =>
 R x41 w) (World.drew1 w))
 (R a2 w)))
def cfg200 : Cfg := ⟨extL, [], [], [(7, [0, 1, 2, 3, 4, 5, 6, 7, 8, 9, 10, 11, 12, 13, 14, 15], 0)], [], [], []⟩
theorem F200_eq (a0 a1 a2 : Value) (w : World) (R : VW) : vcF Tryz.prog cfg200 Tryz.f200 [a0, a1, a2] w R = F200 a0 a1 a2 w R := by kernel_rfl
theorem F200_call {a0 a1 a2 : Value} {w : World} {R : VW} (h : F200 a0 a1 a2 w R) : CALL Tryz.prog 200 [a0, a1, a2] w R :=
 call_of (g := cfg200) ent mixed Tryz.func200 (Nat.le_of_ble_eq_true (by kernel_rfl)) (by kernel_rfl) (F200_eq a0 a1 a2 w R ▸ h)
def F187 (a0 a1 a2 : Value) (w : World) (R : VW) : Prop :=
 OP tp (Instr.box 136 a0) w fun x3 w =>
 RD tp (Instr.fieldAt 136 x3 0) w fun x7 =>
 RD tp (Instr.loadAt 3 x7) w fun x8 =>
 RD tp (bin .eql 3 T0 U0 x8 (Value.int .i64 6)) w fun x10 =>
 BR x10
 (RD tp (Instr.fieldAt 136 x3 1) w fun x12 =>
 RD tp (Instr.loadAt 3 x12) w fun x13 =>
 CALL tp 119 [x13] w fun x14 w =>
 RD tp (bin .or 3 T0 T0 a2 x14) w fun x15 =>
 R x15 w)
 (RD tp (bin .eql 3 T0 U0 x8 (Value.int .i64 7)) w fun x17 =>
 BR x17
 (RD tp (Instr.fieldAt 136 x3 1) w fun x19 =>
 RD tp (Instr.loadAt 3 x19) w fun x20 =>
 CALL tp 119 [x20] w fun x21 w =>
 CALL tp 120 [a2, x21] w fun x22 w =>
 R x22 w)
 (RD tp (bin .eql 3 T0 U0 x8 (Value.int .i64 4)) w fun x24 =>
 BR x24
 ((fun w => RD tp (Instr.fieldAt 136 x3 1) w fun x27 =>
 RD tp (Instr.loadAt 3 x27) w fun x28 =>
 RD tp (Instr.indexAt 126 a1 x28) w fun x29 =>
 RD tp (Instr.fieldAt 195 x29 0) w fun x30 =>
 RD tp (Instr.loadAt 3 x30) w fun x31 =>
 RD tp (bin .and 3 T0 T0 a2 x31) w fun x32 =>
 RD tp (Instr.fieldAt 136 x3 1) w fun x34 =>
 RD tp (Instr.loadAt 3 x34) w fun x35 =>
 RD tp (Instr.indexAt 126 a1 x35) w fun x36 =>
 RD tp (Instr.fieldAt 195 x36 1) w fun x37 =>
 RD tp (Instr.loadAt 3 x37) w fun x38 =>
 RD tp (bin .or 3 T0 T0 x32 x38) w fun x39 =>
 R x39 w) (World.drew1 w))
 (R a2 w)))
def cfg187 : Cfg := ⟨extL, [], [], [(7, [0, 1, 2, 3, 4, 5, 6, 7, 8, 9, 10, 11, 12, 13, 14, 15], 0)], [], [], []⟩
theorem F187_eq (a0 a1 a2 : Value) (w : World) (R : VW) : vcF Tryz.prog cfg187 Tryz.f187 [a0, a1, a2] w R = F187 a0 a1 a2 w R := by kernel_rfl
theorem F187_call {a0 a1 a2 : Value} {w : World} {R : VW} (h : F187 a0 a1 a2 w R) : CALL Tryz.prog 187 [a0, a1, a2] w R :=
 call_of (g := cfg187) ent mixed Tryz.func187 (Nat.le_of_ble_eq_true (by kernel_rfl)) (by kernel_rfl) (F187_eq a0 a1 a2 w R ▸ h)
set_option linter.unusedVariables false
set_option linter.unusedSimpArgs false
open Rep (rep)
structure DEffect where
 keep : Int
 gen : Int
theorem DEffect.ext_iff {x y : DEffect} : x = y ↔ (x.keep = y.keep ∧ x.gen = y.gen) := ⟨fun h => by rw [h]; exact ⟨rfl, rfl⟩, fun h => by obtain ⟨h0, h1⟩ := h; cases x; cases y; simp only at h0 h1; simp only [h0, h1]⟩
instance : DecidableEq DEffect := fun x y => decidable_of_iff (x.keep = y.keep ∧ x.gen = y.gen) DEffect.ext_iff.symm
instance : Rep DEffect := Rep.via fun x => (x.keep, x.gen)
theorem at_DEffect_0 {w : World} {b o : Nat} {x : DEffect} (h : At w b o x) : At w b (o + 0) x.keep := at_fst (α := Int) (β := Int) (p := (x.keep, x.gen)) h
theorem at_DEffect_1 {w : World} {b o : Nat} {x : DEffect} (h : At w b o x) : At w b (o + 1) x.gen := at_snd (α := Int) (β := Int) (p := (x.keep, x.gen)) h
instance : RepZ DEffect := ⟨⟨(RepZ.zv : Int), (RepZ.zv : Int)⟩, RepZ.zc (Int × Int), fun w => RepZ.zr (α := Int × Int) w⟩
theorem lens_DEffect_1 {γ : Type} {H : List Nat → World → γ → Prop} {F : List Nat} {w : World} {b o : Nat} {G : List Nat} {x : DEffect} {upd : DEffect → γ} (h : Lens H F w b o G x upd) :
   ∃ G1, Lens H F w b (o + 1) G1 x.gen (fun y => upd ⟨x.keep, y⟩) := by
 have h' : Lens H F w b o G (x.keep, x.gen) (fun p : Int × Int => upd ⟨p.1, p.2⟩) := ⟨h.here, h.sub, fun w' G' y' hc hO hs => h.back w' G' _ hc hO hs⟩
 obtain ⟨G0, h'⟩ := h'.snd
 exact ⟨_, h'⟩
theorem mk_DEffect {w : World} {x : DEffect} (h_keep : I64 x.keep) (h_gen : I64 x.gen) : Mine [] w (.agg #[.int .i64 x.keep, .int .i64 x.gen]) x := ⟨⟨[.int .i64 x.keep, .int .i64 x.gen], ⟨[], [], [.int .i64 x.keep], [.int .i64 x.gen], rfl, rfl, ⟨rfl, rfl, h_keep⟩, ⟨rfl, rfl, h_gen⟩⟩, rfl⟩, List.nodup_nil, Wr.nil w⟩
instance : Flat DEffect := ⟨fun h => Flat.flat (α := Int × Int) h⟩
def eff1 (x : Nat × Nat) : DEffect := ⟨(x.1 : Int), (x.2 : Int)⟩
def effs (T : Tab) : List DEffect := T.map eff1
theorem effs_len (T : Tab) : (effs T).length = T.length := by simp [effs]
theorem effs_get {T : Tab} {q : Nat} (h : q < (effs T).length) : (effs T)[q] = eff1 (tbl T q) := by
 have h' : q < T.length := by rw [← effs_len]; exact h
 rw [← tbl_get h']; simp [effs]
theorem effs_set (T : Tab) (q : Nat) (v : Nat × Nat) : effs (T.set q v) = (effs T).set q (eff1 v) := by simp [effs, List.map_set]
theorem pow_lt6 {n : Nat} (h : n < 6) : 2 ^ n < 64 := Nat.pow_lt_pow_right (n := 6) (by omega) h
theorem FL.updM {c : DCode} {T : Tab} {p h m : Nat} {out : List Nat} (hF : FL c T p h out) (hc : CodeR c) (hp : p < c.entry.length) {i j : Nat} (hi : LiveP c p i) (hj : j ∈ nextN c i)
   (hm : ∀ l, l < 6 → m.testBit l = false → LostP c (tK T) (tG T) p (fun l => h.testBit l = true) i l) : FL c T p h (out.set j (nat0 out j &&& aft c T i m)) := by
 have hil := (live_lt hc hp hi).1
 have hjl := (nextN_lt hc hil hj).1
 refine ⟨by simp [hF.len], fun x hx => ?_, fun k l hk hl hb => ?_, fun l hl hb => ?_⟩
 · rcases mem_set hx with rfl | hx
   · exact Nat.lt_of_le_of_lt Nat.and_le_left (hF.lt0 j)
   · exact hF.lt x hx
 · rw [nat0_set (by rw [hF.len]; exact hjl)] at hb
   split at hb
   · rename_i e
     subst e
     rw [Nat.testBit_and, Bool.and_eq_false_iff] at hb
     rcases hb with hb | hb
     · exact hF.snd j l hk hl hb
     · rcases aft_bit.1 hb with h1 | ⟨h1, h2⟩
       · exact .gen hi hj h1
       · exact .pass hi hj (hm l hl h2) h1
   · exact hF.snd k l hk hl hb
 · rw [nat0_set (by rw [hF.len]; exact hjl)]
   split
   · rename_i e
     rw [Nat.testBit_and, e, hF.ent l hl hb]; rfl
   · exact hF.ent l hl hb
theorem behind_ok {w W0 W1 : World} {v0 v1 : Value} {c : DCode} {T : Tab} {i m : Nat} (h0 : Is W0 v0 (insAt c i)) (e0 : Ext W0 w) (h1 : Is W1 v1 (effs T)) (e1 : Ext W1 w) (hc : CodeR c) (hT : TabR c T) (hi : i < c.ins.length) (hm : m < 64) :
   CALL Tryz.prog 200 [v0, v1, .int .i64 (m : Int)] w fun r w' => Ext w w' ∧ r = .int .i64 (aft c T i m : Nat) := by
 refine F200_call ?_
 unfold F200
 refine op_box h0 e0 fun w1 hx1 hA => ?_
 have hag4 := fun h => ag_proc hc hi (.inl h)
 have hag6 := fun h => ag_lock hc hi h
 have h8 := hc.1.procs8
 have haft : aft c T i m = if (insAt c i).op = 6 then m ||| 2 ^ agN c i else if (insAt c i).op = 7 then andN m (2 ^ agN c i) else if (insAt c i).op = 4 then (m &&& (tbl T (agN c i)).1) ||| (tbl T (agN c i)).2 else m := rfl
 rw [haft]
 clear haft
 generalize agN c i = q at *
 generalize insAt c i = I at *
 refine rd_fld fd136_0 ?_
 refine rd_loadI ty3 (at_DIns_0 hA) (Ext.refl _) fun _ => ?_
 refine rd_eql ?_
 refine br (fun c6 => ?_) (fun c6 => ?_)
 · obtain ⟨ha, _, hq⟩ := hag6 (.inl c6)
   have hp := pow_lt6 hq
   rw [if_pos c6]
   refine rd_fld fd136_1 ?_
   refine rd_loadI ty3 (at_DIns_1 hA) (Ext.refl _) fun _ => ?_
   rw [ha]
   refine rd_uint (by kernel_rfl) u77 (by omega) ?_
   refine rd_shl1 (by omega) ?_
   refine rd_or (by omega) (by omega) ?_
   exact ⟨hx1, rfl⟩
 rw [if_neg c6]
 refine rd_eql ?_
 refine br (fun c7 => ?_) (fun c7 => ?_)
 · obtain ⟨ha, _, hq⟩ := hag6 (.inr c7)
   have hp := pow_lt6 hq
   rw [if_pos c7]
   refine rd_fld fd136_1 ?_
   refine rd_loadI ty3 (at_DIns_1 hA) (Ext.refl _) fun _ => ?_
   rw [ha]
   refine rd_uint (by kernel_rfl) u77 (by omega) ?_
   refine rd_shl1 (by omega) ?_
   refine rd_andNot (by omega) (by omega) ?_
   exact ⟨hx1, rfl⟩
 rw [if_neg c7]
 refine rd_eql ?_
 refine br (fun c4 => ?_) (fun c4 => ?_)
 · obtain ⟨ha, hq⟩ := hag4 c4
   rw [if_pos c4]
   have hx2 := ext_drew w1
   generalize World.drew1 w1 = w2 at *
   have hql : q < (effs T).length := by rw [effs_len, hT.1]; exact hq
   have hr := hT.2 q
   have hx12 := hx1.trans hx2
   refine rd_fld fd136_1 ?_
   refine rd_loadI ty3 (at_DIns_1 hA) hx2 fun _ => ?_
   rw [ha]
   refine rd_indexN u126 ty195 h1 hql fun b1 o1 hE => ?_
   rw [effs_get] at hE
   refine rd_fld fd195_0 ?_
   refine rd_loadI ty3 (at_DEffect_0 hE) (e1.trans hx12) fun _ => ?_
   refine rd_and (n := (tbl T q).1) (by omega) (by omega) ?_
   refine rd_fld fd136_1 ?_
   refine rd_loadI ty3 (at_DIns_1 hA) hx2 fun _ => ?_
   rw [ha]
   refine rd_indexN u126 ty195 h1 hql fun b2 o2 hE2 => ?_
   rw [effs_get] at hE2
   refine rd_fld fd195_1 ?_
   refine rd_loadI ty3 (at_DEffect_1 hE2) (e1.trans hx12) fun _ => ?_
   have := Nat.and_le_left (n := m) (m := (tbl T q).1)
   refine rd_or (n := (tbl T q).2) (by omega) (by omega) ?_
   exact ⟨hx12, rfl⟩
 · rw [if_neg c4]
   exact ⟨hx1, rfl⟩
def F120 (a0 a1 : Value) (w : World) (R : VW) : Prop :=
 CALL tp 123 [a0] w fun x6 w =>
 RD tp (Op.unary .not x6) w fun x7 =>
 BR x7
 (R (Value.int .i64 0) w)
 (CALL tp 123 [a1] w fun x10 w =>
 RD tp (Op.unary .not x10) w fun x11 =>
 BR x11
 (R (Value.int .i64 0) w)
 (RD tp (bin .sub 3 U0 T0 (Value.int .i64 63) a1) w fun x15 =>
 RD tp (bin .and 3 T0 T0 a0 x15) w fun x16 =>
 R x16 w))
def cfg120 : Cfg := ⟨extL, [], [], [], [], [], []⟩
theorem F120_eq (a0 a1 : Value) (w : World) (R : VW) : vcF Tryz.prog cfg120 Tryz.f120 [a0, a1] w R = F120 a0 a1 w R := by kernel_rfl
theorem F120_call {a0 a1 : Value} {w : World} {R : VW} (h : F120 a0 a1 w R) : CALL Tryz.prog 120 [a0, a1] w R :=
 call_of (g := cfg120) ent mixed Tryz.func120 (Nat.le_of_ble_eq_true (by kernel_rfl)) (by kernel_rfl) (F120_eq a0 a1 w R ▸ h)
theorem without_ok {w : World} {a : Nat} {b : Nat}   (ha : a < 64) (hb : b < 64) :
   CALL Tryz.prog 120 [.int .i64 (a : Int), .int .i64 (b : Int)] w fun r w' => Ext w w' ∧ (r = .int .i64 ((a &&& (63 - b) : Nat) : Int)) := by
 refine F120_call ?_
 unfold F120
 refine (l12Ok_ok ).mono ?_
 rintro _ w1_ ⟨hx1_, rfl⟩
 refine rd_nodec ?_
 refine br (fun c1 => ?_) (fun c1 => ?_)
 · refine ⟨hx1_, ?_⟩
   first | rfl | (exfalso; omega)
 · refine (l12Ok_ok ).mono ?_
   rintro _ w2_ ⟨hx2_, rfl⟩
   refine rd_nodec ?_
   refine br (fun c2 => ?_) (fun c2 => ?_)
   · refine ⟨(hx1_.trans hx2_), ?_⟩
     first | rfl | (exfalso; omega)
   · have e63 : (63 : Int) - (b : Int) = ((63 - b : Nat) : Int) := by omega
     refine rd_sub (by unfold I64; omega) ?_
     rw [e63]
     refine rd_and (by omega) (by omega) ?_
     refine ⟨(hx1_.trans hx2_), ?_⟩
     first | rfl | (exfalso; omega)
theorem without_and {a b : Nat} (ha : a < 64) (hb : b < 64) : a &&& (63 - b) = andN a b := by
 refine Nat.eq_of_testBit_eq fun l => ?_
 rw [Nat.testBit_and, andN_bit]
 cases h : a.testBit l
 · rfl
 have hl := bit_lt6 ha h
 have := Nat.testBit_two_pow_sub_succ (n := 6) (x := b) hb l
 rw [show 2 ^ 6 - (b + 1) = 63 - b by omega] at this
 rw [this, decide_eq_true hl, Bool.true_and]
theorem l13Moved_ok {w W0 W1 : World} {v0 v1 : Value} {c : DCode} {T : Tab} {i m : Nat} (h0 : Is W0 v0 (insAt c i)) (e0 : Ext W0 w) (h1 : Is W1 v1 (effs T)) (e1 : Ext W1 w) (hc : CodeR c) (hT : TabR c T) (hi : i < c.ins.length) (hm : m < 64) :
   CALL Tryz.prog 187 [v0, v1, .int .i64 (m : Int)] w fun r w' => Ext w w' ∧ r = .int .i64 (aft c T i m : Nat) := by
 refine F187_call ?_
 unfold F187
 refine op_box h0 e0 fun w1 hx1 hA => ?_
 have hag4 := fun h => ag_proc hc hi (.inl h)
 have hag6 := fun h => ag_lock hc hi h
 have h8 := hc.1.procs8
 have haft : aft c T i m = if (insAt c i).op = 6 then m ||| 2 ^ agN c i else if (insAt c i).op = 7 then andN m (2 ^ agN c i) else if (insAt c i).op = 4 then (m &&& (tbl T (agN c i)).1) ||| (tbl T (agN c i)).2 else m := rfl
 rw [haft]
 clear haft
 generalize agN c i = q at *
 generalize insAt c i = I at *
 refine rd_fld fd136_0 ?_
 refine rd_loadI ty3 (at_DIns_0 hA) (Ext.refl _) fun _ => ?_
 refine rd_eql ?_
 refine br (fun c6 => ?_) (fun c6 => ?_)
 · obtain ⟨ha, _, hq⟩ := hag6 (.inl c6)
   have hp := pow_lt6 hq
   rw [if_pos c6]
   refine rd_fld fd136_1 ?_
   refine rd_loadI ty3 (at_DIns_1 hA) (Ext.refl _) fun _ => ?_
   rw [ha]
   refine (l12Bit_ok (by omega)).mono ?_
   rintro _ w2 ⟨hx2, rfl⟩
   refine rd_or (by omega) (by omega) ?_
   exact ⟨hx1.trans hx2, rfl⟩
 rw [if_neg c6]
 refine rd_eql ?_
 refine br (fun c7 => ?_) (fun c7 => ?_)
 · obtain ⟨ha, _, hq⟩ := hag6 (.inr c7)
   have hp := pow_lt6 hq
   rw [if_pos c7]
   refine rd_fld fd136_1 ?_
   refine rd_loadI ty3 (at_DIns_1 hA) (Ext.refl _) fun _ => ?_
   rw [ha]
   refine (l12Bit_ok (by omega)).mono ?_
   rintro _ w2 ⟨hx2, rfl⟩
   refine (without_ok hm hp).mono ?_
   rintro _ w3 ⟨hx3, rfl⟩
   exact ⟨(hx1.trans hx2).trans hx3, by rw [without_and hm hp]⟩
 rw [if_neg c7]
 refine rd_eql ?_
 refine br (fun c4 => ?_) (fun c4 => ?_)
 · obtain ⟨ha, hq⟩ := hag4 c4
   rw [if_pos c4]
   have hx2 := ext_drew w1
   generalize World.drew1 w1 = w2 at *
   have hql : q < (effs T).length := by rw [effs_len, hT.1]; exact hq
   have hr := hT.2 q
   have hx12 := hx1.trans hx2
   refine rd_fld fd136_1 ?_
   refine rd_loadI ty3 (at_DIns_1 hA) hx2 fun _ => ?_
   rw [ha]
   refine rd_indexN u126 ty195 h1 hql fun b1 o1 hE => ?_
   rw [effs_get] at hE
   refine rd_fld fd195_0 ?_
   refine rd_loadI ty3 (at_DEffect_0 hE) (e1.trans hx12) fun _ => ?_
   refine rd_and (n := (tbl T q).1) (by omega) (by omega) ?_
   refine rd_fld fd136_1 ?_
   refine rd_loadI ty3 (at_DIns_1 hA) hx2 fun _ => ?_
   rw [ha]
   refine rd_indexN u126 ty195 h1 hql fun b2 o2 hE2 => ?_
   rw [effs_get] at hE2
   refine rd_fld fd195_1 ?_
   refine rd_loadI ty3 (at_DEffect_1 hE2) (e1.trans hx12) fun _ => ?_
   have := Nat.and_le_left (n := m) (m := (tbl T q).1)
   refine rd_or (n := (tbl T q).2) (by omega) (by omega) ?_
   exact ⟨hx12, rfl⟩
 · rw [if_neg c4]
   exact ⟨hx1, rfl⟩
def F194 (a0 a1 : Value) (w : World) (R : VW) : Prop :=
 NIL a0 <|
 RD tp (Instr.fieldAt 144 a0 0) w fun x9 =>
 RD tp (Instr.fieldAt 35 x9 3) w fun x10 =>
 RD tp (Instr.loadAt 23 x10) w fun x11 =>
 RD tp (Instr.indexAt 23 x11 a1) w fun x13 =>
 RD tp (Instr.loadAt 3 x13) w fun x14 =>
 LOOPI [5, 6] [(Value.slice none 0 0), x14] w fun u3 w next3 =>
 NIL a0 <|
 RD tp (Instr.fieldAt 144 a0 0) w fun x18 =>
 RD tp (Instr.loadAt 35 x18) w fun x19 =>
 CALL tp 133 [x19, a1] w fun x21 w =>
 RD tp (bin .lss 3 T0 T0 (u3 6) x21) w fun x22 =>
 BR x22
 (NIL a0 <|
 RD tp (Instr.fieldAt 144 a0 1) w fun x27 =>
 RD tp (Instr.loadAt 72 x27) w fun x28 =>
 RD tp (Instr.indexAt 72 x28 (u3 6)) w fun x30 =>
 RD tp (Instr.loadAt 4 x30) w fun x31 =>
 BR x31
 (OP tp (Instr.buildSlice 23 1 #[(0, (u3 6))]) w fun x34 w =>
 OP tp (Builtin.append_ #[23, 23] 23 [(u3 5), x34].toArray) w fun x35 w =>
 RD tp (bin .add 3 T0 U0 (u3 6) (Value.int .i64 1)) w fun x24 =>
 next3 [x35, x24] w)
 (RD tp (bin .add 3 T0 U0 (u3 6) (Value.int .i64 1)) w fun x24 =>
 next3 [(u3 5), x24] w))
 (R (u3 5) w)
def cfg194 : Cfg := ⟨extL, [], [(3, 68719444064, [5, 6])], [], [], [], []⟩
theorem F194_eq (a0 a1 : Value) (w : World) (R : VW) : vcF Tryz.prog cfg194 Tryz.f194 [a0, a1] w R = F194 a0 a1 w R := by kernel_rfl
theorem F194_call {a0 a1 : Value} {w : World} {R : VW} (h : F194 a0 a1 w R) : CALL Tryz.prog 194 [a0, a1] w R :=
 call_of (g := cfg194) ent mixed Tryz.func194 (Nat.le_of_ble_eq_true (by kernel_rfl)) (by kernel_rfl) (F194_eq a0 a1 w R ▸ h)
def F132 (a0 a1 a2 a3 : Value) (w : World) (R : VW) : Prop :=
 NIL a0 <|
 RD tp (Instr.fieldAt 144 a0 0) w fun x20 =>
 RD tp (Instr.fieldAt 35 x20 4) w fun x21 =>
 RD tp (Instr.loadAt 33 x21) w fun x22 =>
 RD tp (ln 33 3 x22) w fun x23 =>
 OP tp (Instr.makeSlice 23 x23 x23) w fun x24 w =>
 RD tp (ln 23 3 x24) w fun x26 =>
 LOOPI [27] [(Value.int .i64 0)] w fun u3 w next3 =>
 RD tp (bin .lss 3 T0 T0 (u3 27) x26) w fun x28 =>
 BR x28
 (RD tp (Instr.indexAt 23 x24 (u3 27)) w fun x32 =>
 OPU tp (Instr.storeAt 3 x32 (Value.int .i64 63)) w fun w =>
 RD tp (bin .add 3 T0 U0 (u3 27) (Value.int .i64 1)) w fun x33 =>
 next3 [x33] w)
 (NIL a0 <|
 RD tp (Instr.fieldAt 144 a0 0) w fun x37 =>
 RD tp (Instr.fieldAt 35 x37 3) w fun x38 =>
 RD tp (Instr.loadAt 23 x38) w fun x39 =>
 RD tp (Instr.indexAt 23 x39 a2) w fun x41 =>
 RD tp (Instr.loadAt 3 x41) w fun x42 =>
 RD tp (Instr.indexAt 23 x24 x42) w fun x44 =>
 OPU tp (Instr.storeAt 3 x44 a3) w fun w =>
 CALL tp 194 [a0, a2] w fun x47 w =>
 LOOPI [12] [(Value.bool true)] w fun u10 w next10 =>
 BR (u10 12)
 (RD tp (ln 23 3 x47) w fun x50 =>
 LOOPI [12, 51] [(Value.bool false), (Value.int .i64 0)] w fun u13 w next13 =>
 RD tp (bin .lss 3 T0 T0 (u13 51) x50) w fun x52 =>
 BR x52
 (RD tp (Instr.indexAt 23 x47 (u13 51)) w fun x53 =>
 RD tp (Instr.loadAt 3 x53) w fun x54 =>
 (fun w => NIL a0 <|
 RD tp (Instr.fieldAt 144 a0 0) w fun x57 =>
 RD tp (Instr.fieldAt 35 x57 4) w fun x58 =>
 RD tp (Instr.loadAt 33 x58) w fun x59 =>
 RD tp (Instr.indexAt 33 x59 x54) w fun x61 =>
 RD tp (Instr.loadAt 136 x61) w fun x62 =>
 RD tp (Instr.indexAt 23 x24 x54) w fun x66 =>
 RD tp (Instr.loadAt 3 x66) w fun x67 =>
 CALL tp 200 [x62, a1, x67] w fun x68 w =>
 CALL tp 135 [a0, x54] w fun x71 w =>
 RD tp (ln 23 3 x71) w fun x72 =>
 LOOPI [12, 73] [(u13 12), (Value.int .i64 0)] w fun u17 w next17 =>
 RD tp (bin .lss 3 T0 T0 (u17 73) x72) w fun x74 =>
 BR x74
 (RD tp (Instr.indexAt 23 x71 (u17 73)) w fun x75 =>
 RD tp (Instr.loadAt 3 x75) w fun x76 =>
 (fun w => RD tp (Instr.indexAt 23 x24 x76) w fun x79 =>
 RD tp (Instr.loadAt 3 x79) w fun x80 =>
 RD tp (bin .and 3 T0 T0 x80 x68) w fun x82 =>
 RD tp (Instr.indexAt 23 x24 x76) w fun x85 =>
 RD tp (Instr.loadAt 3 x85) w fun x86 =>
 RD tp (bin .neq 3 T0 T0 x82 x86) w fun x87 =>
 BR x87
 (RD tp (Instr.indexAt 23 x24 x76) w fun x90 =>
 RD tp (Instr.loadAt 3 x90) w fun x91 =>
 RD tp (bin .and 3 T0 T0 x91 x68) w fun x93 =>
 RD tp (Instr.indexAt 23 x24 x76) w fun x94 =>
 OPU tp (Instr.storeAt 3 x94 x93) w fun w =>
 RD tp (bin .add 3 T0 U0 (u17 73) (Value.int .i64 1)) w fun x95 =>
 next17 [(Value.bool true), x95] w)
 (RD tp (bin .add 3 T0 U0 (u17 73) (Value.int .i64 1)) w fun x95 =>
 next17 [(u17 12), x95] w)) (World.drew1 w))
 (RD tp (bin .add 3 T0 U0 (u13 51) (Value.int .i64 1)) w fun x96 =>
 next13 [(u17 12), x96] w)) (World.drew1 w))
 (next10 [(u13 12)] w))
 (R x24 w))
def cfg132 : Cfg := ⟨extL, [], [(3, 17045652480, [27]), (10, 158456325028528393712111374336, [12]), (13, 158456325028526423387274399744, [12, 51]), (17, 79228153069531371854253658112, [12, 73])], [(15, [0, 1, 2, 3, 4, 5, 6, 7, 8, 9, 10, 11, 12, 13, 14], 0), (19, [0, 1, 2, 3, 4, 5, 6, 7, 8, 9, 10], 0)], [], [], []⟩
theorem F132_eq (a0 a1 a2 a3 : Value) (w : World) (R : VW) : vcF Tryz.prog cfg132 Tryz.f132 [a0, a1, a2, a3] w R = F132 a0 a1 a2 a3 w R := by kernel_rfl
theorem F132_call {a0 a1 a2 a3 : Value} {w : World} {R : VW} (h : F132 a0 a1 a2 a3 w R) : CALL Tryz.prog 132 [a0, a1, a2, a3] w R :=
 call_of (g := cfg132) ent mixed Tryz.func132 (Nat.le_of_ble_eq_true (by kernel_rfl)) (by kernel_rfl) (F132_eq a0 a1 a2 a3 w R ▸ h)
set_option linter.unusedVariables false
set_option linter.unusedSimpArgs false
open Rep (rep)
def AllLive (c : DCode) (i : Nat) : Prop := ∃ p, p < c.procs.length ∧ LiveP c p i
structure WL (W0 : World) (b : Nat) (c : DCode) : Prop where
 code : At W0 b 0 c
 live : At W0 b (0 + 5) (setB c.ins.length (AllLive c))
theorem setL_more {n m : Nat} {p : Nat → Prop} (h : n ≤ m) (hp : ∀ i, n ≤ i → i < m → ¬ p i) : setL m p = setL n p := by
 induction m with
 | zero => have : n = 0 := by omega
           subst this; rfl
 | succ m ih =>
   by_cases e : n = m + 1
   · rw [e]
   · rw [setL_no (hp m (by omega) (by omega)), ih (by omega) fun i h1 h2 => hp i h1 (by omega)]
theorem liveOf_ok {w W0 : World} {b p : Nat} {c : DCode} (hW : WL W0 b c) (e0 : Ext W0 w) (hc : CodeR c) (hp : p < c.procs.length) :
   CALL Tryz.prog 194 [.pointer (some ⟨b, 0, none⟩), .int .i64 (p : Int)] w fun r w' => Ext w w' ∧ Own w.heap.size w' r (ints (setL c.ins.length (LiveP c p))) := by
 refine F194_call ?_
 unfold F194
 have hpe : p < c.entry.length := by rw [hc.2.1.1]; exact hp
 have hil := hc.f.ins
 have h8 := hc.1.procs8
 obtain ⟨he1, he2, he3⟩ := eN_eq hc hpe
 obtain ⟨hz1, hz2, hz3⟩ := zN_eq hc hpe
 have hlv : ∀ i, LiveP c p i → eN c p ≤ i ∧ i ≤ zN c p := fun i h => by
   have := live_lt hc hpe h
   exact in_proc hc this.1 hpe this.2
 refine NIL.mk rfl ?_
 refine rd_fld fd144_0 ?_
 refine rd_fld fd35_3 ?_
 refine rd_load ty23 (at_DCode_3 hW.code) e0 fun v11 h11 => ?_
 refine rd_indexN u23 ty3 h11 hpe fun b1 o1 hA1 => ?_
 rw [en_get hpe, he1] at hA1
 refine rd_loadI ty3 hA1 e0 fun _ => ?_
 generalize hE : eN c p = E at *
 generalize hZ : zN c p = Z at *
 have h0 : setL E (LiveP c p) = [] := by
   rw [setL_more (n := 0) (Nat.zero_le _) fun i _ h2 h3 => by have := hlv i h3; omega]; rfl
 refine loopC (Z + 1 - E) (fun k us w' => ∃ (v : Value), us = [v, .int .i64 ((E + k : Nat) : Int)] ∧ E + k ≤ Z + 1 ∧ Ext w w' ∧ RowI w.heap.size w'.heap.size 3 w' v (ints (setL (E + k) (LiveP c p)))) 0 (Nat.zero_le _) ⟨_, rfl, by omega, Ext.refl _, by rw [Nat.add_zero, h0]; exact rowI_nil _ _ _ _⟩ ?_
 rintro k mk u w2 hkm ⟨v, hu, hkl, hx2, hr2⟩
 simp only [List.map_cons, List.map_nil, List.cons.injEq, and_true] at hu
 obtain ⟨hu1, hu2⟩ := hu
 rw [hu1, hu2]
 have hx02 := e0.trans hx2
 have hs2 := hx2.size
 refine NIL.mk rfl ?_
 refine rd_fld fd144_0 ?_
 refine rd_load ty35 hW.code hx02 fun v19 h19 => ?_
 refine (endOfProc_ok h19 hx02 (by omega)).mono ?_
 rintro _ w3 ⟨hx3, rfl⟩
 rw [hz1]
 have hx03 := hx02.trans hx3
 refine rd_lss ?_
 refine br (fun hlt => ?_) (fun hge => ?_)
 case refine_2 =>
   have hk : E + k = Z + 1 := by omega
   refine ⟨hx2.trans hx3, ?_⟩
   rw [setL_more (n := Z + 1) (by omega) fun i h1 _ h3 => by have := hlv i h3; omega, ← hk]
   exact (hr2.ext hx3).own.own
 have hk : E + k < c.ins.length := by omega
 refine NIL.mk rfl ?_
 refine rd_fld fd144_1 ?_
 refine rd_load ty72 hW.live hx03 fun v28 h28 => ?_
 refine rd_indexN u72 ty4 (i := E + k) h28 (by rw [setB_len]; exact hk) fun b2 o2 hA2 => ?_
 refine rd_loadB ty4 hA2 hx03 ?_
 have hmk := mkd_setB (n := c.ins.length) (p := AllLive c) (i := E + k)
 rw [mkd_get (by rw [setB_len]; exact hk)] at hmk
 have hiff : AllLive c (E + k) ↔ LiveP c p (E + k) := by
   constructor
   · rintro ⟨q, hq, hl⟩
     have h1 := live_lt hc (by rw [hc.2.1.1]; exact hq) hl
     have h2 := proc_in hc (p := p) (i := E + k) hpe (by omega) (by omega)
     have : q = p := by omega
     rwa [this] at hl
   · exact fun h => ⟨p, hp, h⟩
 have hsl := setL_len (n := E + k) (p := LiveP c p)
 refine br_b (fun hf => ?_) (fun hf => ?_)
 · refine op_push (lo2 := w3.heap.size) (hi2 := w3.heap.size) (x := ((E + k : Nat) : Int)) u23 ty3 z3 zc3 (by decide) (hr2.ext hx3) (by have := hx3.size; omega) (ownI_int _ _ (by unfold I64; omega)) (by have := hx3.size; omega) (by have := hx3.size; omega) (by rw [maxLen_eq, ints_len]; omega) (by rw [ints_len]; omega) fun v54 w9 hc9 hr9 => ?_
   refine rd_inc (by omega) ?_
   refine ⟨mk - 1, by omega, k + 1, by omega, v54, rfl, by omega, (hx2.trans hx3).chgI hc9 (by omega), ?_⟩
   rw [← Nat.add_assoc, setL_yes (hiff.1 (hmk.1 hf).2), ints_append]
   exact hr9
 · refine rd_inc (by omega) ?_
   refine ⟨mk - 1, by omega, k + 1, by omega, v, rfl, by omega, hx2.trans hx3, ?_⟩
   rw [← Nat.add_assoc, setL_no fun h => by rw [hmk.2 ⟨hk, hiff.2 h⟩] at hf; cases hf]
   exact (hr2.ext hx3).mono (Nat.le_refl _) hx3.size
theorem op_makeI {w : World} {n : Nat} {K : Value → World → Prop} (h0 : 0 < n) (hn : n ≤ 1000000)
   (k : ∀ w', Ext w w' → Mine [w.heap.size] w' (.slice (some ⟨w.heap.size, 0, none⟩) n n) (ints (List.replicate n 0)) → K (.slice (some ⟨w.heap.size, 0, none⟩) n n) w') : OP Tryz.prog (Instr.makeSlice 23 (.int .i64 (n : Int)) (.int .i64 (n : Int))) w K :=
 op_makeZ (α := Int) u23 ty3 rfl rfl zlIf (by omega) (by omega) fun w2 hx2 hr2 => by
   refine k w2 hx2 ?_
   obtain ⟨F, hM, hF⟩ := hr2.own
   obtain ⟨b, o, cap, hv, hF2⟩ := flat_one hM (by intro e; have := congrArg List.length e; simp at this; omega)
   simp only [Value.slice.injEq, Option.some.injEq, Addr.mk.injEq, List.cons.injEq, and_true] at hv
   obtain ⟨⟨hb, ho⟩, _⟩ := hv
   rw [← hb] at hF2
   rw [hF2] at hM
   have e : ints (List.replicate n 0) = List.replicate n (RepZ.zv : Int) := by simp only [ints, List.map_replicate]; rfl
   rw [e]; exact hM
theorem rd_lenX {P : Program} {w : World} {K : Value → Prop} {t ty e : TypeId} {a : Option Addr} {n c : Nat} (ht : P.underlying t = some (.slice e)) (k : K (.int .i64 (n : Int))) :
   RD P (Builtin.len_ #[t] ty [Value.slice a n c].toArray) w K := rd_of (fun w' _ => by simp [Builtin.len_, run_underlying ht]; rfl) k
structure FW (w1 w : World) (g n : Nat) (out : List Nat) : Prop where
 ext : Ext w1 w
 mine : Mine [g] w (.slice (some ⟨g, 0, none⟩) n n) (ints out)
 g0 : w1.heap.size ≤ g
section
variable {w1 w w' : World} {g n : Nat} {out : List Nat}
theorem FW.step (h : FW w1 w g n out) (hx : Ext w w') : FW w1 w' g n out := ⟨h.ext.trans hx, h.mine.ext hx, h.g0⟩
theorem chg_one (hc : Chg [g] w w') : ChgI g (g + 1) w w' := hc.toI fun b hb => by simp only [List.mem_cons, List.not_mem_nil, or_false] at hb; omega
theorem FW.set {i v : Nat} (h : FW w1 w g n out) (hc : Chg [g] w w') (hm : Mine [g] w' (.slice (some ⟨g, 0, none⟩) n n) ((ints out).set i (v : Int))) : FW w1 w' g n (out.set i v) :=
 ⟨h.ext.chgI (chg_one hc) h.g0, by rw [ints_set]; exact hm, h.g0⟩
theorem FW.lt (h : FW w1 w g n out) : g < w.heap.size := h.mine.lt g (by simp)
theorem FW.own (h : FW w1 w g n out) : Own w1.heap.size w (.slice (some ⟨g, 0, none⟩) n n) (ints out) := ⟨[g], h.mine, fun b hb => by simp only [List.mem_cons, List.not_mem_nil, or_false] at hb; have := h.g0; omega⟩
end
theorem mine_nat {w : World} {v : Nat} (h : v < 9223372036854775808) : Mine [] w (.int .i64 (v : Int)) (v : Int) := mine_int (by unfold I64; omega)
def fil (n k : Nat) : List Nat := List.replicate k 63 ++ List.replicate (n - k) 0
theorem fil_len {n k : Nat} (h : k ≤ n) : (fil n k).length = n := by simp [fil]; omega
theorem fil_set {n k : Nat} (h : k < n) : (fil n k).set k 63 = fil n (k + 1) := by
 obtain ⟨m, hm⟩ : ∃ m, n - k = m + 1 := ⟨n - k - 1, by omega⟩
 unfold fil
 rw [List.set_append_right _ _ (by simp), hm, List.length_replicate, Nat.sub_self, List.replicate_succ, List.set_cons_zero, List.replicate_succ', show n - (k + 1) = m by omega]
 simp
theorem fil_full (n : Nat) : fil n n = List.replicate n 63 := by simp [fil]
structure FP (c : DCode) (T : Tab) (p h : Nat) (out0 L : List Nat) (k : Nat) (ag : Bool) (out : List Nat) : Prop where
 fl : FL c T p h out
 yes : ag = true → out.sum < out0.sum
 no : ag = false → out = out0 ∧ ∀ i ∈ L.take k, Shut c T out0 i
structure FQ (c : DCode) (T : Tab) (p h : Nat) (out0 L : List Nat) (k i q : Nat) (ag : Bool) (out : List Nat) : Prop where
 fl : FL c T p h out
 yes : ag = true → out.sum < out0.sum
 no : ag = false → out = out0 ∧ (∀ i ∈ L.take k, Shut c T out0 i) ∧ ∀ j ∈ (nextN c i).take q, nat0 out0 j &&& aft c T i (nat0 out0 i) = nat0 out0 j
section
variable {c : DCode} {T : Tab} {p h k i q m : Nat} {out0 L out : List Nat} {ag : Bool}
theorem FP.enter (H : FP c T p h out0 L k ag out) (i : Nat) : FQ c T p h out0 L k i 0 ag out := ⟨H.fl, H.yes, fun e => ⟨(H.no e).1, (H.no e).2, by simp⟩⟩
theorem FQ.set (H : FQ c T p h out0 L k i q ag out) (hc : CodeR c) (hp : p < c.entry.length) (hi : LiveP c p i) (hq : q < (nextN c i).length) (hm : ∀ l, l < 6 → m.testBit l = false → LostP c (tK T) (tG T) p (fun l => h.testBit l = true) i l)
   (hne : nat0 out (nextN c i)[q] &&& aft c T i m ≠ nat0 out (nextN c i)[q]) : FQ c T p h out0 L k i (q + 1) true (out.set (nextN c i)[q] (nat0 out (nextN c i)[q] &&& aft c T i m)) := by
 have hj := List.getElem_mem hq
 have hjl := (nextN_lt hc (live_lt hc hp hi).1 hj).1
 refine ⟨H.fl.updM hc hp hi hj hm, fun _ => ?_, fun e => by cases e⟩
 have h1 := sum_set (l := out) (i := (nextN c i)[q]) (v := nat0 out (nextN c i)[q] &&& aft c T i m) (by rw [H.fl.len]; exact hjl)
 have h2 := and_lt hne
 cases ag with
 | true => have := H.yes rfl; omega
 | false => rw [(H.no rfl).1] at h1 h2 ⊢; omega
theorem FQ.skip (H : FQ c T p h out0 L k i q ag out) (hq : q < (nextN c i).length) (hz : ag = false → m = nat0 out0 i) (he : nat0 out (nextN c i)[q] &&& aft c T i m = nat0 out (nextN c i)[q]) : FQ c T p h out0 L k i (q + 1) ag out := by
 refine ⟨H.fl, H.yes, fun e => ⟨(H.no e).1, (H.no e).2.1, fun j hj => ?_⟩⟩
 rw [List.take_succ_eq_append_getElem hq] at hj
 rcases List.mem_append.1 hj with hj | hj
 · exact (H.no e).2.2 j hj
 · simp only [List.mem_cons, List.not_mem_nil, or_false] at hj
   rw [(H.no e).1, hz e] at he
   rw [hj]; exact he
theorem FQ.done (H : FQ c T p h out0 L k i q ag out) (hk : k < L.length) (hi : L[k] = i) (hq : (nextN c i).length ≤ q) : FP c T p h out0 L (k + 1) ag out := by
 refine ⟨H.fl, H.yes, fun e => ⟨(H.no e).1, fun i' hi' => ?_⟩⟩
 rw [List.take_succ_eq_append_getElem hk] at hi'
 rcases List.mem_append.1 hi' with h1 | h1
 · exact (H.no e).2.1 i' h1
 · simp only [List.mem_cons, List.not_mem_nil, or_false] at h1
   rw [h1, hi]
   have := (H.no e).2.2
   rw [List.take_of_length_le hq] at this
   exact this
end
theorem flow_ok {w W0 W1 : World} {b p h : Nat} {v1 : Value} {c : DCode} {T : Tab} (hW : WL W0 b c) (e0 : Ext W0 w) (h1 : Is W1 v1 (effs T)) (e1 : Ext W1 w) (hc : CodeR c) (hT : TabR c T) (hp : p < c.procs.length) (hh : h < 64) :
   CALL Tryz.prog 132 [.pointer (some ⟨b, 0, none⟩), v1, .int .i64 (p : Int), .int .i64 (h : Int)] w fun r w' => Ext w w' ∧ Own w.heap.size w' r (ints (flowN c T p h)) := by
 refine F132_call ?_
 unfold F132
 have hpe : p < c.entry.length := by rw [hc.2.1.1]; exact hp
 have hil := hc.f.ins
 obtain ⟨he1, he2, he3⟩ := eN_eq hc hpe
 have hst := FL.start (T := T) hc hpe hh
 have hfin := fun {out} => FL.fin (c := c) (T := T) (p := p) (h := h) (out := out)
 refine NIL.mk rfl ?_
 refine rd_fld fd144_0 ?_
 refine rd_fld fd35_4 ?_
 refine rd_load ty33 (at_DCode_4 hW.code) e0 fun v22 h22 => ?_
 refine rd_len u33 h22 ?_
 have hn : c.ins.length = c.ins.length := rfl
 generalize hnn : c.ins.length = n at hn
 rw [hnn] at he2 hst hil
 refine op_makeI (by omega) (by omega) fun w2 hx2 hM2 => ?_
 have hs2 := hx2.size
 generalize hg : w.heap.size = g at *
 have hF2 : FW w w2 g n (fil n 0) := ⟨hx2, by simpa [fil] using hM2, by omega⟩
 refine rd_lenX u23 ?_
 refine loopC n (fun k us w' => us = [.int .i64 (k : Int)] ∧ k ≤ n ∧ FW w w' g n (fil n k)) 0 (Nat.zero_le _) ⟨rfl, Nat.zero_le _, hF2⟩ ?_
 rintro k mk u w3 hkm ⟨hu, hkl, hF3⟩
 simp only [List.map_cons, List.map_nil, List.cons.injEq, and_true] at hu
 rw [hu]
 refine rd_lss ?_
 refine br (fun hlt => ?_) (fun hge => ?_)
 · have hk : k < n := by omega
   refine rd_elt (α := Int) rfl u23 ty3 hk ?_
   refine opu_elt (α := Int) rfl ty3 hF3.mine (by rw [ints_len, fil_len hkl]) hk (mine_nat (v := 63) (by omega)) fun w4 hc4 hm4 => ?_
   have hF4 := hF3.set (v := 63) hc4 hm4
   rw [fil_set hk] at hF4
   refine rd_inc (by omega) ?_
   exact ⟨mk - 1, by omega, k + 1, by omega, rfl, by omega, hF4⟩
 have hk : k = n := by omega
 rw [hk, fil_full] at hF3
 clear hF2 hM2 hu hkm
 refine NIL.mk rfl ?_
 refine rd_fld fd144_0 ?_
 refine rd_fld fd35_3 ?_
 refine rd_load ty23 (at_DCode_3 hW.code) (e0.trans hF3.ext) fun v39 h39 => ?_
 refine rd_indexN u23 ty3 h39 hpe fun b1 o1 hA1 => ?_
 rw [en_get hpe, he1] at hA1
 refine rd_loadI ty3 hA1 (e0.trans hF3.ext) fun _ => ?_
 refine rd_elt (α := Int) rfl u23 ty3 he2 ?_
 refine opu_elt (α := Int) rfl ty3 hF3.mine (by rw [ints_len]; simp) he2 (mine_nat (v := h) (by omega)) fun w4 hc4 hm4 => ?_
 have hF4 := hF3.set (v := h) hc4 hm4
 refine (liveOf_ok hW (e0.trans hF4.ext) hc hp).mono ?_
 rintro v47 w5 ⟨hx5, ho5⟩
 have hF5 := hF4.step hx5
 have hg4 := hF4.lt
 have hL : ∀ i ∈ setL c.ins.length (LiveP c p), LiveP c p i := fun i hi => (mem_setL.1 hi).2
 have hL2 : ∀ i, LiveP c p i → i ∈ setL c.ins.length (LiveP c p) := fun i hi => mem_setL.2 ⟨(live_lt hc hpe hi).1, hi⟩
 have hLl : (setL c.ins.length (LiveP c p)).length ≤ 1500 := Nat.le_trans setL_len (by rw [hnn]; omega)
 generalize setL c.ins.length (LiveP c p) = L at *
 generalize (List.replicate n 63).set (eN c p) h = out at hst hF5
 have hO5 := ho5.toI
 generalize hlo : w4.heap.size = lo at *
 generalize hhi : w5.heap.size = hi at *
 refine LOOPI.mk (fun m us w' => ∃ (ag : Bool) (out : List Nat), us = [.bool ag] ∧ m = out.sum + (if ag then 1 else 0) ∧ FW w w' g n out ∧ OwnI lo hi w' v47 (ints L) ∧ FL c T p h out ∧ (ag = false → ∀ i, LiveP c p i → Shut c T out i)) (out.sum + 1) ⟨true, out, rfl, rfl, hF5, hO5, hst, fun e => by cases e⟩ ?_
 rintro m u w6 ⟨ag, out, hu, hm, hF6, hO6, hfl, hsh⟩
 simp only [List.map_cons, List.map_nil, List.cons.injEq, and_true] at hu
 rw [hu]
 refine br_b (fun hag => ?_) (fun hag => ?_)
 case refine_2 =>
   have := hfin hfl hc hpe (hsh hag)
   rw [← this]
   have hoo := hF6.own
   rw [hg] at hoo
   exact ⟨hF6.ext, hoo⟩
 rw [hag, if_pos rfl] at hm
 refine rd_len u23 hO6.is ?_
 rw [ints_len]
 refine loopC L.length (fun k us w' => ∃ (ag : Bool) (out' : List Nat), us = [.bool ag, .int .i64 (k : Int)] ∧ k ≤ L.length ∧ FW w w' g n out' ∧ OwnI lo hi w' v47 (ints L) ∧ FP c T p h out L k ag out') 0 (Nat.zero_le _) ⟨false, out, rfl, Nat.zero_le _, hF6, hO6, hfl, fun e => (by cases e), fun _ => ⟨rfl, by simp⟩⟩ ?_
 rintro k mk u w7 hkm ⟨ag7, out7, hu, hkl, hF7, hO7, hP7⟩
 simp only [List.map_cons, List.map_nil, List.cons.injEq, and_true] at hu
 obtain ⟨hu1, hu2⟩ := hu
 rw [hu1, hu2]
 refine rd_lss ?_
 refine br (fun hlt => ?_) (fun hge => ?_)
 case refine_2 =>
   refine ⟨out7.sum + (if ag7 then 1 else 0), ?_, ag7, out7, rfl, rfl, hF7, hO7, hP7.fl, fun e i hi => ?_⟩
   · cases ag7 with
     | true => have := hP7.yes rfl; simp; omega
     | false => rw [(hP7.no rfl).1]; simp; omega
   · have := hP7.no e
     rw [this.1]
     exact this.2 i (by rw [List.take_of_length_le (by omega)]; exact hL2 i hi)
 have hk : k < L.length := by omega
 refine rd_indexN u23 ty3 (i := k) hO7.is (by rw [ints_len]; exact hk) fun b2 o2 hA2 => ?_
 rw [ints_get] at hA2
 refine rd_loadI ty3 hA2 (Ext.refl _) fun _ => ?_
 generalize hix : L[k] = i at *
 have hiv : LiveP c p i := hL i (by rw [← hix]; exact List.getElem_mem hk)
 have hin := (live_lt hc hpe hiv).1
 have hx8 := ext_drew w7
 have hF8 := hF7.step hx8
 have hO8 := hO7.ext hx8
 generalize World.drew1 w7 = w8 at *
 refine NIL.mk rfl ?_
 refine rd_fld fd144_0 ?_
 refine rd_fld fd35_4 ?_
 refine rd_load ty33 (at_DCode_4 hW.code) (e0.trans hF8.ext) fun v59 h59 => ?_
 refine rd_indexN u33 ty136 h59 hin fun b3 o3 hA3 => ?_
 rw [insAt_get] at hA3
 refine rd_load ty136 hA3 (e0.trans hF8.ext) fun v62 h62 => ?_
 have hl7 := hP7.fl.len
 refine rd_indexN u23 ty3 (i := i) hF8.mine.is (by rw [ints_len, hl7]; exact hin) fun b4 o4 hA4 => ?_
 rw [ints_nat0] at hA4
 refine rd_loadI ty3 hA4 (Ext.refl _) fun _ => ?_
 have hm64 := hP7.fl.lt0 i
 have hmb : ∀ l, l < 6 → (nat0 out7 i).testBit l = false → LostP c (tK T) (tG T) p (fun l => h.testBit l = true) i l := fun l hl hb => hP7.fl.snd i l hin hl hb
 have hmz : ag7 = false → nat0 out7 i = nat0 out i := fun e => by rw [(hP7.no e).1]
 generalize nat0 out7 i = mm at *
 refine (behind_ok h62 (e0.trans hF8.ext) h1 (e1.trans hF8.ext) hc hT hin hm64).mono ?_
 rintro _ w9 ⟨hx9, rfl⟩
 have hF9 := hF8.step hx9
 have hO9 := hO8.ext hx9
 have haf := aft_lt hc hT hin hm64
 refine (nextIn_ok hW.code (e0.trans hF9.ext) hc hin).mono ?_
 rintro v71 w10 ⟨hx10, ho10⟩
 have hF10 := hF9.step hx10
 have hO10 := hO9.ext hx10
 have hg9 := hF9.lt
 have hN10 := ho10.toI
 have hl2 := nextN_len c i
 refine rd_len u23 ho10.is ?_
 rw [ints_len]
 have hQ10 := hP7.enter i
 refine loopC (nextN c i).length (fun q us w' => ∃ (ag : Bool) (out' : List Nat), us = [.bool ag, .int .i64 (q : Int)] ∧ q ≤ (nextN c i).length ∧ FW w w' g n out' ∧ OwnI lo hi w' v47 (ints L) ∧ OwnI w9.heap.size w10.heap.size w' v71 (ints (nextN c i)) ∧ FQ c T p h out L k i q ag out' ∧ (ag = false → mm = nat0 out i)) 0 (Nat.zero_le _) ⟨ag7, out7, rfl, Nat.zero_le _, hF10, hO10, hN10, hQ10, hmz⟩ ?_
 rintro q mq u w11 hqm ⟨ag11, out11, hu, hql, hF11, hO11, hN11, hQ11, hz11⟩
 simp only [List.map_cons, List.map_nil, List.cons.injEq, and_true] at hu
 obtain ⟨hu1, hu2⟩ := hu
 rw [hu1, hu2]
 refine rd_lss ?_
 refine br (fun hlt => ?_) (fun hge => ?_)
 case refine_2 =>
   refine rd_inc (by omega) ?_
   exact ⟨mk - 1, by omega, k + 1, by omega, ag11, out11, rfl, by omega, hF11, hO11, hQ11.done hk hix (by omega)⟩
 have hq : q < (nextN c i).length := by omega
 refine rd_indexN u23 ty3 (i := q) hN11.is (by rw [ints_len]; exact hq) fun b5 o5 hA5 => ?_
 rw [ints_get] at hA5
 refine rd_loadI ty3 hA5 (Ext.refl _) fun _ => ?_
 have hx12 := ext_drew w11
 have hF12 := hF11.step hx12
 have hO12 := hO11.ext hx12
 have hN12 := hN11.ext hx12
 generalize World.drew1 w11 = w12 at *
 have hj := nextN_lt hc hin (List.getElem_mem hq)
 have hl11 := hQ11.fl.len
 have hset := hQ11.set (m := mm) hc hpe hiv hq hmb
 have hskip := hQ11.skip (m := mm) hq hz11
 have hj64 := hQ11.fl.lt0 (nextN c i)[q]
 have hjn := hj.1
 rw [hnn] at hjn
 generalize (nextN c i)[q] = j at *
 have hrd : ∀ {w' : World} {K : Value → Prop} (hF : FW w w' g n out11) (k : K (.int .i64 (nat0 out11 j : Int))), RD Tryz.prog (Instr.indexAt 23 (.slice (some ⟨g, 0, none⟩) n n) (.int .i64 (j : Int))) w' fun x37 => RD Tryz.prog (Instr.loadAt 3 x37) w' K := fun hF k => by
   refine rd_indexN u23 ty3 (i := j) hF.mine.is (by rw [ints_len, hl11]; exact hj.1) fun b1 o1 hA1 => ?_
   rw [ints_nat0] at hA1
   exact rd_loadI ty3 hA1 (Ext.refl _) fun _ => k
 refine hrd hF12 ?_
 refine rd_and (by omega) (by omega) ?_
 refine hrd hF12 ?_
 refine rd_neq ?_
 refine br (fun hne => ?_) (fun heq => ?_)
 · have hne' : nat0 out11 j &&& aft c T i mm ≠ nat0 out11 j := fun e => hne (by rw [e])
   refine hrd hF12 ?_
   refine rd_and (by omega) (by omega) ?_
   refine rd_elt (α := Int) rfl u23 ty3 hjn ?_
   have hvl := Nat.and_le_left (n := nat0 out11 j) (m := aft c T i mm)
   refine opu_elt (α := Int) rfl ty3 hF12.mine (by rw [ints_len, hl11, hnn]) hjn (mine_nat (v := nat0 out11 j &&& aft c T i mm) (by omega)) fun w13 hc13 hm13 => ?_
   have hF13 := hF12.set (v := nat0 out11 j &&& aft c T i mm) hc13 hm13
   have hc13' := chg_one hc13
   refine rd_inc (by omega) ?_
   exact ⟨mq - 1, by omega, q + 1, by omega, true, _, rfl, by omega, hF13, hO12.chg hc13' (by omega), hN12.chg hc13' (by omega), hset hne', fun e => by cases e⟩
 · refine rd_inc (by omega) ?_
   exact ⟨mq - 1, by omega, q + 1, by omega, ag11, out11, rfl, by omega, hF12, hO12, hN12, hskip (Int.ofNat_inj.1 (Decidable.not_not.1 heq)), hz11⟩
def F115 (a0 a1 a2 a3 : Value) (w : World) (R : VW) : Prop :=
 OP tp (Instr.box 35 a0) w fun x4 w =>
 RD tp (Instr.fieldAt 35 x4 4) w fun x18 =>
 RD tp (Instr.loadAt 33 x18) w fun x19 =>
 RD tp (ln 33 3 x19) w fun x20 =>
 OP tp (Instr.makeSlice 23 x20 x20) w fun x21 w =>
 LOOPI [10] [(Value.int .i64 0)] w fun u3 w next3 =>
 RD tp (ln 23 3 x21) w fun x24 =>
 RD tp (bin .lss 3 T0 T0 (u3 10) x24) w fun x25 =>
 BR x25
 (RD tp (Instr.indexAt 23 x21 (u3 10)) w fun x30 =>
 OPU tp (Instr.storeAt 3 x30 (Value.int .i64 63)) w fun w =>
 RD tp (bin .add 3 T0 U0 (u3 10) (Value.int .i64 1)) w fun x27 =>
 next3 [x27] w)
 (RD tp (Instr.fieldAt 35 x4 3) w fun x31 =>
 RD tp (Instr.loadAt 23 x31) w fun x32 =>
 RD tp (Instr.indexAt 23 x32 a2) w fun x34 =>
 RD tp (Instr.loadAt 3 x34) w fun x35 =>
 RD tp (Instr.indexAt 23 x21 x35) w fun x39 =>
 OPU tp (Instr.storeAt 3 x39 a3) w fun w =>
 RD tp (Instr.loadAt 35 x4) w fun x40 =>
 CALL tp 185 [x40, a2] w fun x42 w =>
 CALL tp 77 [x42] w fun x43 w =>
 LOOPI [13] [(Value.bool true)] w fun u10 w next10 =>
 BR (u10 13)
 (LOOPI [13, 14] [(Value.bool false), (Value.int .i64 0)] w fun u13 w next13 =>
 RD tp (ln 23 3 x43) w fun x47 =>
 RD tp (bin .lss 3 T0 T0 (u13 14) x47) w fun x48 =>
 BR x48
 ((fun w => RD tp (Instr.loadAt 35 x4) w fun x51 =>
 RD tp (Instr.indexAt 23 x43 (u13 14)) w fun x54 =>
 RD tp (Instr.loadAt 3 x54) w fun x55 =>
 CALL tp 121 [x51, x55] w fun x56 w =>
 LOOPI [13, 16] [(u13 13), (Value.int .i64 0)] w fun u17 w next17 =>
 RD tp (ln 23 3 x56) w fun x59 =>
 RD tp (bin .lss 3 T0 T0 (u17 16) x59) w fun x60 =>
 BR x60
 ((fun w => RD tp (Instr.indexAt 23 x56 (u17 16)) w fun x66 =>
 RD tp (Instr.loadAt 3 x66) w fun x67 =>
 RD tp (Instr.indexAt 23 x21 x67) w fun x68 =>
 RD tp (Instr.loadAt 3 x68) w fun x69 =>
 RD tp (Instr.fieldAt 35 x4 4) w fun x70 =>
 RD tp (Instr.loadAt 33 x70) w fun x71 =>
 RD tp (Instr.indexAt 23 x43 (u13 14)) w fun x74 =>
 RD tp (Instr.loadAt 3 x74) w fun x75 =>
 RD tp (Instr.indexAt 33 x71 x75) w fun x76 =>
 RD tp (Instr.loadAt 136 x76) w fun x77 =>
 RD tp (Instr.indexAt 23 x43 (u13 14)) w fun x82 =>
 RD tp (Instr.loadAt 3 x82) w fun x83 =>
 RD tp (Instr.indexAt 23 x21 x83) w fun x84 =>
 RD tp (Instr.loadAt 3 x84) w fun x85 =>
 (fun w_ => CALL tp 187 [x77, a1, x85] w_ fun x86 w =>
 Ext w_ w ∧
 RD tp (bin .and 3 T0 T0 x69 x86) w fun x87 =>
 RD tp (Instr.indexAt 23 x56 (u17 16)) w fun x92 =>
 RD tp (Instr.loadAt 3 x92) w fun x93 =>
 RD tp (Instr.indexAt 23 x21 x93) w fun x94 =>
 RD tp (Instr.loadAt 3 x94) w fun x95 =>
 RD tp (bin .neq 3 T0 T0 x87 x95) w fun x96 =>
 BR x96
 (RD tp (Instr.indexAt 23 x56 (u17 16)) w fun x100 =>
 RD tp (Instr.loadAt 3 x100) w fun x101 =>
 RD tp (Instr.indexAt 23 x21 x101) w fun x103 =>
 OPU tp (Instr.storeAt 3 x103 x87) w fun w =>
 RD tp (bin .add 3 T0 U0 (u17 16) (Value.int .i64 1)) w fun x62 =>
 next17 [(Value.bool true), x62] w)
 (RD tp (bin .add 3 T0 U0 (u17 16) (Value.int .i64 1)) w fun x62 =>
 next17 [(u17 13), x62] w)) w) (World.drew1 w))
 (RD tp (bin .add 3 T0 U0 (u13 14) (Value.int .i64 1)) w fun x50 =>
 next13 [(u17 13), x50] w)) (World.drew1 w))
 (next10 [(u13 13)] w))
 (R x21 w))
def cfg115 : Cfg := ⟨extL, [], [(3, 2143290368, [10]), (10, 20282409603651670406355065495552, [13]), (13, 20282409603651670388762879451136, [13, 14]), (17, 20282409603651526308759175634944, [13, 16])], [(15, [0, 1, 2, 3, 4, 5, 6], 0), (19, [0, 1, 2, 3, 4, 5, 6, 7, 8, 9, 10, 11, 12, 13, 14, 15, 16, 17, 18, 19, 20, 21, 22, 23, 24, 25], 8388608)], [], [], []⟩
theorem F115_eq (a0 a1 a2 a3 : Value) (w : World) (R : VW) : vcF Tryz.prog cfg115 Tryz.f115 [a0, a1, a2, a3] w R = F115 a0 a1 a2 a3 w R := by kernel_rfl
theorem F115_call {a0 a1 a2 a3 : Value} {w : World} {R : VW} (h : F115 a0 a1 a2 a3 w R) : CALL Tryz.prog 115 [a0, a1, a2, a3] w R :=
 call_of (g := cfg115) ent mixed Tryz.func115 (Nat.le_of_ble_eq_true (by kernel_rfl)) (by kernel_rfl) (F115_eq a0 a1 a2 a3 w R ▸ h)
set_option linter.unusedVariables false
set_option linter.unusedSimpArgs false
open Rep (rep)
theorem l13From_ok {w W0 W1 : World} {p h : Nat} {v0 v1 : Value} {c : DCode} {T : Tab} (h0 : Is W0 v0 c) (e0 : Ext W0 w) (h1 : Is W1 v1 (effs T)) (e1 : Ext W1 w) (hc : CodeR c) (hT : TabR c T) (hp : p < c.procs.length) (hh : h < 64) :
   CALL Tryz.prog 115 [v0, v1, .int .i64 (p : Int), .int .i64 (h : Int)] w fun r w' => Ext w w' ∧ Own w.heap.size w' r (ints (flowN c T p h)) := by
 refine F115_call ?_
 unfold F115
 have hpe : p < c.entry.length := by rw [hc.2.1.1]; exact hp
 have hil := hc.f.ins
 obtain ⟨he1, he2, he3⟩ := eN_eq hc hpe
 have hst := FL.start (T := T) hc hpe hh
 have hfin := fun {out} => FL.fin (c := c) (T := T) (p := p) (h := h) (out := out)
 refine op_box h0 e0 fun w1 hx1 hA => ?_
 have hs1 := hx1.size
 refine rd_fld fd35_4 ?_
 refine rd_load ty33 (at_DCode_4 hA) (Ext.refl _) fun v22 h22 => ?_
 refine rd_len u33 h22 ?_
 have hn : c.ins.length = c.ins.length := rfl
 generalize hnn : c.ins.length = n at hn
 rw [hnn] at he2 hst hil
 refine op_makeI (by omega) (by omega) fun w2 hx2 hM2 => ?_
 have hs2 := hx2.size
 generalize hg : w1.heap.size = g at *
 have hF2 : FW w1 w2 g n (fil n 0) := ⟨hx2, by simpa [fil] using hM2, by omega⟩
 refine loopC n (fun k us w' => us = [.int .i64 (k : Int)] ∧ k ≤ n ∧ FW w1 w' g n (fil n k)) 0 (Nat.zero_le _) ⟨rfl, Nat.zero_le _, hF2⟩ ?_
 rintro k mk u w3 hkm ⟨hu, hkl, hF3⟩
 simp only [List.map_cons, List.map_nil, List.cons.injEq, and_true] at hu
 rw [hu]
 refine rd_lenX u23 ?_
 refine rd_lss ?_
 refine br (fun hlt => ?_) (fun hge => ?_)
 · have hk : k < n := by omega
   refine rd_elt (α := Int) rfl u23 ty3 hk ?_
   refine opu_elt (α := Int) rfl ty3 hF3.mine (by rw [ints_len, fil_len hkl]) hk (mine_nat (v := 63) (by omega)) fun w4 hc4 hm4 => ?_
   have hF4 := hF3.set (v := 63) hc4 hm4
   rw [fil_set hk] at hF4
   refine rd_inc (by omega) ?_
   exact ⟨mk - 1, by omega, k + 1, by omega, rfl, by omega, hF4⟩
 have hk : k = n := by omega
 rw [hk, fil_full] at hF3
 clear hF2 hM2 hu hkm
 refine rd_fld fd35_3 ?_
 refine rd_load ty23 (at_DCode_3 hA) hF3.ext fun v39 h39 => ?_
 refine rd_indexN u23 ty3 h39 hpe fun b1 o1 hA1 => ?_
 rw [en_get hpe, he1] at hA1
 refine rd_loadI ty3 hA1 hF3.ext fun _ => ?_
 refine rd_elt (α := Int) rfl u23 ty3 he2 ?_
 refine opu_elt (α := Int) rfl ty3 hF3.mine (by rw [ints_len]; simp) he2 (mine_nat (v := h) (by omega)) fun w4 hc4 hm4 => ?_
 have hF4 := hF3.set (v := h) hc4 hm4
 refine rd_load ty35 hA hF4.ext fun v40 h40 => ?_
 refine (l09Live_ok h40 hF4.ext hc hpe).mono ?_
 rintro v42 w5 ⟨hx5, ho5⟩
 have hF5 := hF4.step hx5
 refine (l09Marked_ok ho5.is (Ext.refl _) (by rw [setB_len, hnn]; omega)).mono ?_
 rintro v43 w5b ⟨hx5b, ho5b⟩
 rw [setB_len, idxM_setB] at ho5b
 have hF5 := hF5.step hx5b
 have hg4 := hF4.lt
 have hg5 : g < w5.heap.size := by have := hx5.size; omega
 have hL : ∀ i ∈ setL c.ins.length (LiveP c p), LiveP c p i := fun i hi => (mem_setL.1 hi).2
 have hL2 : ∀ i, LiveP c p i → i ∈ setL c.ins.length (LiveP c p) := fun i hi => mem_setL.2 ⟨(live_lt hc hpe hi).1, hi⟩
 have hLl : (setL c.ins.length (LiveP c p)).length ≤ 1500 := Nat.le_trans setL_len (by rw [hnn]; omega)
 generalize setL c.ins.length (LiveP c p) = L at *
 generalize (List.replicate n 63).set (eN c p) h = out at hst hF5
 have hO5 := ho5b.toI
 generalize hlo : w5.heap.size = lo at *
 generalize hhi : w5b.heap.size = hi at *
 refine LOOPI.mk (fun m us w' => ∃ (ag : Bool) (out : List Nat), us = [.bool ag] ∧ m = out.sum + (if ag then 1 else 0) ∧ FW w1 w' g n out ∧ OwnI lo hi w' v43 (ints L) ∧ FL c T p h out ∧ (ag = false → ∀ i, LiveP c p i → Shut c T out i)) (out.sum + 1) ⟨true, out, rfl, rfl, hF5, hO5, hst, fun e => by cases e⟩ ?_
 rintro m u w6 ⟨ag, out, hu, hm, hF6, hO6, hfl, hsh⟩
 simp only [List.map_cons, List.map_nil, List.cons.injEq, and_true] at hu
 rw [hu]
 refine br_b (fun hag => ?_) (fun hag => ?_)
 case refine_2 =>
   have := hfin hfl hc hpe (hsh hag)
   rw [← this]
   exact ⟨hx1.trans hF6.ext, hF6.own.mono (by omega)⟩
 rw [hag, if_pos rfl] at hm
 refine loopC L.length (fun k us w' => ∃ (ag : Bool) (out' : List Nat), us = [.bool ag, .int .i64 (k : Int)] ∧ k ≤ L.length ∧ FW w1 w' g n out' ∧ OwnI lo hi w' v43 (ints L) ∧ FP c T p h out L k ag out') 0 (Nat.zero_le _) ⟨false, out, rfl, Nat.zero_le _, hF6, hO6, hfl, fun e => (by cases e), fun _ => ⟨rfl, by simp⟩⟩ ?_
 rintro k mk u w7 hkm ⟨ag7, out7, hu, hkl, hF7, hO7, hP7⟩
 simp only [List.map_cons, List.map_nil, List.cons.injEq, and_true] at hu
 obtain ⟨hu1, hu2⟩ := hu
 rw [hu1, hu2]
 refine rd_len u23 hO7.is ?_
 rw [ints_len]
 refine rd_lss ?_
 refine br (fun hlt => ?_) (fun hge => ?_)
 case refine_2 =>
   refine ⟨out7.sum + (if ag7 then 1 else 0), ?_, ag7, out7, rfl, rfl, hF7, hO7, hP7.fl, fun e i hi => ?_⟩
   · cases ag7 with
     | true => have := hP7.yes rfl; simp; omega
     | false => rw [(hP7.no rfl).1]; simp; omega
   · have := hP7.no e
     rw [this.1]
     exact this.2 i (by rw [List.take_of_length_le (by omega)]; exact hL2 i hi)
 have hk : k < L.length := by omega
 have hx8 := ext_drew w7
 have hF8 := hF7.step hx8
 have hO8 := hO7.ext hx8
 generalize World.drew1 w7 = w8 at *
 refine rd_load ty35 hA hF8.ext fun v51 h51 => ?_
 refine rd_indexN u23 ty3 (i := k) hO8.is (by rw [ints_len]; exact hk) fun b2 o2 hA2 => ?_
 rw [ints_get] at hA2
 refine rd_loadI ty3 hA2 (Ext.refl _) fun _ => ?_
 have hrL : ∀ {w' : World} {K : Value → Prop} (hO : OwnI lo hi w' v43 (ints L)) (kk : K (.int .i64 ((L[k] : Nat) : Int))), RD Tryz.prog (Instr.indexAt 23 v43 (.int .i64 (k : Int))) w' fun x37 => RD Tryz.prog (Instr.loadAt 3 x37) w' K := fun hO kk => by
   refine rd_indexN u23 ty3 (i := k) hO.is (by rw [ints_len]; exact hk) fun b1 o1 hA1 => ?_
   rw [ints_get] at hA1
   exact rd_loadI ty3 hA1 (Ext.refl _) fun _ => kk
 generalize hix : L[k] = i at *
 have hiv : LiveP c p i := hL i (by rw [← hix]; exact List.getElem_mem hk)
 have hin := (live_lt hc hpe hiv).1
 refine (l09Next_ok h51 hF8.ext hc hin).mono ?_
 rintro v56 w10 ⟨hx10, ho10⟩
 have hF10 := hF8.step hx10
 have hO10 := hO8.ext hx10
 have hg8 := hF8.lt
 have hN10 := ho10.toI
 have hl2 := nextN_len c i
 have hQ10 := hP7.enter i
 refine loopC (nextN c i).length (fun q us w' => ∃ (ag : Bool) (out' : List Nat), us = [.bool ag, .int .i64 (q : Int)] ∧ q ≤ (nextN c i).length ∧ FW w1 w' g n out' ∧ OwnI lo hi w' v43 (ints L) ∧ OwnI w8.heap.size w10.heap.size w' v56 (ints (nextN c i)) ∧ FQ c T p h out L k i q ag out') 0 (Nat.zero_le _) ⟨ag7, out7, rfl, Nat.zero_le _, hF10, hO10, hN10, hQ10⟩ ?_
 rintro q mq u w11 hqm ⟨ag11, out11, hu, hql, hF11, hO11, hN11, hQ11⟩
 simp only [List.map_cons, List.map_nil, List.cons.injEq, and_true] at hu
 obtain ⟨hu1, hu2⟩ := hu
 rw [hu1, hu2]
 refine rd_len u23 hN11.is ?_
 rw [ints_len]
 refine rd_lss ?_
 refine br (fun hlt => ?_) (fun hge => ?_)
 case refine_2 =>
   refine rd_inc (by omega) ?_
   exact ⟨mk - 1, by omega, k + 1, by omega, ag11, out11, rfl, by omega, hF11, hO11, hQ11.done hk hix (by omega)⟩
 have hq : q < (nextN c i).length := by omega
 have hx12 := ext_drew w11
 have hF12 := hF11.step hx12
 have hO12 := hO11.ext hx12
 have hN12 := hN11.ext hx12
 generalize World.drew1 w11 = w12 at *
 have hj := nextN_lt hc hin (List.getElem_mem hq)
 have hl11 := hQ11.fl.len
 have hm64 := hQ11.fl.lt0 i
 have hmb : ∀ l, l < 6 → (nat0 out11 i).testBit l = false → LostP c (tK T) (tG T) p (fun l => h.testBit l = true) i l := fun l hl hb => hQ11.fl.snd i l hin hl hb
 have hset := hQ11.set (m := nat0 out11 i) hc hpe hiv hq hmb
 have hskip := hQ11.skip (m := nat0 out11 i) hq (fun e => by rw [(hQ11.no e).1])
 have hj64 := hQ11.fl.lt0 (nextN c i)[q]
 have hjn := hj.1
 rw [hnn] at hjn
 have hrN : ∀ {w' : World} {K : Value → Prop} (hO : OwnI w8.heap.size w10.heap.size w' v56 (ints (nextN c i))) (kk : K (.int .i64 (((nextN c i)[q] : Nat) : Int))), RD Tryz.prog (Instr.indexAt 23 v56 (.int .i64 (q : Int))) w' fun x37 => RD Tryz.prog (Instr.loadAt 3 x37) w' K := fun hO kk => by
   refine rd_indexN u23 ty3 (i := q) hO.is (by rw [ints_len]; exact hq) fun b1 o1 hA1 => ?_
   rw [ints_get] at hA1
   exact rd_loadI ty3 hA1 (Ext.refl _) fun _ => kk
 generalize (nextN c i)[q] = j at *
 have hrd : ∀ {w' : World} {K : Value → Prop} {i : Nat} (hF : FW w1 w' g n out11) (hi : i < c.ins.length) (k : K (.int .i64 (nat0 out11 i : Int))), RD Tryz.prog (Instr.indexAt 23 (.slice (some ⟨g, 0, none⟩) n n) (.int .i64 (i : Int))) w' fun x37 => RD Tryz.prog (Instr.loadAt 3 x37) w' K := fun {w' K i} hF hi k => by
   refine rd_indexN u23 ty3 (i := i) hF.mine.is (by rw [ints_len, hl11]; exact hi) fun b1 o1 hA1 => ?_
   rw [ints_nat0] at hA1
   exact rd_loadI ty3 hA1 (Ext.refl _) fun _ => k
 refine hrN hN12 ?_
 refine hrd hF12 hj.1 ?_
 refine rd_fld fd35_4 ?_
 refine rd_load ty33 (at_DCode_4 hA) hF12.ext fun v71 h71 => ?_
 refine hrL hO12 ?_
 refine rd_indexN u33 ty136 h71 hin fun b3 o3 hA3 => ?_
 rw [insAt_get] at hA3
 refine rd_load ty136 hA3 hF12.ext fun v77 h77 => ?_
 refine hrL hO12 ?_
 refine hrd hF12 hin ?_
 refine (l13Moved_ok h77 hF12.ext h1 (e1.trans (hx1.trans hF12.ext)) hc hT hin hm64).mono ?_
 rintro _ w13 ⟨hx13, rfl⟩
 refine ⟨hx13, ?_⟩
 have hF13 := hF12.step hx13
 have hO13 := hO12.ext hx13
 have hN13 := hN12.ext hx13
 have haf := aft_lt hc hT hin hm64
 have hvl := Nat.and_le_left (n := nat0 out11 j) (m := aft c T i (nat0 out11 i))
 refine rd_and (m := nat0 out11 j) (n := aft c T i (nat0 out11 i)) (by omega) (by omega) ?_
 refine hrN hN13 ?_
 refine hrd hF13 hj.1 ?_
 refine rd_neq ?_
 refine br (fun hne => ?_) (fun heq => ?_)
 · have hne' : nat0 out11 j &&& aft c T i (nat0 out11 i) ≠ nat0 out11 j := fun e => hne (by rw [e])
   refine hrN hN13 ?_
   refine rd_elt (α := Int) rfl u23 ty3 hjn ?_
   refine opu_elt (α := Int) rfl ty3 hF13.mine (by rw [ints_len, hl11, hnn]) hjn (mine_nat (v := nat0 out11 j &&& aft c T i (nat0 out11 i)) (by omega)) fun w14 hc14 hm14 => ?_
   have hF14 := hF13.set (v := nat0 out11 j &&& aft c T i (nat0 out11 i)) hc14 hm14
   have hc14' := chg_one hc14
   refine rd_inc (by omega) ?_
   exact ⟨mq - 1, by omega, q + 1, by omega, true, _, rfl, by omega, hF14, hO13.chg hc14' (by omega), hN13.chg hc14' (by omega), hset hne'⟩
 · refine rd_inc (by omega) ?_
   exact ⟨mq - 1, by omega, q + 1, by omega, ag11, out11, rfl, by omega, hF13, hO13, hN13, hskip (Int.ofNat_inj.1 (Decidable.not_not.1 heq))⟩
def F243 (a0 a1 : Value) (w : World) (R : VW) : Prop :=
 NIL a0 <|
 RD tp (Instr.fieldAt 144 a0 4) w fun x12 =>
 RD tp (Instr.loadAt 23 x12) w fun x13 =>
 RD tp (Instr.indexAt 23 x13 a1) w fun x15 =>
 RD tp (Instr.loadAt 3 x15) w fun x16 =>
 CALL tp 97 [x16] w fun x17 w =>
 RD tp (ln 23 3 x17) w fun x18 =>
 LOOPI [5, 19] [(Value.int .i64 63), (Value.int .i64 0)] w fun u3 w next3 =>
 RD tp (bin .lss 3 T0 T0 (u3 19) x18) w fun x20 =>
 BR x20
 (RD tp (Instr.indexAt 23 x17 (u3 19)) w fun x21 =>
 RD tp (Instr.loadAt 3 x21) w fun x22 =>
 CALL tp 194 [a0, x22] w fun x25 w =>
 RD tp (ln 23 3 x25) w fun x26 =>
 LOOPI [5, 27] [(u3 5), (Value.int .i64 0)] w fun u6 w next6 =>
 RD tp (bin .lss 3 T0 T0 (u6 27) x26) w fun x28 =>
 BR x28
 (RD tp (Instr.indexAt 23 x25 (u6 27)) w fun x29 =>
 RD tp (Instr.loadAt 3 x29) w fun x30 =>
 NIL a0 <|
 RD tp (Instr.fieldAt 144 a0 0) w fun x33 =>
 RD tp (Instr.fieldAt 35 x33 4) w fun x34 =>
 RD tp (Instr.loadAt 33 x34) w fun x35 =>
 RD tp (Instr.indexAt 33 x35 x30) w fun x37 =>
 RD tp (Instr.fieldAt 136 x37 0) w fun x38 =>
 RD tp (Instr.loadAt 3 x38) w fun x39 =>
 RD tp (bin .eql 3 T0 U0 x39 (Value.int .i64 7)) w fun x40 =>
 BR x40
 (NIL a0 <|
 RD tp (Instr.fieldAt 144 a0 0) w fun x44 =>
 RD tp (Instr.fieldAt 35 x44 4) w fun x45 =>
 RD tp (Instr.loadAt 33 x45) w fun x46 =>
 RD tp (Instr.indexAt 33 x46 x30) w fun x48 =>
 RD tp (Instr.fieldAt 136 x48 1) w fun x49 =>
 RD tp (Instr.loadAt 3 x49) w fun x50 =>
 RD tp (convert 3 77 x50) w fun x51 =>
 RD tp (bin .shl 3 U0 T0 (Value.int .i64 1) x51) w fun x52 =>
 RD tp (bin .andNot 3 T0 T0 (u6 5) x52) w fun x53 =>
 RD tp (bin .add 3 T0 U0 (u6 27) (Value.int .i64 1)) w fun x54 =>
 next6 [x53, x54] w)
 (RD tp (bin .add 3 T0 U0 (u6 27) (Value.int .i64 1)) w fun x54 =>
 next6 [(u6 5), x54] w))
 (RD tp (bin .add 3 T0 U0 (u3 19) (Value.int .i64 1)) w fun x55 =>
 next3 [(u6 5), x55] w))
 (R (u3 5) w)
def cfg243 : Cfg := ⟨extL, [], [(3, 72057594037404320, [5, 19]), (6, 36028796884746784, [5, 27])], [], [], [], []⟩
theorem F243_eq (a0 a1 : Value) (w : World) (R : VW) : vcF Tryz.prog cfg243 Tryz.f243 [a0, a1] w R = F243 a0 a1 w R := by kernel_rfl
theorem F243_call {a0 a1 : Value} {w : World} {R : VW} (h : F243 a0 a1 w R) : CALL Tryz.prog 243 [a0, a1] w R :=
 call_of (g := cfg243) ent mixed Tryz.func243 (Nat.le_of_ble_eq_true (by kernel_rfl)) (by kernel_rfl) (F243_eq a0 a1 w R ▸ h)
def F234 (a0 a1 : Value) (w : World) (R : VW) : Prop :=
 OP tp (Instr.box 35 a0) w fun x2 w =>
 RD tp (Instr.loadAt 35 x2) w fun x10 =>
 CALL tp 186 [x10, a1] w fun x12 w =>
 LOOPI [6, 7] [(Value.int .i64 63), (Value.int .i64 0)] w fun u4 w next4 =>
 RD tp (Instr.fieldAt 35 x2 2) w fun x14 =>
 RD tp (Instr.loadAt 22 x14) w fun x15 =>
 RD tp (ln 22 3 x15) w fun x16 =>
 RD tp (bin .lss 3 T0 T0 (u4 7) x16) w fun x17 =>
 BR x17
 (RD tp (Instr.indexAt 72 x12 (u4 7)) w fun x22 =>
 RD tp (Instr.loadAt 4 x22) w fun x23 =>
 RD tp (Op.unary .not x23) w fun x24 =>
 BR x24
 (RD tp (bin .add 3 T0 U0 (u4 7) (Value.int .i64 1)) w fun x19 =>
 next4 [(u4 6), x19] w)
 (RD tp (Instr.loadAt 35 x2) w fun x25 =>
 CALL tp 185 [x25, (u4 7)] w fun x27 w =>
 LOOPI [6, 9] [(u4 6), (Value.int .i64 0)] w fun u9 w next9 =>
 RD tp (Instr.fieldAt 35 x2 4) w fun x29 =>
 RD tp (Instr.loadAt 33 x29) w fun x30 =>
 RD tp (ln 33 3 x30) w fun x31 =>
 RD tp (bin .lss 3 T0 T0 (u9 9) x31) w fun x32 =>
 BR x32
 (RD tp (Instr.indexAt 72 x27 (u9 9)) w fun x37 =>
 RD tp (Instr.loadAt 4 x37) w fun x38 =>
 BR x38
 (RD tp (Instr.fieldAt 35 x2 4) w fun x40 =>
 RD tp (Instr.loadAt 33 x40) w fun x41 =>
 RD tp (Instr.indexAt 33 x41 (u9 9)) w fun x43 =>
 RD tp (Instr.fieldAt 136 x43 0) w fun x44 =>
 RD tp (Instr.loadAt 3 x44) w fun x45 =>
 RD tp (bin .eql 3 T0 U0 x45 (Value.int .i64 7)) w fun x46 =>
 BR x46
 (RD tp (Instr.fieldAt 35 x2 4) w fun x49 =>
 RD tp (Instr.loadAt 33 x49) w fun x50 =>
 RD tp (Instr.indexAt 33 x50 (u9 9)) w fun x52 =>
 RD tp (Instr.fieldAt 136 x52 1) w fun x53 =>
 RD tp (Instr.loadAt 3 x53) w fun x54 =>
 CALL tp 119 [x54] w fun x55 w =>
 CALL tp 120 [(u9 6), x55] w fun x56 w =>
 RD tp (bin .add 3 T0 U0 (u9 9) (Value.int .i64 1)) w fun x34 =>
 next9 [x56, x34] w)
 (RD tp (bin .add 3 T0 U0 (u9 9) (Value.int .i64 1)) w fun x34 =>
 next9 [(u9 6), x34] w))
 (RD tp (bin .add 3 T0 U0 (u9 9) (Value.int .i64 1)) w fun x34 =>
 next9 [(u9 6), x34] w))
 (RD tp (bin .add 3 T0 U0 (u4 7) (Value.int .i64 1)) w fun x19 =>
 next4 [(u9 6), x19] w)))
 (R (u4 6) w)
def cfg234 : Cfg := ⟨extL, [], [(4, 144115188075848640, [6, 7]), (9, 144115187807420992, [6, 9])], [], [], [], []⟩
theorem F234_eq (a0 a1 : Value) (w : World) (R : VW) : vcF Tryz.prog cfg234 Tryz.f234 [a0, a1] w R = F234 a0 a1 w R := by kernel_rfl
theorem F234_call {a0 a1 : Value} {w : World} {R : VW} (h : F234 a0 a1 w R) : CALL Tryz.prog 234 [a0, a1] w R :=
 call_of (g := cfg234) ent mixed Tryz.func234 (Nat.le_of_ble_eq_true (by kernel_rfl)) (by kernel_rfl) (F234_eq a0 a1 w R ▸ h)
set_option linter.unusedVariables false
set_option linter.unusedSimpArgs false
open Rep (rep)
theorem bitsTo_setN {p : Nat → Prop} {n : Nat} : ∀ {k : Nat}, k ≤ n → bitsTo (setN p n) k = ints (setL k p)
 | 0, _ => rfl
 | k + 1, h => by
   rw [bitsTo, bitsTo_setN (k := k) (by omega)]
   by_cases hp : p k
   · rw [if_pos (setN_bit.2 ⟨by omega, hp⟩), setL_yes hp, ints_append]; rfl
   · rw [if_neg fun e => hp (setN_bit.1 e).2, setL_no hp]
theorem bitsL_setN {p : Nat → Prop} {n : Nat} (h : n ≤ 62) : bitsL (setN p n) = ints (setL n p) := by
 rw [bitsL_eq (k := n) setN_lt (by omega), bitsTo_setN (Nat.le_refl _)]
theorem setN_small {p : Nat → Prop} {n : Nat} (h : n ≤ 8) : setN p n < 256 := Nat.lt_of_lt_of_le setN_lt (Nat.pow_le_pow_right (n := 2) (by omega) h)
noncomputable def cls (c : DCode) (op : Int) : List Nat := (List.range c.procs.length).map fun p => setN (OpsP c p op) c.procs.length
noncomputable def frs (c : DCode) : List Nat := (List.range c.procs.length).map fun p => setN (FromP c p) c.procs.length
theorem cls_len (c : DCode) (op : Int) : (cls c op).length = c.procs.length := by simp [cls]
theorem frs_len (c : DCode) : (frs c).length = c.procs.length := by simp [frs]
theorem cls_at {c : DCode} {op : Int} {p : Nat} (hp : p < c.procs.length) : nat0 (cls c op) p = setN (OpsP c p op) c.procs.length := by rw [← nat0_get (by rw [cls_len]; exact hp)]; simp [cls]
theorem frs_at {c : DCode} {p : Nat} (hp : p < c.procs.length) : nat0 (frs c) p = setN (FromP c p) c.procs.length := by rw [← nat0_get (by rw [frs_len]; exact hp)]; simp [frs]
noncomputable def rootsN (c : DCode) : Nat := setN (RootP c) c.procs.length
noncomputable def usedN (c : DCode) : Nat := setN (UsedP c) c.procs.length
structure WAt (W0 : World) (b : Nat) (c : DCode) : Prop where
 wl : WL W0 b c
 calls : At W0 b (0 + 6) (ints (cls c 4))
 spawns : At W0 b (0 + 7) (ints (cls c 5))
 frm : At W0 b (0 + 8) (ints (frs c))
 roots : At W0 b (0 + 9) (rootsN c : Int)
 used : At W0 b (0 + 10) (usedN c : Int)
def KI (m : Nat) (P : Nat → Prop) : Prop := m < 64 ∧ ∀ l, l < 6 → (m.testBit l = false ↔ P l)
theorem KI.start {P : Nat → Prop} (h : ∀ l, ¬ P l) : KI 63 P := ⟨by omega, fun l hl => by rw [full_bit hl]; exact ⟨fun e => (by cases e), fun e => absurd e (h l)⟩⟩
theorem KI.drop {m a : Nat} {P P' : Nat → Prop} (h : KI m P) (hP : ∀ l, P' l ↔ P l ∨ a = l) : KI (andN m (2 ^ a)) P' := by
 refine ⟨Nat.lt_of_le_of_lt (andN_le _ _) h.1, fun l hl => ?_⟩
 rw [andN_bit, Nat.testBit_two_pow, hP, ← h.2 l hl]
 simp only [Bool.and_eq_false_iff, Bool.not_eq_false', decide_eq_true_eq]
theorem KI.congr {m : Nat} {P P' : Nat → Prop} (h : KI m P) (hP : ∀ l, P' l ↔ P l) : KI m P' := ⟨h.1, fun l hl => by rw [h.2 l hl, hP]⟩
theorem KI.eq {m : Nat} {P : Nat → Prop} (h : KI m P) : m = m6 fun l => ¬ P l := eq_m6 h.1 fun l hl => by rw [← h.2 l hl]; simp
theorem mem_take_iff {α : Type} {l : List α} {k : Nat} (hk : k < l.length) {x : α} : x ∈ l.take (k + 1) ↔ x ∈ l.take k ∨ x = l[k] := by
 rw [List.take_succ_eq_append_getElem hk, List.mem_append]; simp
def GivesP (c : DCode) (q l : Nat) : Prop := ∃ i, LiveP c q i ∧ (insAt c i).op = 7 ∧ agN c i = l
theorem keepIn_ok {w W0 : World} {b p : Nat} {c : DCode} (hW : WAt W0 b c) (e0 : Ext W0 w) (hc : CodeR c) (hp : p < c.procs.length) :
   CALL Tryz.prog 243 [.pointer (some ⟨b, 0, none⟩), .int .i64 (p : Int)] w fun r w' => Ext w w' ∧ r = .int .i64 (keepN c p : Nat) := by
 refine F243_call ?_
 unfold F243
 have h8 := hc.1.procs8
 have hil := hc.f.ins
 refine NIL.mk rfl ?_
 refine rd_fld fd144_4 ?_
 refine rd_load ty23 hW.frm e0 fun v13 h13 => ?_
 refine rd_indexN u23 ty3 h13 (by rw [ints_len, frs_len]; exact hp) fun b1 o1 hA1 => ?_
 rw [ints_nat0, frs_at hp] at hA1
 refine rd_loadI ty3 hA1 e0 fun _ => ?_
 have hsm := setN_small (p := FromP c p) h8.1
 refine (bitsOf_ok (m := setN (FromP c p) c.procs.length) (by omega)).mono ?_
 rintro v17 w1 ⟨hx1, ho1⟩
 rw [bitsL_setN (by omega)] at ho1
 have hL : ∀ q, q ∈ setL c.procs.length (FromP c p) ↔ q < c.procs.length ∧ FromP c p q := fun q => mem_setL
 have hLl := setL_len (n := c.procs.length) (p := FromP c p)
 generalize setL c.procs.length (FromP c p) = L at *
 refine rd_len u23 ho1.is ?_
 rw [ints_len]
 refine loopC L.length (fun k us w' => ∃ m : Nat, us = [.int .i64 (m : Int), .int .i64 (k : Int)] ∧ k ≤ L.length ∧ Ext w1 w' ∧ KI m (fun l => ∃ q ∈ L.take k, GivesP c q l)) 0 (Nat.zero_le _) ⟨63, rfl, Nat.zero_le _, Ext.refl _, KI.start (by simp)⟩ ?_
 rintro k mk u w2 hkm ⟨m, hu, hkl, hx2, hK⟩
 simp only [List.map_cons, List.map_nil, List.cons.injEq, and_true] at hu
 obtain ⟨hu1, hu2⟩ := hu
 rw [hu1, hu2]
 refine rd_lss ?_
 refine br (fun hlt => ?_) (fun hge => ?_)
 case refine_2 =>
   rw [show L.take k = L from List.take_of_length_le (by omega)] at hK
   refine ⟨hx1.trans hx2, ?_⟩
   have : m = keepN c p := by
     rw [hK.eq]
     refine m6_congr fun l hl => not_congr ?_
     constructor
     · rintro ⟨q, hq, i, h1, h2, h3⟩
       exact ⟨q, i, ((hL q).1 hq).1, ((hL q).1 hq).2, h1, h2, h3⟩
     · rintro ⟨q, i, h0, hf, h1, h2, h3⟩
       exact ⟨q, (hL q).2 ⟨h0, hf⟩, i, h1, h2, h3⟩
   rw [this]
 have hk : k < L.length := by omega
 refine rd_indexN u23 ty3 (i := k) (ho1.is) (by rw [ints_len]; exact hk) fun b2 o2 hA2 => ?_
 rw [ints_get] at hA2
 refine rd_loadI ty3 hA2 hx2 fun _ => ?_
 have hq := (hL L[k]).1 (List.getElem_mem hk)
 have htk := fun x => mem_take_iff hk (x := x)
 generalize L[k] = q at *
 have hx02 := (e0.trans hx1).trans hx2
 refine (liveOf_ok hW.wl hx02 hc hq.1).mono ?_
 rintro v25 w3 ⟨hx3, ho3⟩
 have hM : ∀ i, i ∈ setL c.ins.length (LiveP c q) ↔ i < c.ins.length ∧ LiveP c q i := fun i => mem_setL
 have hMl := setL_len (n := c.ins.length) (p := LiveP c q)
 generalize setL c.ins.length (LiveP c q) = M at *
 refine rd_len u23 ho3.is ?_
 rw [ints_len]
 refine loopC M.length (fun j us w' => ∃ m : Nat, us = [.int .i64 (m : Int), .int .i64 (j : Int)] ∧ j ≤ M.length ∧ Ext w3 w' ∧ KI m (fun l => (∃ q ∈ L.take k, GivesP c q l) ∨ ∃ i ∈ M.take j, (insAt c i).op = 7 ∧ agN c i = l)) 0 (Nat.zero_le _) ⟨m, rfl, Nat.zero_le _, Ext.refl _, hK.congr fun l => by simp⟩ ?_
 rintro j mj u w4 hjm ⟨m4, hu, hjl, hx4, hK4⟩
 simp only [List.map_cons, List.map_nil, List.cons.injEq, and_true] at hu
 obtain ⟨hu1, hu2⟩ := hu
 rw [hu1, hu2]
 refine rd_lss ?_
 refine br (fun hlt => ?_) (fun hge => ?_)
 case refine_2 =>
   rw [show M.take j = M from List.take_of_length_le (by omega)] at hK4
   refine rd_inc (by omega) ?_
   refine ⟨mk - 1, by omega, k + 1, by omega, m4, rfl, by omega, hx2.trans (hx3.trans hx4), hK4.congr fun l => ?_⟩
   constructor
   · rintro ⟨r, hr, h1⟩
     rcases (htk r).1 hr with hr | rfl
     · exact .inl ⟨r, hr, h1⟩
     · obtain ⟨i, h1, h2, h3⟩ := h1
       exact .inr ⟨i, (hM i).2 ⟨(live_lt hc (by rw [hc.2.1.1]; exact hq.1) h1).1, h1⟩, h2, h3⟩
   · rintro (⟨r, hr, h1⟩ | ⟨i, hi, h2, h3⟩)
     · exact ⟨r, (htk r).2 (.inl hr), h1⟩
     · exact ⟨q, (htk q).2 (.inr rfl), i, ((hM i).1 hi).2, h2, h3⟩
 have hj : j < M.length := by omega
 refine rd_indexN u23 ty3 (i := j) (ho3.is) (by rw [ints_len]; exact hj) fun b3 o3 hA3 => ?_
 rw [ints_get] at hA3
 refine rd_loadI ty3 hA3 hx4 fun _ => ?_
 have hi := (hM M[j]).1 (List.getElem_mem hj)
 have htj := fun x => mem_take_iff hj (x := x)
 generalize M[j] = i at *
 have hx04 := hx02.trans (hx3.trans hx4)
 refine NIL.mk rfl ?_
 refine rd_fld fd144_0 ?_
 refine rd_fld fd35_4 ?_
 refine rd_load ty33 (at_DCode_4 hW.wl.code) hx04 fun v35 h35 => ?_
 refine rd_indexN u33 ty136 h35 hi.1 fun b4 o4 hA4 => ?_
 rw [insAt_get] at hA4
 refine rd_fld fd136_0 ?_
 refine rd_loadI ty3 (at_DIns_0 hA4) hx04 fun _ => ?_
 refine rd_eql ?_
 refine br (fun c7 => ?_) (fun c7 => ?_)
 · obtain ⟨ha, _, hq6⟩ := ag_lock hc hi.1 (.inr c7)
   have hpw := pow_lt6 hq6
   refine NIL.mk rfl ?_
   refine rd_fld fd144_0 ?_
   refine rd_fld fd35_4 ?_
   refine rd_load ty33 (at_DCode_4 hW.wl.code) hx04 fun v46 h46 => ?_
   refine rd_indexN u33 ty136 h46 hi.1 fun b5 o5 hA5 => ?_
   rw [insAt_get] at hA5
   refine rd_fld fd136_1 ?_
   refine rd_loadI ty3 (at_DIns_1 hA5) hx04 fun _ => ?_
   rw [ha]
   refine rd_uint (by kernel_rfl) u77 (by omega) ?_
   refine rd_shl1 (by omega) ?_
   have h64 := hK4.1
   refine rd_andNot (m := m4) (n := 2 ^ agN c i) (by omega) (by omega) ?_
   refine rd_inc (by omega) ?_
   refine ⟨mj - 1, by omega, j + 1, by omega, _, rfl, by omega, hx4, hK4.drop fun l => ?_⟩
   constructor
   · rintro (h | ⟨r, hr, h1, h2⟩)
     · exact .inl (.inl h)
     · rcases (htj r).1 hr with hr | rfl
       · exact .inl (.inr ⟨r, hr, h1, h2⟩)
       · exact .inr h2
   · rintro ((h | ⟨r, hr, h1⟩) | h)
     · exact .inl h
     · exact .inr ⟨r, (htj r).2 (.inl hr), h1⟩
     · exact .inr ⟨i, (htj i).2 (.inr rfl), c7, h⟩
 · refine rd_inc (by omega) ?_
   refine ⟨mj - 1, by omega, j + 1, by omega, _, rfl, by omega, hx4, hK4.congr fun l => ?_⟩
   constructor
   · rintro (h | ⟨r, hr, h1, h2⟩)
     · exact .inl h
     · rcases (htj r).1 hr with hr | rfl
       · exact .inr ⟨r, hr, h1, h2⟩
       · exact absurd h1 c7
   · rintro (h | ⟨r, hr, h1⟩)
     · exact .inl h
     · exact .inr ⟨r, (htj r).2 (.inl hr), h1⟩
theorem l13Keep_ok {w W0 : World} {v0 : Value} {p : Nat} {c : DCode} (h0 : Is W0 v0 c) (e0 : Ext W0 w) (hc : CodeR c) (hp : p < c.procs.length) :
   CALL Tryz.prog 234 [v0, .int .i64 (p : Int)] w fun r w' => Ext w w' ∧ r = .int .i64 (keepN c p : Nat) := by
 refine F234_call ?_
 unfold F234
 have h8 := hc.1.procs8
 have hil := hc.f.ins
 refine op_box h0 e0 fun w0 hx0 hA => ?_
 refine rd_load ty35 hA (Ext.refl _) fun v10 h10 => ?_
 refine (l10FromM_ok h10 (Ext.refl _) hc hp).mono ?_
 rintro _ w1 ⟨hx1, g, rfl, hg, hM1⟩
 have hFr : (fun i => i = p ∨ RP (callN c) p i) = FromP c p := rfl
 rw [hFr] at hM1
 refine loopC c.procs.length (fun k us w' => ∃ m : Nat, us = [.int .i64 (m : Int), .int .i64 (k : Int)] ∧ k ≤ c.procs.length ∧ Ext w1 w' ∧ KI m (fun l => ∃ q, q < k ∧ FromP c p q ∧ GivesP c q l)) 0 (Nat.zero_le _) ⟨63, rfl, Nat.zero_le _, Ext.refl _, KI.start (by simp)⟩ ?_
 rintro k mk u w2 hkm ⟨m, hu, hkl, hx2, hK⟩
 simp only [List.map_cons, List.map_nil, List.cons.injEq, and_true] at hu
 obtain ⟨hu1, hu2⟩ := hu
 rw [hu1, hu2]
 have hx02 := hx1.trans hx2
 refine rd_fld fd35_2 ?_
 refine rd_load ty22 (at_DCode_2 hA) hx02 fun v15 h15 => ?_
 refine rd_len u22 h15 ?_
 refine rd_lss ?_
 refine br (fun hlt => ?_) (fun hge => ?_)
 case refine_2 =>
   have hke : k = c.procs.length := by omega
   rw [hke] at hK
   refine ⟨hx0.trans hx02, ?_⟩
   have : m = keepN c p := by
     rw [hK.eq]
     refine m6_congr fun l hl => not_congr ?_
     constructor
     · rintro ⟨q, hq, hf, i, h1, h2, h3⟩
       exact ⟨q, i, hq, hf, h1, h2, h3⟩
     · rintro ⟨q, i, h0, hf, h1, h2, h3⟩
       exact ⟨q, h0, hf, i, h1, h2, h3⟩
   rw [this]
 have hk : k < c.procs.length := by omega
 refine rd_indexN u72 ty4 (i := k) hM1.is (by rw [setB_len]; exact hk) fun b2 o2 hA2 => ?_
 refine rd_loadB ty4 hA2 hx2 ?_
 have hmk := mkd_setB (n := c.procs.length) (p := FromP c p) (i := k)
 rw [mkd_get (by rw [setB_len]; exact hk)] at hmk
 refine rd_not ?_
 refine br_b (fun hf => ?_) (fun hf => ?_)
 · have hnf : ¬ FromP c p k := fun h => by rw [hmk.2 ⟨hk, h⟩] at hf; cases hf
   refine rd_inc (by omega) ?_
   refine ⟨mk - 1, by omega, k + 1, by omega, m, rfl, by omega, hx2, hK.congr fun l => ?_⟩
   constructor
   · rintro ⟨q, hq, h1, h2⟩
     by_cases e : q = k
     · subst e; exact absurd h1 hnf
     · exact ⟨q, by omega, h1, h2⟩
   · rintro ⟨q, hq, h1⟩; exact ⟨q, by omega, h1⟩
 have hfr : FromP c p k := (hmk.1 (by simpa using hf)).2
 refine rd_load ty35 hA hx02 fun v25 h25 => ?_
 refine (l09Live_ok h25 hx02 hc (by rw [hc.2.1.1]; exact hk)).mono ?_
 rintro v27 w3 ⟨hx3, ho3⟩
 refine loopC c.ins.length (fun j us w' => ∃ m : Nat, us = [.int .i64 (m : Int), .int .i64 (j : Int)] ∧ j ≤ c.ins.length ∧ Ext w3 w' ∧ KI m (fun l => (∃ q, q < k ∧ FromP c p q ∧ GivesP c q l) ∨ ∃ i, i < j ∧ LiveP c k i ∧ (insAt c i).op = 7 ∧ agN c i = l)) 0 (Nat.zero_le _) ⟨m, rfl, Nat.zero_le _, Ext.refl _, hK.congr fun l => by simp⟩ ?_
 rintro j mj u w4 hjm ⟨m4, hu, hjl, hx4, hK4⟩
 simp only [List.map_cons, List.map_nil, List.cons.injEq, and_true] at hu
 obtain ⟨hu1, hu2⟩ := hu
 rw [hu1, hu2]
 have hx04 := hx02.trans (hx3.trans hx4)
 refine rd_fld fd35_4 ?_
 refine rd_load ty33 (at_DCode_4 hA) hx04 fun v30 h30 => ?_
 refine rd_len u33 h30 ?_
 refine rd_lss ?_
 refine br (fun hlt => ?_) (fun hge => ?_)
 case refine_2 =>
   have hje : j = c.ins.length := by omega
   rw [hje] at hK4
   refine rd_inc (by omega) ?_
   refine ⟨mk - 1, by omega, k + 1, by omega, m4, rfl, by omega, hx2.trans (hx3.trans hx4), hK4.congr fun l => ?_⟩
   constructor
   · rintro ⟨q, hq, h1, h2⟩
     by_cases e : q = k
     · subst e
       obtain ⟨i, h3, h4⟩ := h2
       exact .inr ⟨i, (live_lt hc (by rw [hc.2.1.1]; exact hk) h3).1, h3, h4⟩
     · exact .inl ⟨q, by omega, h1, h2⟩
   · rintro (⟨q, hq, h1⟩ | ⟨i, hi, h2⟩)
     · exact ⟨q, by omega, h1⟩
     · exact ⟨k, by omega, hfr, i, h2⟩
 have hj : j < c.ins.length := by omega
 refine rd_indexN u72 ty4 (i := j) ho3.is (by rw [setB_len]; exact hj) fun b3 o3 hA3 => ?_
 refine rd_loadB ty4 hA3 hx4 ?_
 have hmj := mkd_setB (n := c.ins.length) (p := LiveP c k) (i := j)
 rw [mkd_get (by rw [setB_len]; exact hj)] at hmj
 have hno : ∀ w', Ext w3 w' → ¬ (LiveP c k j ∧ (insAt c j).op = 7) → ∃ m : Nat, [Value.int .i64 (m4 : Int), Value.int .i64 ((j + 1 : Nat) : Int)] = [.int .i64 (m : Int), .int .i64 ((j + 1 : Nat) : Int)] ∧ j + 1 ≤ c.ins.length ∧ Ext w3 w' ∧ KI m (fun l => (∃ q, q < k ∧ FromP c p q ∧ GivesP c q l) ∨ ∃ i, i < j + 1 ∧ LiveP c k i ∧ (insAt c i).op = 7 ∧ agN c i = l) := fun w' hx hn => by
   refine ⟨m4, rfl, by omega, hx, hK4.congr fun l => or_congr Iff.rfl ?_⟩
   constructor
   · rintro ⟨i, h1, h2, h3, h4⟩
     by_cases e : i = j
     · subst e; exact absurd ⟨h2, h3⟩ hn
     · exact ⟨i, by omega, h2, h3, h4⟩
   · rintro ⟨i, h1, h2⟩; exact ⟨i, by omega, h2⟩
 refine br_b (fun hf4 => ?_) (fun hf4 => ?_)
 · refine rd_fld fd35_4 ?_
   refine rd_load ty33 (at_DCode_4 hA) hx04 fun v41 h41 => ?_
   refine rd_indexN u33 ty136 h41 hj fun b4 o4 hA4 => ?_
   rw [insAt_get] at hA4
   refine rd_fld fd136_0 ?_
   refine rd_loadI ty3 (at_DIns_0 hA4) hx04 fun _ => ?_
   refine rd_eql ?_
   refine br (fun c7 => ?_) (fun c7 => ?_)
   · obtain ⟨ha, _, hq6⟩ := ag_lock hc hj (.inr c7)
     have hpw := pow_lt6 hq6
     refine rd_fld fd35_4 ?_
     refine rd_load ty33 (at_DCode_4 hA) hx04 fun v50 h50 => ?_
     refine rd_indexN u33 ty136 h50 hj fun b5 o5 hA5 => ?_
     rw [insAt_get] at hA5
     refine rd_fld fd136_1 ?_
     refine rd_loadI ty3 (at_DIns_1 hA5) hx04 fun _ => ?_
     rw [ha]
     refine (l12Bit_ok (by omega)).mono ?_
     rintro _ w5 ⟨hx5, rfl⟩
     refine (without_ok hK4.1 hpw).mono ?_
     rintro _ w6 ⟨hx6, rfl⟩
     rw [without_and hK4.1 hpw]
     refine rd_inc (by omega) ?_
     refine ⟨mj - 1, by omega, j + 1, by omega, _, rfl, by omega, hx4.trans (hx5.trans hx6), hK4.drop fun l => ?_⟩
     constructor
     · rintro (h | ⟨i, h1, h2, h3, h4⟩)
       · exact .inl (.inl h)
       · by_cases e : i = j
         · subst e; exact .inr h4
         · exact .inl (.inr ⟨i, by omega, h2, h3, h4⟩)
     · rintro ((h | ⟨i, h1, h2⟩) | h)
       · exact .inl h
       · exact .inr ⟨i, by omega, h2⟩
       · exact .inr ⟨j, by omega, (hmj.1 hf4).2, c7, h⟩
   · refine rd_inc (by omega) ?_
     exact ⟨mj - 1, by omega, j + 1, by omega, hno w4 hx4 fun h => c7 h.2⟩
 · refine rd_inc (by omega) ?_
   exact ⟨mj - 1, by omega, j + 1, by omega, hno w4 hx4 fun h => by rw [hmj.2 ⟨hj, h.1⟩] at hf4; cases hf4⟩
def F199 (a0 a1 a2 : Value) (w : World) (R : VW) : Prop :=
 (fun w => NIL a0 <|
 RD tp (Instr.fieldAt 144 a0 0) w fun x13 =>
 RD tp (Instr.loadAt 35 x13) w fun x14 =>
 (fun w_ => CALL tp 132 [a0, a1, a2, (Value.int .i64 0)] w_ fun x10 w =>
 Ext w_ w ∧
 CALL tp 133 [x14, a2] w fun x16 w =>
 RD tp (bin .sub 3 T0 U0 x16 (Value.int .i64 1)) w fun x17 =>
 RD tp (Instr.indexAt 23 x10 x17) w fun x18 =>
 RD tp (Instr.loadAt 3 x18) w fun x19 =>
 R x19 w) w) (World.drew1 w)
def cfg199 : Cfg := ⟨extL, [], [], [(1, [0, 1, 2, 4, 5, 6, 7, 8, 3, 9, 10, 11, 12, 13], 8)], [], [], []⟩
theorem F199_eq (a0 a1 a2 : Value) (w : World) (R : VW) : vcF Tryz.prog cfg199 Tryz.f199 [a0, a1, a2] w R = F199 a0 a1 a2 w R := by kernel_rfl
theorem F199_call {a0 a1 a2 : Value} {w : World} {R : VW} (h : F199 a0 a1 a2 w R) : CALL Tryz.prog 199 [a0, a1, a2] w R :=
 call_of (g := cfg199) ent mixed Tryz.func199 (Nat.le_of_ble_eq_true (by kernel_rfl)) (by kernel_rfl) (F199_eq a0 a1 a2 w R ▸ h)
def F184 (a0 a1 a2 : Value) (w : World) (R : VW) : Prop :=
 OP tp (Instr.box 35 a0) w fun x3 w =>
 (fun w => RD tp (Instr.loadAt 35 x3) w fun x7 =>
 RD tp (Instr.loadAt 35 x3) w fun x11 =>
 (fun w_ => CALL tp 115 [x7, a1, a2, (Value.int .i64 0)] w_ fun x10 w =>
 Ext w_ w ∧
 CALL tp 116 [x11, a2] w fun x13 w =>
 RD tp (Instr.indexAt 23 x10 x13) w fun x14 =>
 RD tp (Instr.loadAt 3 x14) w fun x15 =>
 R x15 w) w) (World.drew1 w)
def cfg184 : Cfg := ⟨extL, [], [], [(1, [0, 1, 2, 4, 5, 3, 6, 7, 8, 9], 8)], [], [], []⟩
theorem F184_eq (a0 a1 a2 : Value) (w : World) (R : VW) : vcF Tryz.prog cfg184 Tryz.f184 [a0, a1, a2] w R = F184 a0 a1 a2 w R := by kernel_rfl
theorem F184_call {a0 a1 a2 : Value} {w : World} {R : VW} (h : F184 a0 a1 a2 w R) : CALL Tryz.prog 184 [a0, a1, a2] w R :=
 call_of (g := cfg184) ent mixed Tryz.func184 (Nat.le_of_ble_eq_true (by kernel_rfl)) (by kernel_rfl) (F184_eq a0 a1 a2 w R ▸ h)
def F198 (a0 : Value) (w : World) (R : VW) : Prop :=
 NIL a0 <|
 RD tp (Instr.fieldAt 144 a0 0) w fun x7 =>
 RD tp (Instr.fieldAt 35 x7 2) w fun x8 =>
 RD tp (Instr.loadAt 22 x8) w fun x9 =>
 RD tp (ln 22 3 x9) w fun x10 =>
 LOOPI [3, 11] [(Value.slice none 0 0), (Value.int .i64 0)] w fun u3 w next3 =>
 RD tp (bin .lss 3 T0 T0 (u3 11) x10) w fun x12 =>
 BR x12
 (CALL tp 243 [a0, (u3 11)] w fun x17 w =>
 RD tp (Instr.build 195 #[(0, x17), (1, (Value.int .i64 63))]) w fun x18 =>
 OP tp (Instr.buildSlice 126 1 #[(0, x18)]) w fun x19 w =>
 OP tp (Builtin.append_ #[126, 126] 126 [(u3 3), x19].toArray) w fun x20 w =>
 RD tp (bin .add 3 T0 U0 (u3 11) (Value.int .i64 1)) w fun x21 =>
 next3 [x20, x21] w)
 (R (u3 3) w)
def cfg198 : Cfg := ⟨extL, [], [(3, 4192280, [3, 11])], [], [], [], []⟩
theorem F198_eq (a0 : Value) (w : World) (R : VW) : vcF Tryz.prog cfg198 Tryz.f198 [a0] w R = F198 a0 w R := by kernel_rfl
theorem F198_call {a0 : Value} {w : World} {R : VW} (h : F198 a0 w R) : CALL Tryz.prog 198 [a0] w R :=
 call_of (g := cfg198) ent mixed Tryz.func198 (Nat.le_of_ble_eq_true (by kernel_rfl)) (by kernel_rfl) (F198_eq a0 w R ▸ h)
def F183 (a0 : Value) (w : World) (R : VW) : Prop :=
 OP tp (Instr.box 35 a0) w fun x1 w =>
 OP tp (Instr.buildSlice 126 0 #[]) w fun x5 w =>
 LOOPI [3, 4] [x5, (Value.int .i64 0)] w fun u3 w next3 =>
 RD tp (Instr.fieldAt 35 x1 2) w fun x7 =>
 RD tp (Instr.loadAt 22 x7) w fun x8 =>
 RD tp (ln 22 3 x8) w fun x9 =>
 RD tp (bin .lss 3 T0 T0 (u3 4) x9) w fun x10 =>
 BR x10
 (RD tp (Instr.loadAt 35 x1) w fun x14 =>
 CALL tp 234 [x14, (u3 4)] w fun x16 w =>
 RD tp (Instr.build 195 #[(0, x16), (1, (Value.int .i64 63))]) w fun x17 =>
 OP tp (Instr.buildSlice 126 1 #[(0, x17)]) w fun x18 w =>
 OP tp (Builtin.append_ #[126, 126] 126 [(u3 3), x18].toArray) w fun x19 w =>
 RD tp (bin .add 3 T0 U0 (u3 4) (Value.int .i64 1)) w fun x12 =>
 next3 [x19, x12] w)
 (R (u3 3) w)
def cfg183 : Cfg := ⟨extL, [], [(3, 1048536, [3, 4])], [], [], [], []⟩
theorem F183_eq (a0 : Value) (w : World) (R : VW) : vcF Tryz.prog cfg183 Tryz.f183 [a0] w R = F183 a0 w R := by kernel_rfl
theorem F183_call {a0 : Value} {w : World} {R : VW} (h : F183 a0 w R) : CALL Tryz.prog 183 [a0] w R :=
 call_of (g := cfg183) ent mixed Tryz.func183 (Nat.le_of_ble_eq_true (by kernel_rfl)) (by kernel_rfl) (F183_eq a0 w R ▸ h)
def F130 (a0 : Value) (w : World) (R : VW) : Prop :=
 CALL tp 198 [a0] w fun x8 w =>
 LOOPI [4] [(Value.bool true)] w fun u3 w next3 =>
 BR (u3 4)
 (RD tp (ln 126 3 x8) w fun x11 =>
 LOOPI [4, 12] [(Value.bool false), (Value.int .i64 0)] w fun u6 w next6 =>
 RD tp (bin .lss 3 T0 T0 (u6 12) x11) w fun x13 =>
 BR x13
 (CALL tp 199 [a0, x8, (u6 12)] w fun x18 w =>
 RD tp (Instr.indexAt 126 x8 (u6 12)) w fun x22 =>
 RD tp (Instr.fieldAt 195 x22 1) w fun x23 =>
 RD tp (Instr.loadAt 3 x23) w fun x24 =>
 RD tp (bin .neq 3 T0 T0 x18 x24) w fun x25 =>
 BR x25
 (RD tp (Instr.indexAt 126 x8 (u6 12)) w fun x29 =>
 RD tp (Instr.fieldAt 195 x29 1) w fun x30 =>
 OPU tp (Instr.storeAt 3 x30 x18) w fun w =>
 RD tp (bin .add 3 T0 U0 (u6 12) (Value.int .i64 1)) w fun x31 =>
 next6 [(Value.bool true), x31] w)
 (RD tp (bin .add 3 T0 U0 (u6 12) (Value.int .i64 1)) w fun x31 =>
 next6 [(u6 4), x31] w))
 (next3 [(u6 4)] w))
 (R x8 w)
def cfg130 : Cfg := ⟨extL, [], [(3, 4294966896, [4]), (6, 4294963312, [4, 12])], [], [], [], []⟩
theorem F130_eq (a0 : Value) (w : World) (R : VW) : vcF Tryz.prog cfg130 Tryz.f130 [a0] w R = F130 a0 w R := by kernel_rfl
theorem F130_call {a0 : Value} {w : World} {R : VW} (h : F130 a0 w R) : CALL Tryz.prog 130 [a0] w R :=
 call_of (g := cfg130) ent mixed Tryz.func130 (Nat.le_of_ble_eq_true (by kernel_rfl)) (by kernel_rfl) (F130_eq a0 w R ▸ h)
def F112 (a0 : Value) (w : World) (R : VW) : Prop :=
 OP tp (Instr.box 35 a0) w fun x1 w =>
 RD tp (Instr.loadAt 35 x1) w fun x7 =>
 CALL tp 183 [x7] w fun x8 w =>
 LOOPI [4] [(Value.bool true)] w fun u3 w next3 =>
 BR (u3 4)
 (LOOPI [4, 5] [(Value.bool false), (Value.int .i64 0)] w fun u6 w next6 =>
 RD tp (Instr.fieldAt 35 x1 2) w fun x11 =>
 RD tp (Instr.loadAt 22 x11) w fun x12 =>
 RD tp (ln 22 3 x12) w fun x13 =>
 RD tp (bin .lss 3 T0 T0 (u6 5) x13) w fun x14 =>
 BR x14
 (RD tp (Instr.loadAt 35 x1) w fun x17 =>
 CALL tp 184 [x17, x8, (u6 5)] w fun x20 w =>
 RD tp (Instr.indexAt 126 x8 (u6 5)) w fun x24 =>
 RD tp (Instr.fieldAt 195 x24 1) w fun x25 =>
 RD tp (Instr.loadAt 3 x25) w fun x26 =>
 RD tp (bin .neq 3 T0 T0 x20 x26) w fun x27 =>
 BR x27
 (RD tp (Instr.indexAt 126 x8 (u6 5)) w fun x31 =>
 RD tp (Instr.fieldAt 195 x31 1) w fun x32 =>
 OPU tp (Instr.storeAt 3 x32 x20) w fun w =>
 RD tp (bin .add 3 T0 U0 (u6 5) (Value.int .i64 1)) w fun x16 =>
 next6 [(Value.bool true), x16] w)
 (RD tp (bin .add 3 T0 U0 (u6 5) (Value.int .i64 1)) w fun x16 =>
 next6 [(u6 4), x16] w))
 (next3 [(u6 4)] w))
 (R x8 w)
def cfg112 : Cfg := ⟨extL, [], [(3, 8589934192, [4]), (6, 8589933680, [4, 5])], [], [], [], []⟩
theorem F112_eq (a0 : Value) (w : World) (R : VW) : vcF Tryz.prog cfg112 Tryz.f112 [a0] w R = F112 a0 w R := by kernel_rfl
theorem F112_call {a0 : Value} {w : World} {R : VW} (h : F112 a0 w R) : CALL Tryz.prog 112 [a0] w R :=
 call_of (g := cfg112) ent mixed Tryz.func112 (Nat.le_of_ble_eq_true (by kernel_rfl)) (by kernel_rfl) (F112_eq a0 w R ▸ h)
set_option linter.unusedVariables false
set_option linter.unusedSimpArgs false
open Rep (rep)
theorem zN_end {c : DCode} (hc : CodeR c) {p : Nat} (hp : p < c.procs.length) : endB c p = ((zN c p + 1 : Nat) : Int) ∧ endOf c p = (zN c p : Int) ∧ zN c p < c.ins.length := by
 have h := zN_eq hc (p := p) (by rw [hc.2.1.1]; exact hp)
 refine ⟨by omega, ?_, h.2.2⟩
 rw [endOf_eq]; omega
theorem asked_ok {w W0 W1 : World} {b p : Nat} {v1 : Value} {c : DCode} {T : Tab} (hW : WL W0 b c) (e0 : Ext W0 w) (h1 : Is W1 v1 (effs T)) (e1 : Ext W1 w) (hc : CodeR c) (hT : TabR c T) (hp : p < c.procs.length) :
   CALL Tryz.prog 199 [.pointer (some ⟨b, 0, none⟩), v1, .int .i64 (p : Int)] w fun r w' => Ext w w' ∧ r = .int .i64 (asked c T p : Nat) := by
 refine F199_call ?_
 unfold F199
 obtain ⟨hz1, hz2, hz3⟩ := zN_end hc hp
 have hil := hc.f.ins
 have h8 := hc.1.procs8
 have hxd := ext_drew w
 generalize World.drew1 w = w1 at *
 refine NIL.mk rfl ?_
 refine rd_fld fd144_0 ?_
 refine rd_load ty35 hW.code (e0.trans hxd) fun v14 h14 => ?_
 refine (flow_ok hW (e0.trans hxd) h1 (e1.trans hxd) hc hT hp (h := 0) (by omega)).mono ?_
 rintro v10 w2 ⟨hx2, ho2⟩
 refine ⟨hx2, ?_⟩
 refine (endOfProc_ok h14 ((e0.trans hxd).trans hx2) (by omega)).mono ?_
 rintro _ w3 ⟨hx3, rfl⟩
 rw [hz1]
 refine rd_sub (by unfold I64; omega) ?_
 rw [show ((zN c p + 1 : Nat) : Int) - 1 = (zN c p : Int) by omega]
 refine rd_indexN u23 ty3 ho2.is (by rw [ints_len, flowN_len]; exact hz3) fun b1 o1 hA1 => ?_
 rw [ints_nat0] at hA1
 refine rd_loadI ty3 hA1 hx3 fun _ => ?_
 exact ⟨hxd.trans (hx2.trans hx3), rfl⟩
theorem l13Gen_ok {w W0 W1 : World} {p : Nat} {v0 v1 : Value} {c : DCode} {T : Tab} (h0 : Is W0 v0 c) (e0 : Ext W0 w) (h1 : Is W1 v1 (effs T)) (e1 : Ext W1 w) (hc : CodeR c) (hT : TabR c T) (hp : p < c.procs.length) :
   CALL Tryz.prog 184 [v0, v1, .int .i64 (p : Int)] w fun r w' => Ext w w' ∧ r = .int .i64 (asked c T p : Nat) := by
 refine F184_call ?_
 unfold F184
 obtain ⟨hz1, hz2, hz3⟩ := zN_end hc hp
 have hil := hc.f.ins
 have h8 := hc.1.procs8
 refine op_box h0 e0 fun w0 hx0 hA => ?_
 have hxd := ext_drew w0
 generalize World.drew1 w0 = w1 at *
 refine rd_load ty35 hA hxd fun v7 h7 => ?_
 refine rd_load ty35 hA hxd fun v11 h11 => ?_
 refine (l13From_ok h7 hxd h1 (e1.trans (hx0.trans hxd)) hc hT hp (h := 0) (by omega)).mono ?_
 rintro v10 w2 ⟨hx2, ho2⟩
 refine ⟨hx2, ?_⟩
 refine (l08End_ok h11 (hxd.trans hx2) (p := (p : Int)) (by omega) (by omega) hc.2.1.nonneg).mono ?_
 rintro _ w3 ⟨hx3, rfl⟩
 rw [hz2]
 refine rd_indexN u23 ty3 ho2.is (by rw [ints_len, flowN_len]; exact hz3) fun b1 o1 hA1 => ?_
 rw [ints_nat0] at hA1
 refine rd_loadI ty3 hA1 hx3 fun _ => ?_
 exact ⟨(hx0.trans hxd).trans (hx2.trans hx3), rfl⟩
noncomputable def fst1 (c : DCode) (k : Nat) : Tab := (List.range k).map fun p => (keepN c p, 63)
theorem fst1_succ (c : DCode) (k : Nat) : effs (fst1 c (k + 1)) = effs (fst1 c k) ++ [eff1 (keepN c k, 63)] := by simp [fst1, effs, List.range_succ]
theorem fst1_len (c : DCode) (k : Nat) : (effs (fst1 c k)).length = k := by simp [fst1, effs]
theorem ownI_eff {w : World} (lo hi : Nat) {x : Nat × Nat} (h1 : x.1 < 64) (h2 : x.2 < 64) : OwnI lo hi w (.agg #[.int .i64 (x.1 : Int), .int .i64 (x.2 : Int)]) (eff1 x) :=
 ⟨[], mk_DEffect (x := eff1 x) (by unfold eff1 I64; simp only; omega) (by unfold eff1 I64; simp only; omega), by simp⟩
theorem firstEffects_ok {w W0 : World} {b : Nat} {c : DCode} (hW : WAt W0 b c) (e0 : Ext W0 w) (hc : CodeR c) :
   CALL Tryz.prog 198 [.pointer (some ⟨b, 0, none⟩)] w fun r w' => Ext w w' ∧ Own w.heap.size w' r (effs (fst1 c c.procs.length)) := by
 refine F198_call ?_
 unfold F198
 have h8 := hc.1.procs8
 refine NIL.mk rfl ?_
 refine rd_fld fd144_0 ?_
 refine rd_fld fd35_2 ?_
 refine rd_load ty22 (at_DCode_2 hW.wl.code) e0 fun v9 h9 => ?_
 refine rd_len u22 h9 ?_
 refine loopC c.procs.length (fun k us w' => ∃ v : Value, us = [v, .int .i64 (k : Int)] ∧ k ≤ c.procs.length ∧ Ext w w' ∧ RowI w.heap.size w'.heap.size 195 w' v (effs (fst1 c k))) 0 (Nat.zero_le _) ⟨_, rfl, Nat.zero_le _, Ext.refl _, rowI_nil _ _ _ _⟩ ?_
 rintro k mk u w2 hkm ⟨v, hu, hkl, hx2, hr2⟩
 simp only [List.map_cons, List.map_nil, List.cons.injEq, and_true] at hu
 obtain ⟨hu1, hu2⟩ := hu
 rw [hu1, hu2]
 refine rd_lss ?_
 refine br (fun hlt => ?_) (fun hge => ?_)
 case refine_2 =>
   have : k = c.procs.length := by omega
   rw [this] at hr2
   exact ⟨hx2, hr2.own.own⟩
 have hk : k < c.procs.length := by omega
 have hs2 := hx2.size
 refine (keepIn_ok hW (e0.trans hx2) hc hk).mono ?_
 rintro _ w3 ⟨hx3, rfl⟩
 have hs3 := hx3.size
 refine rd_build (cells := #[.int .i64 (keepN c k : Nat), .int .i64 63]) (by kernel_rfl) ?_
 refine op_push (lo2 := w3.heap.size) (hi2 := w3.heap.size) (x := eff1 (keepN c k, 63)) u126 ty195 z195 zc195 (by decide) (hr2.ext hx3) (by omega) (ownI_eff _ _ (x := (keepN c k, 63)) m6_lt (by omega)) (by omega) (by omega) (by rw [maxLen_eq, fst1_len]; omega) (by rw [fst1_len]; omega) fun v54 w9 hc9 hr9 => ?_
 refine rd_inc (by omega) ?_
 refine ⟨mk - 1, by omega, k + 1, by omega, v54, rfl, by omega, (hx2.trans hx3).chgI hc9 (Nat.le_refl _), ?_⟩
 rw [fst1_succ]
 exact hr9
theorem l13New_ok {w W0 : World} {v0 : Value} {c : DCode} (h0 : Is W0 v0 c) (e0 : Ext W0 w) (hc : CodeR c) :
   CALL Tryz.prog 183 [v0] w fun r w' => Ext w w' ∧ Own w.heap.size w' r (effs (fst1 c c.procs.length)) := by
 refine F183_call ?_
 unfold F183
 have h8 := hc.1.procs8
 refine op_box h0 e0 fun w0 hx0 hA => ?_
 have hs0 := hx0.size
 refine op_build0I (α := DEffect) u126 ty195 fun a w1 hx1 hr1 => ?_
 have hs1 := hx1.size
 refine loopC c.procs.length (fun k us w' => ∃ v : Value, us = [v, .int .i64 (k : Int)] ∧ k ≤ c.procs.length ∧ Ext w0 w' ∧ RowI w0.heap.size w'.heap.size 195 w' v (effs (fst1 c k))) 0 (Nat.zero_le _) ⟨_, rfl, Nat.zero_le _, hx1, hr1.mono hs1 (Nat.le_refl _)⟩ ?_
 rintro k mk u w2 hkm ⟨v, hu, hkl, hx2, hr2⟩
 simp only [List.map_cons, List.map_nil, List.cons.injEq, and_true] at hu
 obtain ⟨hu1, hu2⟩ := hu
 rw [hu1, hu2]
 refine rd_fld fd35_2 ?_
 refine rd_load ty22 (at_DCode_2 hA) hx2 fun v9 h9 => ?_
 refine rd_len u22 h9 ?_
 refine rd_lss ?_
 refine br (fun hlt => ?_) (fun hge => ?_)
 case refine_2 =>
   have : k = c.procs.length := by omega
   rw [this] at hr2
   exact ⟨hx0.trans hx2, hr2.own.own.mono (by omega)⟩
 have hk : k < c.procs.length := by omega
 have hs2 := hx2.size
 refine rd_load ty35 hA hx2 fun v14 h14 => ?_
 refine (l13Keep_ok h14 hx2 hc hk).mono ?_
 rintro _ w3 ⟨hx3, rfl⟩
 have hs3 := hx3.size
 refine rd_build (cells := #[.int .i64 (keepN c k : Nat), .int .i64 63]) (by kernel_rfl) ?_
 refine op_push (lo2 := w3.heap.size) (hi2 := w3.heap.size) (x := eff1 (keepN c k, 63)) u126 ty195 z195 zc195 (by decide) (hr2.ext hx3) (by omega) (ownI_eff _ _ (x := (keepN c k, 63)) m6_lt (by omega)) (by omega) (by omega) (by rw [maxLen_eq, fst1_len]; omega) (by rw [fst1_len]; omega) fun v54 w9 hc9 hr9 => ?_
 refine rd_inc (by omega) ?_
 refine ⟨mk - 1, by omega, k + 1, by omega, v54, rfl, by omega, (hx2.trans hx3).chgI hc9 (by omega), ?_⟩
 rw [fst1_succ]
 exact hr9
structure FE (w1 w : World) (g : Nat) (v : Value) (T : Tab) : Prop where
 ext : Ext w1 w
 mine : Mine [g] w v (effs T)
 g0 : w1.heap.size ≤ g
section
variable {w1 w w' : World} {g : Nat} {v : Value} {T : Tab}
theorem FE.step (h : FE w1 w g v T) (hx : Ext w w') : FE w1 w' g v T := ⟨h.ext.trans hx, h.mine.ext hx, h.g0⟩
theorem FE.own (h : FE w1 w g v T) : Own w1.heap.size w v (effs T) := ⟨[g], h.mine, fun b hb => by simp only [List.mem_cons, List.not_mem_nil, or_false] at hb; have := h.g0; omega⟩
theorem FE.make (ho : Own w1.heap.size w v (effs T)) (hx : Ext w1 w) (hT : T ≠ []) : ∃ g, FE w1 w g v T := by
 obtain ⟨F, hm, hF⟩ := ho
 obtain ⟨b, o, cap, hv, rfl⟩ := flat_one hm (by intro e; exact hT (List.map_eq_nil_iff.1 e))
 exact ⟨b, hx, hm, hF b (by simp)⟩
theorem opu_gen {q m : Nat} {K : World → Prop} (h : FE w1 w g v T) (hT : T ≠ []) (hq : q < T.length) (hm : m < 64) (k : ∀ w', FE w1 w' g v (T.set q ((tbl T q).1, m)) → ChgI g (g + 1) w w' → K w') :
   RD Tryz.prog (Instr.indexAt 126 v (.int .i64 (q : Int))) w fun a => RD Tryz.prog (Instr.fieldAt 195 a 1) w fun f => OPU Tryz.prog (Instr.storeAt 3 f (.int .i64 (m : Int))) w K := by
 refine st_fld (α := DEffect) (β := Int) (sel := DEffect.gen) (g := fun a y => ⟨a.keep, y⟩) u126 ty195 fd195_1 ty3 (fun h => lens_DEffect_1 h) h.mine (by rw [effs_len]; exact hq) (mine_nat (v := m) (by omega)) fun w2 F2 hc2 hm2 hF2 => ?_
 have hF : F2 = [g] := by
   obtain ⟨b, o, cap, hv, rfl⟩ := flat_one hm2 (by intro e; have := congrArg List.length e; rw [List.length_set, effs_len] at this; simp only [List.length_nil] at this; omega)
   have := hF2 b (by simp)
   simpa using this
 subst hF
 have hcc := chg_one hc2
 refine k w2 ⟨h.ext.chgI hcc h.g0, ?_, h.g0⟩ hcc
 rw [effs_set]
 rw [effs_get] at hm2
 exact hm2
end
theorem fst1_EI {c : DCode} (hc : CodeR c) : EI c (fst1 c c.procs.length) := EI.start c hc
theorem EI.len {c : DCode} {T : Tab} (h : EI c T) : T.length = c.procs.length := h.tab.1
theorem EI.ne {c : DCode} (hc : CodeR c) {T : Tab} (h : EI c T) : T ≠ [] := fun e => by
 have h1 := h.len
 have h2 := hc.1.procs8
 rw [e] at h1; simp at h1; omega
structure EP (c : DCode) (T0 : Tab) (k : Nat) (ag : Bool) (T : Tab) : Prop where
 ei : EI c T
 yes : ag = true → gsum T < gsum T0
 no : ag = false → T = T0 ∧ ∀ p, p < k → asked c T0 p = (tbl T0 p).2
theorem EP.set {c : DCode} (hc : CodeR c) {T0 T : Tab} {k : Nat} {ag : Bool} (H : EP c T0 k ag T) (hk : k < c.procs.length) (hne : asked c T k ≠ (tbl T k).2) : EP c T0 (k + 1) true (T.set k ((tbl T k).1, asked c T k)) := by
 refine ⟨H.ei.upd hc hk, fun _ => ?_, fun e => by cases e⟩
 have h1 := gsum_set (T := T) (p := k) (v := ((tbl T k).1, asked c T k)) (by rw [H.ei.len]; exact hk)
 have h2 := H.ei.le hc hk
 simp only at h1
 cases ag with
 | true => have := H.yes rfl; omega
 | false => rw [(H.no rfl).1] at h1 h2 hne ⊢; omega
theorem EP.skip {c : DCode} {T0 T : Tab} {k : Nat} {ag : Bool} (H : EP c T0 k ag T) (he : asked c T k = (tbl T k).2) : EP c T0 (k + 1) ag T :=
 ⟨H.ei, H.yes, fun e => ⟨(H.no e).1, fun p hp => by
   by_cases h : p = k
   · subst h; rw [(H.no e).1] at he; exact he
   · exact (H.no e).2 p (by omega)⟩⟩
theorem effects_ok {w W0 : World} {b : Nat} {c : DCode} (hW : WAt W0 b c) (e0 : Ext W0 w) (hc : CodeR c) :
   CALL Tryz.prog 130 [.pointer (some ⟨b, 0, none⟩)] w fun r w' => Ext w w' ∧ Own w.heap.size w' r (effs (effN c)) := by
 refine F130_call ?_
 unfold F130
 have h8 := hc.1.procs8
 refine (firstEffects_ok hW e0 hc).mono ?_
 rintro v8 w1 ⟨hx1, ho1⟩
 have hE1 := fst1_EI hc
 obtain ⟨g, hF1⟩ := FE.make ho1 hx1 (hE1.ne hc)
 generalize fst1 c c.procs.length = T at *
 refine LOOPI.mk (fun m us w' => ∃ (ag : Bool) (T : Tab), us = [.bool ag] ∧ m = gsum T + (if ag then 1 else 0) ∧ FE w w' g v8 T ∧ EI c T ∧ (ag = false → ∀ p, p < c.procs.length → asked c T p = (tbl T p).2)) (gsum T + 1) ⟨true, T, rfl, rfl, hF1, hE1, fun e => by cases e⟩ ?_
 rintro m u w2 ⟨ag, T, hu, hm, hF2, hE2, hsh⟩
 simp only [List.map_cons, List.map_nil, List.cons.injEq, and_true] at hu
 rw [hu]
 refine br_b (fun hag => ?_) (fun hag => ?_)
 case refine_2 =>
   rw [hE2.fin hc (hsh hag)] at hF2
   exact ⟨hF2.ext, hF2.own⟩
 rw [hag, if_pos rfl] at hm
 refine rd_len u126 hF2.mine.is ?_
 rw [effs_len, hE2.len]
 refine loopC c.procs.length (fun k us w' => ∃ (ag : Bool) (T' : Tab), us = [.bool ag, .int .i64 (k : Int)] ∧ k ≤ c.procs.length ∧ FE w w' g v8 T' ∧ EP c T k ag T') 0 (Nat.zero_le _) ⟨false, T, rfl, Nat.zero_le _, hF2, hE2, fun e => (by cases e), fun _ => ⟨rfl, fun p hp => by omega⟩⟩ ?_
 rintro k mk u w3 hkm ⟨ag3, T3, hu, hkl, hF3, hP3⟩
 simp only [List.map_cons, List.map_nil, List.cons.injEq, and_true] at hu
 obtain ⟨hu1, hu2⟩ := hu
 rw [hu1, hu2]
 refine rd_lss ?_
 refine br (fun hlt => ?_) (fun hge => ?_)
 case refine_2 =>
   refine ⟨gsum T3 + (if ag3 then 1 else 0), ?_, ag3, T3, rfl, rfl, hF3, hP3.ei, fun e p hp => ?_⟩
   · cases ag3 with
     | true => have := hP3.yes rfl; simp; omega
     | false => rw [(hP3.no rfl).1]; simp; omega
   · have := hP3.no e
     rw [this.1]
     exact this.2 p (by omega)
 have hk : k < c.procs.length := by omega
 refine (asked_ok hW.wl (e0.trans hF3.ext) hF3.mine.is (Ext.refl _) hc hP3.ei.tab hk).mono ?_
 rintro _ w4 ⟨hx4, rfl⟩
 have hF4 := hF3.step hx4
 have hal := asked_lt (T := T3) hc hk
 have hgl := hP3.ei.tab.2 k
 have hkT : k < T3.length := by rw [hP3.ei.len]; exact hk
 refine rd_indexN u126 ty195 hF4.mine.is (by rw [effs_len]; exact hkT) fun b1 o1 hA1 => ?_
 rw [effs_get] at hA1
 refine rd_fld fd195_1 ?_
 refine rd_loadI ty3 (at_DEffect_1 hA1) (Ext.refl _) fun _ => ?_
 refine rd_neq ?_
 refine br (fun hne => ?_) (fun heq => ?_)
 · refine opu_gen hF4 (hP3.ei.ne hc) hkT hal fun w5 hF5 hc5 => ?_
   refine rd_inc (by omega) ?_
   exact ⟨mk - 1, by omega, k + 1, by omega, true, _, rfl, by omega, hF5, hP3.set hc hk fun e => hne (by rw [e]; rfl)⟩
 · refine rd_inc (by omega) ?_
   exact ⟨mk - 1, by omega, k + 1, by omega, ag3, T3, rfl, by omega, hF4, hP3.skip (Int.ofNat_inj.1 (Decidable.not_not.1 heq))⟩
theorem l13Effects_ok {w W0 : World} {v0 : Value} {c : DCode} (h0 : Is W0 v0 c) (e0 : Ext W0 w) (hc : CodeR c) :
   CALL Tryz.prog 112 [v0] w fun r w' => Ext w w' ∧ Own w.heap.size w' r (effs (effN c)) := by
 refine F112_call ?_
 unfold F112
 have h8 := hc.1.procs8
 refine op_box h0 e0 fun w0 hx0 hA => ?_
 have hs0 := hx0.size
 refine rd_load ty35 hA (Ext.refl _) fun v7 h7 => ?_
 refine (l13New_ok h7 (Ext.refl _) hc).mono ?_
 rintro v8 w1 ⟨hx1, ho1⟩
 have hE1 := fst1_EI hc
 obtain ⟨g, hF1⟩ := FE.make ho1 hx1 (hE1.ne hc)
 generalize fst1 c c.procs.length = T at *
 refine LOOPI.mk (fun m us w' => ∃ (ag : Bool) (T : Tab), us = [.bool ag] ∧ m = gsum T + (if ag then 1 else 0) ∧ FE w0 w' g v8 T ∧ EI c T ∧ (ag = false → ∀ p, p < c.procs.length → asked c T p = (tbl T p).2)) (gsum T + 1) ⟨true, T, rfl, rfl, hF1, hE1, fun e => by cases e⟩ ?_
 rintro m u w2 ⟨ag, T, hu, hm, hF2, hE2, hsh⟩
 simp only [List.map_cons, List.map_nil, List.cons.injEq, and_true] at hu
 rw [hu]
 refine br_b (fun hag => ?_) (fun hag => ?_)
 case refine_2 =>
   rw [hE2.fin hc (hsh hag)] at hF2
   exact ⟨hx0.trans hF2.ext, hF2.own.mono (by omega)⟩
 rw [hag, if_pos rfl] at hm
 refine loopC c.procs.length (fun k us w' => ∃ (ag : Bool) (T' : Tab), us = [.bool ag, .int .i64 (k : Int)] ∧ k ≤ c.procs.length ∧ FE w0 w' g v8 T' ∧ EP c T k ag T') 0 (Nat.zero_le _) ⟨false, T, rfl, Nat.zero_le _, hF2, hE2, fun e => (by cases e), fun _ => ⟨rfl, fun p hp => by omega⟩⟩ ?_
 rintro k mk u w3 hkm ⟨ag3, T3, hu, hkl, hF3, hP3⟩
 simp only [List.map_cons, List.map_nil, List.cons.injEq, and_true] at hu
 obtain ⟨hu1, hu2⟩ := hu
 rw [hu1, hu2]
 refine rd_fld fd35_2 ?_
 refine rd_load ty22 (at_DCode_2 hA) hF3.ext fun v12 h12 => ?_
 refine rd_len u22 h12 ?_
 refine rd_lss ?_
 refine br (fun hlt => ?_) (fun hge => ?_)
 case refine_2 =>
   refine ⟨gsum T3 + (if ag3 then 1 else 0), ?_, ag3, T3, rfl, rfl, hF3, hP3.ei, fun e p hp => ?_⟩
   · cases ag3 with
     | true => have := hP3.yes rfl; simp; omega
     | false => rw [(hP3.no rfl).1]; simp; omega
   · have := hP3.no e
     rw [this.1]
     exact this.2 p (by omega)
 have hk : k < c.procs.length := by omega
 refine rd_load ty35 hA hF3.ext fun v17 h17 => ?_
 refine (l13Gen_ok h17 hF3.ext hF3.mine.is (Ext.refl _) hc hP3.ei.tab hk).mono ?_
 rintro _ w4 ⟨hx4, rfl⟩
 have hF4 := hF3.step hx4
 have hal := asked_lt (T := T3) hc hk
 have hgl := hP3.ei.tab.2 k
 have hkT : k < T3.length := by rw [hP3.ei.len]; exact hk
 refine rd_indexN u126 ty195 hF4.mine.is (by rw [effs_len]; exact hkT) fun b1 o1 hA1 => ?_
 rw [effs_get] at hA1
 refine rd_fld fd195_1 ?_
 refine rd_loadI ty3 (at_DEffect_1 hA1) (Ext.refl _) fun _ => ?_
 refine rd_neq ?_
 refine br (fun hne => ?_) (fun heq => ?_)
 · refine opu_gen hF4 (hP3.ei.ne hc) hkT hal fun w5 hF5 hc5 => ?_
   refine rd_inc (by omega) ?_
   exact ⟨mk - 1, by omega, k + 1, by omega, true, _, rfl, by omega, hF5, hP3.set hc hk fun e => hne (by rw [e]; rfl)⟩
 · refine rd_inc (by omega) ?_
   exact ⟨mk - 1, by omega, k + 1, by omega, ag3, T3, rfl, by omega, hF4, hP3.skip (Int.ofNat_inj.1 (Decidable.not_not.1 heq))⟩
end Go.Proofs.YtjgfldfbljmhhaaGreat
