/-
  The names that a term reads.
-/
import Derived.Test.YteephmhilnlkpaaGreatTerms
namespace Go.Proofs.YteephmhilnlkpaaGreat
open Go Go.Sh Go.Proofs
set_option linter.unusedVariables false
/-- impl.addOnce -/
def F283 (a0 a1 : Value) (w : World) (R : Value → World → Prop) : Prop :=
  CALL Tryz.prog 208 [a0, a1] w fun x7 w =>
  BR x7
   (R a0 w)
   (OP Tryz.prog (Instr.buildSlice 22 1 #[(0, a1)]) w fun x11 w =>
   OP Tryz.prog (Builtin.append_ #[22, 22] 22 [a0, x11].toArray) w fun x12 w =>
   R x12 w)
def cfg283 : Cfg := { ext := extL, joins := [], loops := [], draws := [], pars := [] }
theorem F283_eq (a0 a1 : Value) (w : World) (R : Value → World → Prop) : vcF Tryz.prog cfg283 Tryz.f283 [a0, a1] w R = F283 a0 a1 w R := by kernel_rfl
theorem F283_call {a0 a1 : Value} {w : World} {R : Value → World → Prop} (h : F283 a0 a1 w R) : CALL Tryz.prog 283 [a0, a1] w R :=
  call_of (g := cfg283) ent mixed Tryz.func283 (Nat.le_of_ble_eq_true (by kernel_rfl)) (by kernel_rfl) (F283_eq a0 a1 w R ▸ h)

/-- impl.addReads -/
def F256 (a0 a1 : Value) (w : World) (R : Value → World → Prop) : Prop :=
  OP Tryz.prog (Instr.box 133 a1) w fun x3 w =>
  RD Tryz.prog (Instr.fieldAt 133 x3 0) w fun x7 =>
  RD Tryz.prog (Instr.loadAt 3 x7) w fun x8 =>
  RD Tryz.prog (bin .eql 3 (.tmp 0) (.const undef) x8 (Value.int .i64 2)) w fun x9 =>
  BR x9
   (RD Tryz.prog (Instr.fieldAt 133 x3 2) w fun x11 =>
   RD Tryz.prog (Instr.loadAt 9 x11) w fun x12 =>
   CALL Tryz.prog 283 [a0, x12] w fun x13 w =>
   R x13 w)
   (RD Tryz.prog (Instr.fieldAt 133 x3 3) w fun x14 =>
   RD Tryz.prog (Instr.loadAt 131 x14) w fun x15 =>
   RD Tryz.prog (Builtin.len_ #[131] 3 [x15].toArray) w fun x16 =>
   LOOPI [0, 17] [a0, (Value.int .i64 0)] w fun u4 w next4 =>
    RD Tryz.prog (bin .lss 3 (.tmp 0) (.tmp 0) (u4 17) x16) w fun x18 =>
    BR x18
     (RD Tryz.prog (Instr.indexAt 131 x15 (u4 17)) w fun x19 =>
     RD Tryz.prog (Instr.loadAt 133 x19) w fun x20 =>
     OP Tryz.prog (Instr.alloc 133 true (.tuple #[])) w fun x6 w =>
     OPU Tryz.prog (Instr.storeAt 133 x6 x20) w fun w =>
     RD Tryz.prog (Instr.loadAt 133 x6) w fun x22 =>
     CALL Tryz.prog 256 [(u4 0), x22] w fun x23 w =>
     RD Tryz.prog (bin .add 3 (.tmp 0) (.const undef) (u4 17) (Value.int .i64 1)) w fun x24 =>
     next4 [x23, x24] w)
     (R (u4 0) w))
def cfg256 : Cfg := { ext := extL, joins := [], loops := [(4, 33423425, [0, 17])], draws := [], pars := [] }
theorem F256_eq (a0 a1 : Value) (w : World) (R : Value → World → Prop) : vcF Tryz.prog cfg256 Tryz.f256 [a0, a1] w R = F256 a0 a1 w R := by kernel_rfl
theorem F256_call {a0 a1 : Value} {w : World} {R : Value → World → Prop} (h : F256 a0 a1 w R) : CALL Tryz.prog 256 [a0, a1] w R :=
  call_of (g := cfg256) ent mixed Tryz.func256 (Nat.le_of_ble_eq_true (by kernel_rfl)) (by kernel_rfl) (F256_eq a0 a1 w R ▸ h)

/-- spec.l03Reads -/
def F253 (a0 a1 : Value) (w : World) (R : Value → World → Prop) : Prop :=
  OP Tryz.prog (Instr.box 133 a0) w fun x2 w =>
  RD Tryz.prog (Instr.fieldAt 133 x2 0) w fun x7 =>
  RD Tryz.prog (Instr.loadAt 3 x7) w fun x8 =>
  RD Tryz.prog (bin .eql 3 (.tmp 0) (.const undef) x8 (Value.int .i64 2)) w fun x9 =>
  BR x9
   (LOOPI [5] [(Value.int .i64 0)] w fun u3 w next3 =>
    RD Tryz.prog (Builtin.len_ #[22] 3 [a1].toArray) w fun x12 =>
    RD Tryz.prog (bin .lss 3 (.tmp 0) (.tmp 0) (u3 5) x12) w fun x13 =>
    BR x13
     ((fun w => RD Tryz.prog (Instr.indexAt 22 a1 (u3 5)) w fun x18 =>
     RD Tryz.prog (Instr.loadAt 9 x18) w fun x19 =>
     RD Tryz.prog (Instr.fieldAt 133 x2 2) w fun x20 =>
     RD Tryz.prog (Instr.loadAt 9 x20) w fun x21 =>
     RD Tryz.prog (bin .eql 9 (.tmp 0) (.tmp 0) x19 x21) w fun x22 =>
     BR x22
      (R a1 w)
      (RD Tryz.prog (bin .add 3 (.tmp 0) (.const undef) (u3 5) (Value.int .i64 1)) w fun x15 =>
      next3 [x15] w)) (World.drew1 w))
     (RD Tryz.prog (Instr.fieldAt 133 x2 2) w fun x25 =>
     RD Tryz.prog (Instr.loadAt 9 x25) w fun x26 =>
     OP Tryz.prog (Instr.buildSlice 22 1 #[(0, x26)]) w fun x27 w =>
     OP Tryz.prog (Builtin.append_ #[22, 22] 22 [a1, x27].toArray) w fun x28 w =>
     R x28 w))
   (LOOPI [1, 6] [a1, (Value.int .i64 0)] w fun u9 w next9 =>
    RD Tryz.prog (Instr.fieldAt 133 x2 3) w fun x30 =>
    RD Tryz.prog (Instr.loadAt 131 x30) w fun x31 =>
    RD Tryz.prog (Builtin.len_ #[131] 3 [x31].toArray) w fun x32 =>
    RD Tryz.prog (bin .lss 3 (.tmp 0) (.tmp 0) (u9 6) x32) w fun x33 =>
    BR x33
     (RD Tryz.prog (Instr.fieldAt 133 x2 3) w fun x36 =>
     RD Tryz.prog (Instr.loadAt 131 x36) w fun x37 =>
     RD Tryz.prog (Instr.indexAt 131 x37 (u9 6)) w fun x39 =>
     RD Tryz.prog (Instr.loadAt 133 x39) w fun x40 =>
     CALL Tryz.prog 253 [x40, (u9 1)] w fun x42 w =>
     RD Tryz.prog (bin .add 3 (.tmp 0) (.const undef) (u9 6) (Value.int .i64 1)) w fun x35 =>
     next9 [x42, x35] w)
     (R (u9 1) w))
def cfg253 : Cfg := { ext := extL, joins := [], loops := [(3, 16776240, [5]), (9, 8795556151362, [1, 6])], draws := [(5, [0, 1, 2, 3, 4, 5, 6], 0)], pars := [] }
theorem F253_eq (a0 a1 : Value) (w : World) (R : Value → World → Prop) : vcF Tryz.prog cfg253 Tryz.f253 [a0, a1] w R = F253 a0 a1 w R := by kernel_rfl
theorem F253_call {a0 a1 : Value} {w : World} {R : Value → World → Prop} (h : F253 a0 a1 w R) : CALL Tryz.prog 253 [a0, a1] w R :=
  call_of (g := cfg253) ent mixed Tryz.func253 (Nat.le_of_ble_eq_true (by kernel_rfl)) (by kernel_rfl) (F253_eq a0 a1 w R ▸ h)

/-- impl.ReadsOf -/
def F211 (a0 : Value) (w : World) (R : Value → World → Prop) : Prop :=
  OP Tryz.prog (Instr.box 133 a0) w fun x1 w =>
  RD Tryz.prog (Instr.loadAt 133 x1) w fun x3 =>
  CALL Tryz.prog 210 [x3] w fun x4 w =>
  RD Tryz.prog (Op.unary .not x4) w fun x5 =>
  BR x5
   (R (Value.slice none 0 0) w)
   (RD Tryz.prog (Instr.loadAt 133 x1) w fun x6 =>
   CALL Tryz.prog 256 [(Value.slice none 0 0), x6] w fun x7 w =>
   R x7 w)
def cfg211 : Cfg := { ext := extL, joins := [], loops := [], draws := [], pars := [] }
theorem F211_eq (a0 : Value) (w : World) (R : Value → World → Prop) : vcF Tryz.prog cfg211 Tryz.f211 [a0] w R = F211 a0 w R := by kernel_rfl
theorem F211_call {a0 : Value} {w : World} {R : Value → World → Prop} (h : F211 a0 w R) : CALL Tryz.prog 211 [a0] w R :=
  call_of (g := cfg211) ent mixed Tryz.func211 (Nat.le_of_ble_eq_true (by kernel_rfl)) (by kernel_rfl) (F211_eq a0 w R ▸ h)

/-- spec.ReadsOf -/
def F203 (a0 : Value) (w : World) (R : Value → World → Prop) : Prop :=
  OP Tryz.prog (Instr.box 133 a0) w fun x1 w =>
  RD Tryz.prog (Instr.loadAt 133 x1) w fun x3 =>
  CALL Tryz.prog 192 [x3] w fun x4 w =>
  RD Tryz.prog (Op.unary .not x4) w fun x5 =>
  BR x5
   (OP Tryz.prog (Instr.buildSlice 22 0 #[]) w fun x6 w =>
   R x6 w)
   (RD Tryz.prog (Instr.loadAt 133 x1) w fun x7 =>
   OP Tryz.prog (Instr.buildSlice 22 0 #[]) w fun x8 w =>
   CALL Tryz.prog 253 [x7, x8] w fun x9 w =>
   R x9 w)
def cfg203 : Cfg := { ext := extL, joins := [], loops := [], draws := [], pars := [] }
theorem F203_eq (a0 : Value) (w : World) (R : Value → World → Prop) : vcF Tryz.prog cfg203 Tryz.f203 [a0] w R = F203 a0 w R := by kernel_rfl
theorem F203_call {a0 : Value} {w : World} {R : Value → World → Prop} (h : F203 a0 w R) : CALL Tryz.prog 203 [a0] w R :=
  call_of (g := cfg203) ent mixed Tryz.func203 (Nat.le_of_ble_eq_true (by kernel_rfl)) (by kernel_rfl) (F203_eq a0 w R ▸ h)

set_option linter.unusedVariables false
set_option linter.unusedSimpArgs false

def add1 (l : List ByteArray) (s : ByteArray) : List ByteArray := if s ∈ l then l else l ++ [s]
theorem add1_len (l : List ByteArray) (s : ByteArray) : (add1 l s).length ≤ l.length + 1 := by unfold add1; split <;> simp
def readsT : Nat → DTerm → List ByteArray → List ByteArray
  | n, t, l => if t.kind = 2 then add1 l t.name else match n with | 0 => l | m + 1 => t.kids.foldl (fun l k => readsT m k l) l
theorem readsT_def (n : Nat) (t : DTerm) (l : List ByteArray) : readsT n t l = if t.kind = 2 then add1 l t.name else match n with | 0 => l | m + 1 => t.kids.foldl (fun l k => readsT m k l) l := readsT.eq_def n t l
theorem foldl_take {α β : Type} (f : β → α → β) (b : β) {l : List α} {k : Nat} (hk : k < l.length) : (l.take (k + 1)).foldl f b = f ((l.take k).foldl f b) l[k] := by
  rw [List.take_succ_eq_append_getElem hk, List.foldl_append]; rfl
/-- the kids of a right term -/
theorem termOk_kids {n : Nat} {t : DTerm} (h : termOk n t = true) (h2 : ¬ t.kind = 2) : t.kids = [] ∨ ∃ m, n = m + 1 ∧ t.kids.length ≤ 2 ∧ ∀ k ∈ t.kids, termOk m k = true := by
  by_cases h1 : t.kind = 1
  · rw [termOk_1 h1] at h
    simp only [Bool.and_eq_true, decide_eq_true_eq] at h
    exact .inl (List.eq_nil_of_length_eq_zero (by omega))
  · rw [termOk_3 h1 h2] at h
    simp only [Bool.and_eq_true, decide_eq_true_eq] at h
    obtain ⟨⟨_, h3⟩, h4⟩ := h
    cases n with
    | zero => simp at h4
    | succ m =>
      refine .inr ⟨m, rfl, ?_, fun k hk => List.all_eq_true.1 h4 k hk⟩
      split at h3 <;> omega
theorem readsT_len : ∀ (n : Nat) (t : DTerm) (l : List ByteArray), termOk n t = true → (readsT n t l).length ≤ l.length + 2 ^ n
  | n, t, l, h => by
    rw [readsT_def]
    have hp : 1 ≤ 2 ^ n := Nat.one_le_two_pow
    split
    · have := add1_len l t.name; omega
    · rename_i h2
      rcases termOk_kids h h2 with hk | ⟨m, rfl, hk, hall⟩
      · cases n with
        | zero => simp
        | succ m => simp [hk]
      · show (t.kids.foldl (fun l k => readsT m k l) l).length ≤ _
        have key : ∀ (ks : List DTerm) (l : List ByteArray), (∀ k ∈ ks, termOk m k = true) → (ks.foldl (fun l k => readsT m k l) l).length ≤ l.length + ks.length * 2 ^ m := by
          intro ks
          induction ks with
          | nil => intro l _; simp
          | cons k ks ih =>
            intro l hks
            rw [List.foldl_cons, List.length_cons, Nat.add_mul, Nat.one_mul]
            have h1 := ih (readsT m k l) fun x hx => hks x (by simp [hx])
            have h2 := readsT_len m k l (hks k (by simp))
            omega
        have h1 := key t.kids l hall
        have h2 : t.kids.length * 2 ^ m ≤ 2 * 2 ^ m := Nat.mul_le_mul_right _ hk
        rw [Nat.pow_succ]; omega

/-- append(v, s) for a slice of names that is held by the blocks F -/
theorem op_pushS {w : World} {v : Value} {l : List ByteArray} {F : List Nat} {s : ByteArray} {ty : TypeId} {K : Value → World → Prop} (hr : RowF F 9 w v l) (hn : F.Nodup) (hs : s.size ≤ maxLen) (hl : l.length ≤ 1000000)
    (k : ∀ v' w', Chg F w w' → (∃ F', RowF F' 9 w' v' (l ++ [s]) ∧ F'.Nodup ∧ ∀ b ∈ F', b ∈ F ∨ w.heap.size ≤ b) → K v' w') :
    OP Tryz.prog (Instr.buildSlice 22 1 #[(0, .string s)]) w fun x w1 => OP Tryz.prog (Builtin.append_ #[22, 22] ty [v, x].toArray) w1 K := by
  refine op_build1 (α := ByteArray) (x := s) (F := []) u22 ty9 z9 (by decide) ⟨⟨_, ⟨rfl, rfl, hs⟩, rfl⟩, List.nodup_nil, Wr.nil _⟩ fun w1 hx1 hm1 => ?_
  obtain ⟨a, cap, Fi, xs, he, h1, h2, hc, h4⟩ := is_list hm1.is
  have hFi := Cells.flat (xs := xs) hc
  subst hFi
  refine op_append (α := ByteArray) (m := [s]) u22 ty9 zc9 (hr.ext hx1) hn he hc (.inr ?_) (Wr.nil _) (by simpa using hn) (by simp only [List.length_cons, List.length_nil, maxLen_eq]; omega) (by simp only [List.length_cons, List.length_nil]; omega) fun v' w' F' hch hfull hr' hn' hs' => ?_
  · rcases h4 with h4 | ⟨b, o, ha, hra, _⟩
    · simp at h4
    · exact ⟨b, o, ha, hra⟩
  · have hown : ∀ c ∈ v.ownBlock.toList, c ∈ F := fun c hc => by
      obtain ⟨xs, Fi, _, _, rfl, _⟩ := hr
      simp only [List.mem_append]; exact .inl hc
    refine k v' w' ((Ext.chg F hx1).trans (hch.mono hown)) ⟨F', hr', hn', fun b hb => ?_⟩
    rcases hs' b hb with h | h | h
    · exact .inl h
    · simp at h
    · exact .inr (Nat.le_trans hx1.size h)
theorem addOnce_ok {w : World} {v : Value} {l : List ByteArray} {F : List Nat} {s : ByteArray} (hr : RowF F 9 w v l) (hn : F.Nodup) (hs : s.size ≤ maxLen) (hl : l.length ≤ 1000000) :
    CALL Tryz.prog 283 [v, .string s] w fun r w' => Chg F w w' ∧ ∃ F', RowF F' 9 w' r (add1 l s) ∧ F'.Nodup ∧ ∀ b ∈ F', b ∈ F ∨ w.heap.size ≤ b := by
  refine F283_call ?_
  unfold F283
  refine (containsStr_ok hr.own.is (Ext.refl w)).mono ?_
  rintro _ w1 ⟨hx1, rfl⟩
  refine br (fun c1 => ?_) (fun c1 => ?_)
  · exact ⟨Ext.chg F hx1, F, by unfold add1; rw [if_pos c1]; exact hr.ext hx1, hn, fun b hb => .inl hb⟩
  · refine op_pushS (hr.ext hx1) hn hs hl fun v' w' hc ⟨F', h1, h2, h3⟩ => ⟨(Ext.chg F hx1).trans hc, F', by unfold add1; rw [if_neg c1]; exact h1, h2, fun b hb => ?_⟩
    rcases h3 b hb with h | h
    · exact .inl h
    · exact .inr (Nat.le_trans hx1.size h)
/-- what both functions say: the names behind those of the list -/
def RdsPost (F : List Nat) (w : World) (l : List ByteArray) (r : Value) (w' : World) : Prop := Chg F w w' ∧ ∃ F', RowF F' 9 w' r l ∧ F'.Nodup ∧ ∀ b ∈ F', b ∈ F ∨ w.heap.size ≤ b
def RdsI (n : Nat) : Prop := ∀ {w W : World} {v u : Value} {t : DTerm} {l : List ByteArray} {F : List Nat}, Is W v t → Ext W w → RowF F 9 w u l → F.Nodup → (∀ b ∈ F, W.heap.size ≤ b) → termOk n t = true → l.length + 2 ^ n ≤ 1000 →
  CALL Tryz.prog 256 [u, v] w (RdsPost F w (readsT n t l))
def RdsS (n : Nat) : Prop := ∀ {w W : World} {v u : Value} {t : DTerm} {l : List ByteArray} {F : List Nat}, Is W v t → Ext W w → RowF F 9 w u l → F.Nodup → (∀ b ∈ F, W.heap.size ≤ b) → termOk n t = true → l.length + 2 ^ n ≤ 1000 →
  CALL Tryz.prog 253 [v, u] w (RdsPost F w (readsT n t l))
theorem readsT_2 {n : Nat} {t : DTerm} {l : List ByteArray} (h : t.kind = 2) : readsT n t l = add1 l t.name := by rw [readsT_def, if_pos h]
theorem readsT_kids {n : Nat} {t : DTerm} {l : List ByteArray} (h : termOk n t = true) (h2 : ¬ t.kind = 2) (hl : l.length + 2 ^ n ≤ 1000) :
    ∃ m, (t.kids = [] ∨ n = m + 1) ∧ readsT n t l = t.kids.foldl (fun l k => readsT m k l) l ∧ (∀ k ∈ t.kids, termOk m k = true) ∧ ∀ k, k < t.kids.length → ((t.kids.take k).foldl (fun l k => readsT m k l) l).length + 2 ^ m ≤ 1000 := by
  rcases termOk_kids h h2 with hk | ⟨m, rfl, hk, hall⟩
  · refine ⟨0, .inl hk, ?_, by simp [hk], by simp [hk]⟩
    rw [readsT_def, if_neg h2, hk]
    cases n <;> rfl
  · refine ⟨m, .inr rfl, by rw [readsT_def, if_neg h2], hall, fun k hkl => ?_⟩
    rw [Nat.pow_succ] at hl
    have key : ∀ (ks : List DTerm) (l : List ByteArray), (∀ k ∈ ks, termOk m k = true) → (ks.foldl (fun l k => readsT m k l) l).length ≤ l.length + ks.length * 2 ^ m := by
      intro ks
      induction ks with
      | nil => intro l _; simp
      | cons k ks ih =>
        intro l hks
        rw [List.foldl_cons, List.length_cons, Nat.add_mul, Nat.one_mul]
        have h1 := ih (readsT m k l) fun x hx => hks x (by simp [hx])
        have h2 := readsT_len m k l (hks k (by simp))
        omega
    have h1 := key (t.kids.take k) l fun x hx => hall x (List.mem_of_mem_take hx)
    have h3 : (t.kids.take k).length ≤ 1 := by simp; omega
    have h4 : (t.kids.take k).length * 2 ^ m ≤ 1 * 2 ^ m := Nat.mul_le_mul_right _ h3
    omega
theorem atB_kids {W w : World} {b o : Nat} {t : DTerm} (h : AtB W w b o t) : AtB W w b (o + 3) t.kids := by
  have h' : AtB W w b o t.tup := by obtain ⟨F, cs, hr, ha⟩ := h; exact ⟨F, cs, rep_tup.1 hr, ha⟩
  exact h'.snd.snd.snd
theorem addReads_step {n : Nat} (ih : ∀ m, m + 1 = n → RdsI m) : RdsI n := by
  intro w W v u t l F h e hr hn hF ht hl
  refine F256_call ?_
  unfold F256
  refine op_boxS ty133 rfl h e fun w1 hx1 hA hV => ?_
  refine rd_fld fd133_0 ?_
  refine rd_loadI ty3 (at_DTerm_0 hA) (Ext.refl w1) fun _ => ?_
  refine rd_eql ?_
  refine br (fun c1 => ?_) (fun c1 => ?_)
  · refine rd_fld fd133_2 ?_
    refine rd_loadS ty9 (at_DTerm_2 hA) (Ext.refl w1) fun hS => ?_
    have hp : 1 ≤ 2 ^ n := Nat.one_le_two_pow
    refine (addOnce_ok (hr.ext hx1) hn hS (by omega)).mono ?_
    rintro r w2 ⟨hc, F', h1, h2, h3⟩
    refine ⟨(Ext.chg F hx1).trans hc, F', by rw [readsT_2 c1]; exact h1, h2, fun b hb => ?_⟩
    rcases h3 b hb with h | h
    · exact .inl h
    · exact .inr (Nat.le_trans hx1.size h)
  · obtain ⟨m, hm, he, hks, hlen⟩ := readsT_kids ht c1 hl
    refine rd_fld fd133_3 ?_
    refine rd_loadAB ty131 (atB_kids (atB_box h hV rfl)) (e.trans hx1) (Ext.refl w1) fun v15 h15 => ?_
    refine rd_len u131 h15 ?_
    have hll := is_len h15
    refine loopC t.kids.length (fun k us w' => ∃ q, us = [q, .int .i64 (k : Int)] ∧ RdsPost F w ((t.kids.take k).foldl (fun l k => readsT m k l) l) q w') 0 (Nat.zero_le _) ⟨u, rfl, Ext.chg F hx1, F, by simpa using hr.ext hx1, hn, fun b hb => .inl hb⟩ ?_
    rintro k mm uu w2 hkm ⟨q, hu, hc2, F2, hr2, hn2, hs2⟩
    simp only [List.map_cons, List.map_nil, List.cons.injEq, and_true] at hu
    obtain ⟨hu0, hu1⟩ := hu
    try rw [hu0]
    try rw [hu1]
    have hF2 : ∀ b ∈ F2, W.heap.size ≤ b := fun b hb => by
      rcases hs2 b hb with h | h
      · exact hF b h
      · exact Nat.le_trans e.size h
    have hxW : Ext W w2 := e.chg_trans hc2 hF
    refine rd_lss ?_
    refine br (fun c2 => ?_) (fun c2 => ?_)
    · have hk : k < t.kids.length := by omega
      obtain ⟨m', rfl⟩ : ∃ m', n = m' + 1 := by
        rcases hm with h | h
        · rw [h] at hk; simp at hk
        · exact ⟨m, h⟩
      have hmm : m' = m := by
        rcases hm with h | h
        · rw [h] at hk; simp at hk
        · omega
      subst hmm
      refine rd_indexN u131 ty133 h15 hk fun b o hA2 => ?_
      refine rd_load ty133 hA2 hxW fun v20 h20 => ?_
      refine op_var zl133 rfl ty133 rfl h20 hxW fun w3 hx3 hA3 hV3 => ?_
      refine rd_var hV3 (Ext.refl w3) ?_
      refine (ih m' rfl h20 (hxW.trans hx3) (hr2.ext hx3) hn2 hF2 (hks _ (List.getElem_mem hk)) (hlen k hk)).mono ?_
      rintro r w4 ⟨hc4, F4, hr4, hn4, hs4⟩
      refine rd_inc (by omega) ?_
      refine ⟨mm - 1, by omega, k + 1, by omega, r, rfl, ?_⟩
      refine ⟨?_, F4, by rw [foldl_take _ _ hk]; exact hr4, hn4, fun b hb => ?_⟩
      · -- the blocks of F alone have turned
        refine ⟨hc4.os.trans (hx3.os.trans hc2.os), hc4.tape.trans (hx3.tape.trans hc2.tape), hc4.output.trans (hx3.output.trans hc2.output), Nat.le_trans hc2.size (Nat.le_trans hx3.size hc4.size), fun b hb hbF => ?_⟩
        have hb2 : b < w2.heap.size := Nat.lt_of_lt_of_le hb hc2.size
        have hbF2 : b ∉ F2 := fun hm => by
          rcases hs2 b hm with h | h
          · exact hbF h
          · omega
        rw [hc4.block b (Nat.lt_of_lt_of_le hb2 hx3.size) hbF2, hx3.heap hb2, hc2.block b hb hbF]
      · rcases hs4 b hb with h | h
        · exact hs2 b h
        · have := hx3.size; have := hc2.size; exact .inr (by omega)
    · rw [List.take_of_length_le (by omega), ← he] at hr2
      exact ⟨hc2, F2, hr2, hn2, hs2⟩
theorem addReads_ok : ∀ n, RdsI n
  | n => addReads_step fun m hm => addReads_ok m
termination_by n => n
decreasing_by omega
theorem l03Reads_step {n : Nat} (ih : ∀ m, m + 1 = n → RdsS m) : RdsS n := by
  intro w W v u t l F h e hr hn hF ht hl
  refine F253_call ?_
  unfold F253
  have hlen := is_len hr.own.is
  have hp : 1 ≤ 2 ^ n := Nat.one_le_two_pow
  refine op_boxS ty133 rfl h e fun w1 hx1 hA hV => ?_
  have hg1 : w.heap.size < w1.heap.size := hV.lt
  have hgF : w.heap.size ∉ F := fun hm => by have := hr.lt _ hm; omega
  refine rd_fld fd133_0 ?_
  refine rd_loadI ty3 (at_DTerm_0 hA) (Ext.refl w1) fun _ => ?_
  refine rd_eql ?_
  refine br (fun c1 => ?_) (fun c1 => ?_)
  · have hr1 := hr.ext hx1
    refine loopC l.length (fun k us w' => us = [.int .i64 (k : Int)] ∧ Ext w1 w' ∧ t.name ∉ l.take k) 0 (Nat.zero_le _) ⟨rfl, Ext.refl w1, by simp⟩ ?_
    rintro k mm uu w2 hkm ⟨hu, hx2, hinv⟩
    simp only [List.map_cons, List.map_nil, List.cons.injEq, and_true] at hu
    rw [hu]
    refine rd_len u22 hr1.own.is ?_
    refine rd_lss ?_
    refine br (fun c2 => ?_) (fun c2 => ?_)
    · have hk : k < l.length := by omega
      have hx3 := hx2.trans (ext_drew w2)
      refine rd_indexN u22 ty9 hr1.own.is hk fun b o hA2 => ?_
      refine rd_loadS ty9 hA2 hx3 fun _ => ?_
      refine rd_fld fd133_2 ?_
      refine rd_loadS ty9 (at_DTerm_2 hA) hx3 fun _ => ?_
      refine rd_eqlS ?_
      refine br (fun c3 => ?_) (fun c3 => ?_)
      · have hm : t.name ∈ l := c3 ▸ List.getElem_mem hk
        refine ⟨Ext.chg F (hx1.trans hx3), F, ?_, hn, fun b hb => .inl hb⟩
        rw [readsT_2 c1, add1, if_pos hm]
        exact hr1.ext hx3
      · refine rd_inc (by omega) ?_
        exact ⟨mm - 1, by omega, k + 1, by omega, rfl, hx3, mem_take_succS hk hinv c3⟩
    · rw [List.take_of_length_le (by omega)] at hinv
      have hx3 := hx2.trans (ext_drew w2)
      first
        | refine rd_fld fd133_2 ?_
        | skip
      refine rd_loadS ty9 (at_DTerm_2 hA) hx2 fun hS => ?_
      refine op_pushS (hr1.ext hx2) hn hS (by omega) fun v' w' hc ⟨F', h1, h2, h3⟩ => ?_
      refine ⟨(Ext.chg F (hx1.trans hx2)).trans hc, F', by rw [readsT_2 c1, add1, if_neg hinv]; exact h1, h2, fun b hb => ?_⟩
      rcases h3 b hb with h | h
      · exact .inl h
      · exact .inr (Nat.le_trans (hx1.trans hx2).size h)
  · obtain ⟨m, hm, he, hks, hlen⟩ := readsT_kids ht c1 hl
    refine loopC t.kids.length (fun k us w' => ∃ q, us = [q, .int .i64 (k : Int)] ∧ RdsPost F w1 ((t.kids.take k).foldl (fun l k => readsT m k l) l) q w') 0 (Nat.zero_le _) ⟨u, rfl, Chg.refl F w1, F, by simpa using hr.ext hx1, hn, fun b hb => .inl hb⟩ ?_
    rintro k mm uu w2 hkm ⟨q, hu, hc2, F2, hr2, hn2, hs2⟩
    simp only [List.map_cons, List.map_nil, List.cons.injEq, and_true] at hu
    obtain ⟨hu0, hu1⟩ := hu
    try rw [hu0]
    try rw [hu1]
    have hF2 : ∀ b ∈ F2, W.heap.size ≤ b := fun b hb => by
      rcases hs2 b hb with h | h
      · exact hF b h
      · have := e.size; have := hx1.size; omega
    have hxW : Ext W w2 := (e.trans hx1).chg_trans hc2 hF
    have hB2 : AtB W w2 w.heap.size 0 t := (atB_box h hV rfl).keep (hc2.block _ hg1 hgF)
    have hA2 := hB2.at hxW
    refine rd_fld fd133_3 ?_
    refine rd_load ty131 (at_DTerm_3 hA2) (Ext.refl w2) fun v31 h31 => ?_
    refine rd_len u131 h31 ?_
    have hll := is_len h31
    refine rd_lss ?_
    refine br (fun c2 => ?_) (fun c2 => ?_)
    · have hk : k < t.kids.length := by omega
      obtain ⟨m', rfl⟩ : ∃ m', n = m' + 1 := by
        rcases hm with h | h
        · rw [h] at hk; simp at hk
        · exact ⟨m, h⟩
      have hmm : m' = m := by
        rcases hm with h | h
        · rw [h] at hk; simp at hk
        · omega
      subst hmm
      refine rd_fld fd133_3 ?_
      refine rd_loadAB ty131 (atB_kids hB2) hxW (Ext.refl w2) fun v37 h37 => ?_
      refine rd_indexN u131 ty133 h37 hk fun b o hA3 => ?_
      refine rd_load ty133 hA3 hxW fun v40 h40 => ?_
      refine (ih m' rfl h40 hxW hr2 hn2 hF2 (hks _ (List.getElem_mem hk)) (hlen k hk)).mono ?_
      rintro r w4 ⟨hc4, F4, hr4, hn4, hs4⟩
      refine rd_inc (by omega) ?_
      refine ⟨mm - 1, by omega, k + 1, by omega, r, rfl, ?_⟩
      refine ⟨?_, F4, by rw [foldl_take _ _ hk]; exact hr4, hn4, fun b hb => ?_⟩
      · refine ⟨hc4.os.trans hc2.os, hc4.tape.trans hc2.tape, hc4.output.trans hc2.output, Nat.le_trans hc2.size hc4.size, fun b hb hbF => ?_⟩
        have hb2 : b < w2.heap.size := Nat.lt_of_lt_of_le hb hc2.size
        have hbF2 : b ∉ F2 := fun hm => by
          rcases hs2 b hm with h | h
          · exact hbF h
          · omega
        rw [hc4.block b hb2 hbF2, hc2.block b hb hbF]
      · rcases hs4 b hb with h | h
        · exact hs2 b h
        · have := hc2.size; exact .inr (by omega)
    · rw [List.take_of_length_le (by omega), ← he] at hr2
      refine ⟨(Ext.chg F hx1).trans hc2, F2, hr2, hn2, fun b hb => ?_⟩
      rcases hs2 b hb with h | h
      · exact .inl h
      · exact .inr (Nat.le_trans hx1.size h)
theorem l03Reads_ok : ∀ n, RdsS n
  | n => l03Reads_step fun m hm => l03Reads_ok m
termination_by n => n
decreasing_by omega
/-- the names that a right term reads -/
def readsOf (t : DTerm) : List ByteArray := if termOk 6 t = true then readsT 6 t [] else []
theorem readsOf_len (t : DTerm) : (readsOf t).length ≤ 64 := by
  unfold readsOf
  split
  · have := readsT_len 6 t [] (by assumption); simpa using this
  · simp
theorem rowF_nil {α : Type} [Rep α] (e : TypeId) (w : World) : RowF (α := α) [] e w (.slice none 0 0) [] := ⟨[], [], ⟨by simp, .inl ⟨rfl, rfl⟩⟩, ⟨rfl, rfl⟩, rfl, Wr.nil _⟩
theorem implReadsOf_ok {w W : World} {v : Value} {t : DTerm} (h : Is W v t) (e : Ext W w) : CALL Tryz.prog 211 [v] w fun r w' => Ext w w' ∧ Is w' r (readsOf t) := by
  refine F211_call ?_
  unfold F211
  refine op_boxS ty133 rfl h e fun w1 hx1 hA hV => ?_
  refine rd_var hV (Ext.refl w1) ?_
  refine (implTermOk_ok h (e.trans hx1)).mono ?_
  rintro _ w2 ⟨hx2, rfl⟩
  refine rd_not ?_
  refine br_b (fun c => ?_) (fun c => ?_)
  · refine ⟨hx1.trans hx2, ?_⟩
    unfold readsOf
    rw [if_neg (by simpa using c)]
    exact is_nil rfl
  · have c : termOk 6 t = true := by simpa using c
    refine rd_var hV hx2 ?_
    refine (addReads_ok 6 h ((e.trans hx1).trans hx2) (rowF_nil _ _) List.nodup_nil (by simp) c (by decide)).mono ?_
    rintro r w3 ⟨hc, F', hr, hn, hs⟩
    refine ⟨(hx1.trans hx2).trans (Chg.ext hc), ?_⟩
    unfold readsOf
    rw [if_pos c]
    exact hr.own.is
theorem specReadsOf_ok {w W : World} {v : Value} {t : DTerm} (h : Is W v t) (e : Ext W w) : CALL Tryz.prog 203 [v] w fun r w' => Ext w w' ∧ Is w' r (readsOf t) := by
  refine F203_call ?_
  unfold F203
  refine op_boxS ty133 rfl h e fun w1 hx1 hA hV => ?_
  refine rd_var hV (Ext.refl w1) ?_
  refine (specTermOk_ok h (e.trans hx1)).mono ?_
  rintro _ w2 ⟨hx2, rfl⟩
  refine rd_not ?_
  refine br_b (fun c => ?_) (fun c => ?_)
  · refine op_build0 (α := ByteArray) u22 ty9 fun a w3 hx3 hr3 => ?_
    refine ⟨(hx1.trans hx2).trans hx3, ?_⟩
    unfold readsOf
    rw [if_neg (by simpa using c)]
    exact hr3.is
  · have c : termOk 6 t = true := by simpa using c
    refine rd_var hV hx2 ?_
    refine op_build0 (α := ByteArray) u22 ty9 fun a w3 hx3 hr3 => ?_
    obtain ⟨F, hr, hn, hl⟩ := hr3
    have hx13 := (hx1.trans hx2)
    refine (l03Reads_ok 6 h ((e.trans hx13).trans hx3) hr hn (fun b hb => Nat.le_trans (e.trans hx13).size (hl b hb)) c (by decide)).mono ?_
    rintro r w4 ⟨hc, F', hr', hn', hs'⟩
    refine ⟨(hx13.trans hx3).chg_trans hc (fun b hb => Nat.le_trans hx13.size (hl b hb)), ?_⟩
    unfold readsOf
    rw [if_pos c]
    exact hr'.own.is
end Go.Proofs.YteephmhilnlkpaaGreat
