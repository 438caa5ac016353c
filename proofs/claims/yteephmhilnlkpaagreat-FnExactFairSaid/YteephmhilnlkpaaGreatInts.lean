/-
  The small functions over []int: copies, comparisons, marks.
-/
import Derived.Test.YteephmhilnlkpaaGreatFns0
import Derived.Test.YteephmhilnlkpaaGreatMem
namespace Go.Proofs.YteephmhilnlkpaaGreat
set_option linter.unusedVariables false
set_option linter.unusedSimpArgs false
open Go Go.Sh Go.Proofs
set_option linter.unusedVariables false
/-- laws.toIntS -/
def F42 (a0 : Value) (w : World) (R : Value → World → Prop) : Prop :=
  RD Tryz.prog (Builtin.len_ #[23] 3 [a0].toArray) w fun x6 =>
  OP Tryz.prog (Instr.makeSlice 23 x6 x6) w fun x7 w =>
  LOOPI [4] [(Value.int .i64 0)] w fun u3 w next3 =>
   RD Tryz.prog (Builtin.len_ #[23] 3 [a0].toArray) w fun x10 =>
   RD Tryz.prog (bin .lss 3 (.tmp 0) (.tmp 0) (u3 4) x10) w fun x11 =>
   BR x11
    (RD Tryz.prog (Instr.indexAt 23 a0 (u3 4)) w fun x18 =>
    RD Tryz.prog (Instr.loadAt 3 x18) w fun x19 =>
    RD Tryz.prog (Instr.indexAt 23 x7 (u3 4)) w fun x20 =>
    OPU Tryz.prog (Instr.storeAt 3 x20 x19) w fun w =>
    RD Tryz.prog (bin .add 3 (.tmp 0) (.const undef) (u3 4) (Value.int .i64 1)) w fun x13 =>
    next3 [x13] w)
    (R x7 w)
def cfg42 : Cfg := { ext := extL, joins := [], loops := [(3, 2096912, [4])], draws := [], pars := [] }
theorem F42_eq (a0 : Value) (w : World) (R : Value → World → Prop) : vcF Tryz.prog cfg42 Tryz.f42 [a0] w R = F42 a0 w R := by kernel_rfl
theorem F42_call {a0 : Value} {w : World} {R : Value → World → Prop} (h : F42 a0 w R) : CALL Tryz.prog 42 [a0] w R :=
  call_of (g := cfg42) ent mixed Tryz.func42 (Nat.le_of_ble_eq_true (by kernel_rfl)) (by kernel_rfl) (F42_eq a0 w R ▸ h)

/-- laws.eqIntS -/
def F32 (a0 a1 : Value) (w : World) (R : Value → World → Prop) : Prop :=
  RD Tryz.prog (Builtin.len_ #[23] 3 [a0].toArray) w fun x7 =>
  RD Tryz.prog (Builtin.len_ #[23] 3 [a1].toArray) w fun x9 =>
  RD Tryz.prog (bin .neq 3 (.tmp 0) (.tmp 0) x7 x9) w fun x10 =>
  BR x10
   (R (Value.bool false) w)
   (LOOPI [5] [(Value.int .i64 0)] w fun u4 w next4 =>
    RD Tryz.prog (Builtin.len_ #[23] 3 [a0].toArray) w fun x13 =>
    RD Tryz.prog (bin .lss 3 (.tmp 0) (.tmp 0) (u4 5) x13) w fun x14 =>
    BR x14
     ((fun w => RD Tryz.prog (Instr.indexAt 23 a0 (u4 5)) w fun x19 =>
     RD Tryz.prog (Instr.loadAt 3 x19) w fun x20 =>
     RD Tryz.prog (Instr.indexAt 23 a1 (u4 5)) w fun x23 =>
     RD Tryz.prog (Instr.loadAt 3 x23) w fun x24 =>
     RD Tryz.prog (bin .neq 3 (.tmp 0) (.tmp 0) x20 x24) w fun x25 =>
     BR x25
      (R (Value.bool false) w)
      (RD Tryz.prog (bin .add 3 (.tmp 0) (.const undef) (u4 5) (Value.int .i64 1)) w fun x16 =>
      next4 [x16] w)) (World.drew1 w))
     (R (Value.bool true) w))
def cfg32 : Cfg := { ext := extL, joins := [], loops := [(4, 67106864, [5])], draws := [(6, [0, 1, 2, 3, 4, 5, 6, 7, 8], 0)], pars := [] }
theorem F32_eq (a0 a1 : Value) (w : World) (R : Value → World → Prop) : vcF Tryz.prog cfg32 Tryz.f32 [a0, a1] w R = F32 a0 a1 w R := by kernel_rfl
theorem F32_call {a0 a1 : Value} {w : World} {R : Value → World → Prop} (h : F32 a0 a1 w R) : CALL Tryz.prog 32 [a0, a1] w R :=
  call_of (g := cfg32) ent mixed Tryz.func32 (Nat.le_of_ble_eq_true (by kernel_rfl)) (by kernel_rfl) (F32_eq a0 a1 w R ▸ h)

/-- laws.markIntS -/
def F33 (a0 a1 : Value) (w : World) (R : Value → World → Prop) : Prop :=
  LOOPI [1, 5] [a1, (Value.int .i64 0)] w fun u2 w next2 =>
   RD Tryz.prog (Builtin.len_ #[23] 3 [a0].toArray) w fun x8 =>
   RD Tryz.prog (bin .lss 3 (.tmp 0) (.tmp 0) (u2 5) x8) w fun x9 =>
   BR x9
    (RD Tryz.prog (Instr.indexAt 23 a0 (u2 5)) w fun x15 =>
    OPU Tryz.prog (Instr.storeAt 3 x15 (u2 1)) w fun w =>
    RD Tryz.prog (bin .add 3 (.tmp 0) (.const undef) (u2 1) (Value.int .i64 1)) w fun x17 =>
    RD Tryz.prog (bin .add 3 (.tmp 0) (.const undef) (u2 5) (Value.int .i64 1)) w fun x11 =>
    next2 [x17, x11] w)
    (R (u2 1) w)
def cfg33 : Cfg := { ext := extL, joins := [], loops := [(2, 262114, [1, 5])], draws := [], pars := [] }
theorem F33_eq (a0 a1 : Value) (w : World) (R : Value → World → Prop) : vcF Tryz.prog cfg33 Tryz.f33 [a0, a1] w R = F33 a0 a1 w R := by kernel_rfl
theorem F33_call {a0 a1 : Value} {w : World} {R : Value → World → Prop} (h : F33 a0 a1 w R) : CALL Tryz.prog 33 [a0, a1] w R :=
  call_of (g := cfg33) ent mixed Tryz.func33 (Nat.le_of_ble_eq_true (by kernel_rfl)) (by kernel_rfl) (F33_eq a0 a1 w R ▸ h)

/-- laws.heldIntS -/
def F34 (a0 a1 : Value) (w : World) (R : Value → World → Prop) : Prop :=
  LOOPI [1, 5] [a1, (Value.int .i64 0)] w fun u2 w next2 =>
   RD Tryz.prog (Builtin.len_ #[23] 3 [a0].toArray) w fun x8 =>
   RD Tryz.prog (bin .lss 3 (.tmp 0) (.tmp 0) (u2 5) x8) w fun x9 =>
   BR x9
    (RD Tryz.prog (Instr.indexAt 23 a0 (u2 5)) w fun x14 =>
    RD Tryz.prog (Instr.loadAt 3 x14) w fun x15 =>
    RD Tryz.prog (bin .neq 3 (.tmp 0) (.tmp 0) x15 (u2 1)) w fun x17 =>
    BR x17
     (R (Value.int .i64 (-1)) w)
     (RD Tryz.prog (bin .add 3 (.tmp 0) (.const undef) (u2 1) (Value.int .i64 1)) w fun x19 =>
     RD Tryz.prog (bin .add 3 (.tmp 0) (.const undef) (u2 5) (Value.int .i64 1)) w fun x11 =>
     next2 [x19, x11] w))
    (R (u2 1) w)
def cfg34 : Cfg := { ext := extL, joins := [], loops := [(2, 1048562, [1, 5])], draws := [], pars := [] }
theorem F34_eq (a0 a1 : Value) (w : World) (R : Value → World → Prop) : vcF Tryz.prog cfg34 Tryz.f34 [a0, a1] w R = F34 a0 a1 w R := by kernel_rfl
theorem F34_call {a0 a1 : Value} {w : World} {R : Value → World → Prop} (h : F34 a0 a1 w R) : CALL Tryz.prog 34 [a0, a1] w R :=
  call_of (g := cfg34) ent mixed Tryz.func34 (Nat.le_of_ble_eq_true (by kernel_rfl)) (by kernel_rfl) (F34_eq a0 a1 w R ▸ h)

/-- slices.Clone[[]int,int] -/
def F126 (a0 : Value) (w : World) (R : Value → World → Prop) : Prop :=
  RD Tryz.prog (bin .eql 23 (.tmp 0) (.const undef) a0 (Value.slice none 0 0)) w fun x4 =>
  BR x4
   (R (Value.slice none 0 0) w)
   (OP Tryz.prog (Instr.buildSlice 23 0 #[]) w fun x5 w =>
   OP Tryz.prog (Builtin.append_ #[23, 23] 23 [x5, a0].toArray) w fun x7 w =>
   R x7 w)
def cfg126 : Cfg := { ext := extL, joins := [], loops := [], draws := [], pars := [] }
theorem F126_eq (a0 : Value) (w : World) (R : Value → World → Prop) : vcF Tryz.prog cfg126 Tryz.f126 [a0] w R = F126 a0 w R := by kernel_rfl
theorem F126_call {a0 : Value} {w : World} {R : Value → World → Prop} (h : F126 a0 w R) : CALL Tryz.prog 126 [a0] w R :=
  call_of (g := cfg126) ent mixed Tryz.func126 (Nat.le_of_ble_eq_true (by kernel_rfl)) (by kernel_rfl) (F126_eq a0 w R ▸ h)


theorem tyInt : tyI Tryz.prog 3 = some (1, 8, false) := by kernel_rfl
theorem zInt : zeroOf Tryz.prog 3 = true := by kernel_rfl
theorem zcInt : (Tryz.prog.info? 3).map (fun i => (i.zero.map (·.cells.size))) = some (some 1) := by kernel_rfl
theorem uInts : Tryz.prog.underlying 23 = some (.slice 3) := by kernel_rfl

theorem own_int {w : World} {x : Int} (h : I64 x) : Mine [] w (.int .i64 x) x := ⟨⟨_, ⟨rfl, rfl, h⟩, rfl⟩, List.nodup_nil, Wr.nil w⟩

theorem toIntS_ok {w : World} {v : Value} {l : List Int} (h : Is w v l) (hn : l.length ≤ 1048576) :
    CALL Tryz.prog 42 [v] w fun r w' => Ext w w' ∧ Own w.heap.size w' r l := by
  refine F42_call ?_
  unfold F42
  refine rd_len uInts h ?_
  refine op_make (α := Int) uInts tyInt zInt (by omega) (by omega) fun w1 hx1 hf => ?_
  refine loopC l.length (fun k us w' => us = [.int .i64 (k : Int)] ∧ Ext w w' ∧ Fill w.heap.size 3 l.length [] w' (l.take k)) 0 (Nat.zero_le _) ⟨rfl, hx1, by simpa using hf⟩ ?_
  rintro k m u w2 hkm ⟨hu, hx2, hf2⟩
  simp only [List.map_cons, List.map_nil, List.cons.injEq, and_true] at hu
  rw [hu]
  refine rd_len uInts h ?_
  refine rd_lss ?_
  refine br (fun hlt => ?_) (fun hge => ?_)
  · have hk : k < l.length := by omega
    refine rd_indexN uInts tyInt h hk fun b o hA => ?_
    refine rd_loadI tyInt hA hx2 fun hI => ?_
    refine rd_indexG uInts tyInt hk ?_
    refine opu_fill (α := Int) tyInt hf2 (by simp [Rep.size]; omega) (by simp; omega) (own_int hI) (by simp) fun w3 hc3 hf3 => ?_
    refine rd_inc (by have := is_len h; omega) ?_
    refine ⟨m - 1, by omega, k + 1, by omega, rfl, hx2.chg_trans hc3 (by simp), ?_⟩
    rw [List.take_succ_eq_append_getElem hk]
    simpa using hf3
  · have hk : k = l.length := by omega
    subst hk
    rw [List.take_length] at hf2
    exact ⟨hx2, _, hf2.own rfl (by rw [maxLen_eq]; omega), by simp⟩

theorem eqIntS_ok {w w1 w2 : World} {v1 v2 : Value} {l1 l2 : List Int} (h1 : Is w1 v1 l1) (h2 : Is w2 v2 l2) (hx1 : Ext w1 w) (hx2 : Ext w2 w) :
    CALL Tryz.prog 32 [v1, v2] w fun r w' => Ext w w' ∧ r = .bool (decide (l1 = l2)) := by
  refine F32_call ?_
  unfold F32
  refine rd_len uInts h1 ?_
  refine rd_len uInts h2 ?_
  refine rd_neq ?_
  refine br (fun hne => ?_) (fun heq => ?_)
  · refine ⟨Ext.refl w, ?_⟩
    have : l1 ≠ l2 := fun e => hne (by rw [e])
    simp [this]
  · have hl : l1.length = l2.length := by omega
    refine loopC l1.length (fun k us w' => us = [.int .i64 (k : Int)] ∧ Ext w w' ∧ l1.take k = l2.take k) 0 (Nat.zero_le _) ⟨rfl, Ext.refl w, by simp⟩ ?_
    rintro k m u w3 hkm ⟨hu, hx3, heq3⟩
    simp only [List.map_cons, List.map_nil, List.cons.injEq, and_true] at hu
    rw [hu]
    refine rd_len uInts h1 ?_
    refine rd_lss ?_
    refine br (fun hlt => ?_) (fun hge => ?_)
    · have hk : k < l1.length := by omega
      have hk2 : k < l2.length := by omega
      have hx4 := hx3.trans (ext_drew w3)
      refine rd_indexN uInts tyInt h1 hk fun b o hA => ?_
      refine rd_loadI tyInt hA (hx1.trans hx4) fun hI => ?_
      refine rd_indexN uInts tyInt h2 hk2 fun b o hA => ?_
      refine rd_loadI tyInt hA (hx2.trans hx4) fun hI => ?_
      refine rd_neq ?_
      refine br (fun hne => ?_) (fun he => ?_)
      · refine ⟨hx4, ?_⟩
        have : l1 ≠ l2 := fun e => hne (by subst e; rfl)
        simp [this]
      · refine rd_inc (by have := is_len h1; omega) ?_
        refine ⟨m - 1, by omega, k + 1, by omega, rfl, hx4, ?_⟩
        rw [List.take_succ_eq_append_getElem hk, List.take_succ_eq_append_getElem hk2, heq3, Decidable.not_not.1 he]
    · refine ⟨hx3, ?_⟩
      have hk : l1.length ≤ k := by omega
      rw [List.take_of_length_le hk, List.take_of_length_le (by omega)] at heq3
      simp [heq3]
/-- k, k + 1, .. -/
def cnt (k : Int) (n : Nat) : List Int := (List.range n).map fun i : Nat => k + (i : Int)
theorem cnt_len (k : Int) (n : Nat) : (cnt k n).length = n := by simp [cnt]
theorem cnt_succ (k : Int) (n : Nat) : cnt k (n + 1) = cnt k n ++ [k + n] := by simp [cnt, List.range_succ]
theorem markIntS_ok {w : World} {F : List Nat} {v : Value} {l : List Int} {k : Int} (h : Mine F w v l) (hn : l.length ≤ 1073741824) (hk0 : 0 ≤ k) (hk1 : k ≤ 4611686018427387904) :
    CALL Tryz.prog 33 [v, .int .i64 k] w fun r w' => r = .int .i64 (k + l.length) ∧ Chg F w w' ∧ Mine F w' v (cnt k l.length) := by
  refine F33_call ?_
  unfold F33
  refine loopC l.length (fun i us w' => us = [.int .i64 (k + i), .int .i64 (i : Int)] ∧ Chg F w w' ∧ Mine F w' v (cnt k i ++ l.drop i)) 0 (Nat.zero_le _) ⟨by simp, Chg.refl _ _, by simpa [cnt] using h⟩ ?_
  rintro i m u w2 hkm ⟨hu, hc2, hm2⟩
  simp only [List.map_cons, List.map_nil, List.cons.injEq, and_true] at hu
  obtain ⟨hu1, hu2⟩ := hu
  rw [hu1, hu2]
  have hlen : (cnt k i ++ l.drop i).length = l.length := by simp [cnt_len]; omega
  refine rd_len uInts hm2.is ?_
  rw [hlen]
  refine rd_lss ?_
  refine br (fun hlt => ?_) (fun hge => ?_)
  · have hi : i < l.length := by omega
    refine set_step (α := Int) uInts tyInt hm2 (by omega) (own_int (w := w2) (x := k + i) (by unfold I64; omega)).own fun w3 hc3 hm3 => ?_
    refine rd_add (by unfold I64; omega) ?_
    refine rd_inc (by omega) ?_
    refine ⟨m - 1, by omega, i + 1, by omega, by simp [Int.add_assoc], hc2.trans hc3, ?_⟩
    have : (cnt k i ++ l.drop i).set i (k + i) = cnt k (i + 1) ++ l.drop (i + 1) := by
      rw [List.drop_eq_getElem_cons hi, List.set_append_right _ _ (by simp [cnt_len]), cnt_len, Nat.sub_self, List.set_cons_zero, cnt_succ]
      simp
    rw [← this]; exact hm3
  · have : i = l.length := by omega
    subst this
    exact ⟨rfl, hc2, by simpa using hm2⟩
theorem heldIntS_ok {w w0 : World} {v : Value} {n : Nat} {k : Int} (h : Is w0 v (cnt k n)) (hx : Ext w0 w) (hn : n ≤ 1073741824) (hk0 : 0 ≤ k) (hk1 : k ≤ 4611686018427387904) :
    CALL Tryz.prog 34 [v, .int .i64 k] w fun r w' => r = .int .i64 (k + n) ∧ Ext w w' := by
  refine F34_call ?_
  unfold F34
  refine loopC n (fun i us w' => us = [.int .i64 (k + i), .int .i64 (i : Int)] ∧ Ext w w') 0 (Nat.zero_le _) ⟨by simp, Ext.refl w⟩ ?_
  rintro i m u w2 hkm ⟨hu, hx2⟩
  simp only [List.map_cons, List.map_nil, List.cons.injEq, and_true] at hu
  obtain ⟨hu1, hu2⟩ := hu
  rw [hu1, hu2]
  refine rd_len uInts h ?_
  rw [cnt_len]
  refine rd_lss ?_
  refine br (fun hlt => ?_) (fun hge => ?_)
  · have hi : i < n := by omega
    refine rd_indexN uInts tyInt h (by rw [cnt_len]; exact hi) fun b o hA => ?_
    refine rd_loadI tyInt hA (hx.trans hx2) fun hI => ?_
    refine rd_neq ?_
    have e : (cnt k n)[i]'(by rw [cnt_len]; exact hi) = k + i := by simp [cnt]
    rw [e]
    refine br (fun hne => absurd rfl hne) (fun _ => ?_)
    refine rd_add (by unfold I64; omega) ?_
    refine rd_inc (by omega) ?_
    exact ⟨m - 1, by omega, i + 1, by omega, by simp [Int.add_assoc], hx2⟩
  · have : i = n := by omega
    subst this
    exact ⟨rfl, hx2⟩
/-- slices.Clone: a nil stays nil; else new memory -/
theorem clone_ok {w w0 : World} {v : Value} {l : List Int} (h : Is w0 v l) (hx : Ext w0 w) (hn : l.length ≤ 1073741824) :
    CALL Tryz.prog 126 [v] w fun r w' => Ext w w' ∧ Own w.heap.size w' r l := by
  refine F126_call ?_
  unfold F126
  obtain ⟨a, cap, Fi, xs, rfl, h1, h2, hc, h4⟩ := is_list h
  refine rd_slice_nil uInts ?_
  refine br_b (fun hnil => ?_) (fun hnn => ?_)
  · have : l = [] := by
      rcases h4 with h4 | ⟨b, o, ha, _⟩
      · exact h4
      · subst ha; simp at hnil
    subst this
    exact ⟨Ext.refl w, own_nil rfl⟩
  · refine op_build0 (α := Int) uInts tyInt fun a1 w1 hx1 hr1 => ?_
    refine op_append_new uInts tyInt zcInt hr1 h (hx.trans hx1) hx1.size (by omega) fun v2 w2 hx2 hr2 => ?_
    exact ⟨hx1.trans hx2, hr2.own⟩
end Go.Proofs.YteephmhilnlkpaaGreat
