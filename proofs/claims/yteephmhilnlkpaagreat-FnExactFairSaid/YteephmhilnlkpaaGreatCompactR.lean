/-
  Races: copied, rid of what stands twice behind itself, cut to their length.
-/
import Derived.Test.YteephmhilnlkpaaGreatCompact
import Derived.Test.YteephmhilnlkpaaGreatEqR
import Derived.Test.YteephmhilnlkpaaGreatCopy
namespace Go.Proofs.YteephmhilnlkpaaGreat
open Go Go.Sh Go.Proofs
set_option linter.unusedVariables false
/-- slices.Compact[[]impl.Race,impl.Race] -/
def F239 (a0 : Value) (w : World) (R : Value → World → Prop) : Prop :=
  RD Tryz.prog (Builtin.len_ #[61] 3 [a0].toArray) w fun x7 =>
  RD Tryz.prog (bin .lss 3 (.tmp 0) (.const undef) x7 (Value.int .i64 2)) w fun x8 =>
  BR x8
   (R a0 w)
   (LOOPI [3] [(Value.int .i64 1)] w fun u4 w next4 =>
    RD Tryz.prog (Builtin.len_ #[61] 3 [a0].toArray) w fun x12 =>
    RD Tryz.prog (bin .lss 3 (.tmp 0) (.tmp 0) (u4 3) x12) w fun x13 =>
    BR x13
     ((fun w => RD Tryz.prog (Instr.indexAt 61 a0 (u4 3)) w fun x18 =>
     RD Tryz.prog (Instr.loadAt 117 x18) w fun x19 =>
     RD Tryz.prog (bin .sub 3 (.tmp 0) (.const undef) (u4 3) (Value.int .i64 1)) w fun x22 =>
     RD Tryz.prog (Instr.indexAt 61 a0 x22) w fun x23 =>
     RD Tryz.prog (Instr.loadAt 117 x23) w fun x24 =>
     RD Tryz.prog (bin .eql 117 (.tmp 0) (.tmp 0) x19 x24) w fun x25 =>
     BR x25
      (RD Tryz.prog (Instr.sliceAt 61 a0 (some (u4 3)) none none) w fun x28 =>
      LOOPI [3, 5] [(u4 3), (Value.int .i64 1)] w fun u9 w next9 =>
       RD Tryz.prog (Builtin.len_ #[61] 3 [x28].toArray) w fun x31 =>
       RD Tryz.prog (bin .lss 3 (.tmp 0) (.tmp 0) (u9 5) x31) w fun x32 =>
       BR x32
        ((fun w => RD Tryz.prog (Instr.indexAt 61 x28 (u9 5)) w fun x37 =>
        RD Tryz.prog (Instr.loadAt 117 x37) w fun x38 =>
        RD Tryz.prog (bin .sub 3 (.tmp 0) (.const undef) (u9 5) (Value.int .i64 1)) w fun x41 =>
        RD Tryz.prog (Instr.indexAt 61 x28 x41) w fun x42 =>
        RD Tryz.prog (Instr.loadAt 117 x42) w fun x43 =>
        RD Tryz.prog (bin .neq 117 (.tmp 0) (.tmp 0) x38 x43) w fun x44 =>
        BR x44
         (RD Tryz.prog (Instr.indexAt 61 x28 (u9 5)) w fun x49 =>
         RD Tryz.prog (Instr.loadAt 117 x49) w fun x50 =>
         RD Tryz.prog (Instr.indexAt 61 a0 (u9 3)) w fun x51 =>
         OPU Tryz.prog (Instr.storeAt 117 x51 x50) w fun w =>
         RD Tryz.prog (bin .add 3 (.tmp 0) (.const undef) (u9 3) (Value.int .i64 1)) w fun x53 =>
         RD Tryz.prog (bin .add 3 (.tmp 0) (.const undef) (u9 5) (Value.int .i64 1)) w fun x34 =>
         next9 [x53, x34] w)
         (RD Tryz.prog (bin .add 3 (.tmp 0) (.const undef) (u9 5) (Value.int .i64 1)) w fun x34 =>
         next9 [(u9 3), x34] w)) (World.drew1 w))
        (RD Tryz.prog (Instr.sliceAt 61 a0 (some (u9 3)) none none) w fun x56 =>
        OP Tryz.prog (Builtin.clear_ #[61] 0 [x56].toArray) w fun _ w =>
        RD Tryz.prog (Instr.sliceAt 61 a0 none (some (u9 3)) none) w fun x59 =>
        R x59 w))
      (RD Tryz.prog (bin .add 3 (.tmp 0) (.const undef) (u4 3) (Value.int .i64 1)) w fun x15 =>
      next4 [x15] w)) (World.drew1 w))
     (R a0 w))
def cfg239 : Cfg := { ext := extL, joins := [], loops := [(4, 1152921504606846012, [3]), (9, 18014397972611112, [3, 5])], draws := [(6, [0, 1, 2, 3, 4, 5, 6, 7, 8, 9], 0), (11, [0, 1, 2, 3, 4, 5, 6, 7, 8, 9], 0)], pars := [] }
theorem F239_eq (a0 : Value) (w : World) (R : Value → World → Prop) : vcF Tryz.prog cfg239 Tryz.f239 [a0] w R = F239 a0 w R := by kernel_rfl
theorem F239_call {a0 : Value} {w : World} {R : Value → World → Prop} (h : F239 a0 w R) : CALL Tryz.prog 239 [a0] w R :=
  call_of (g := cfg239) ent mixed Tryz.func239 (Nat.le_of_ble_eq_true (by kernel_rfl)) (by kernel_rfl) (F239_eq a0 w R ▸ h)

/-- slices.Clone[[]impl.Race,impl.Race] -/
def F235 (a0 : Value) (w : World) (R : Value → World → Prop) : Prop :=
  RD Tryz.prog (bin .eql 61 (.tmp 0) (.const undef) a0 (Value.slice none 0 0)) w fun x4 =>
  BR x4
   (R (Value.slice none 0 0) w)
   (OP Tryz.prog (Instr.buildSlice 61 0 #[]) w fun x5 w =>
   OP Tryz.prog (Builtin.append_ #[61, 61] 61 [x5, a0].toArray) w fun x7 w =>
   R x7 w)
def cfg235 : Cfg := { ext := extL, joins := [], loops := [], draws := [], pars := [] }
theorem F235_eq (a0 : Value) (w : World) (R : Value → World → Prop) : vcF Tryz.prog cfg235 Tryz.f235 [a0] w R = F235 a0 w R := by kernel_rfl
theorem F235_call {a0 : Value} {w : World} {R : Value → World → Prop} (h : F235 a0 w R) : CALL Tryz.prog 235 [a0] w R :=
  call_of (g := cfg235) ent mixed Tryz.func235 (Nat.le_of_ble_eq_true (by kernel_rfl)) (by kernel_rfl) (F235_eq a0 w R ▸ h)

/-- slices.Clip[[]impl.Race,impl.Race] -/
def F238 (a0 : Value) (w : World) (R : Value → World → Prop) : Prop :=
  RD Tryz.prog (Builtin.len_ #[61] 3 [a0].toArray) w fun x5 =>
  RD Tryz.prog (Builtin.len_ #[61] 3 [a0].toArray) w fun x7 =>
  RD Tryz.prog (Instr.sliceAt 61 a0 none (some x5) (some x7)) w fun x8 =>
  R x8 w
def cfg238 : Cfg := { ext := extL, joins := [], loops := [], draws := [], pars := [] }
theorem F238_eq (a0 : Value) (w : World) (R : Value → World → Prop) : vcF Tryz.prog cfg238 Tryz.f238 [a0] w R = F238 a0 w R := by kernel_rfl
theorem F238_call {a0 : Value} {w : World} {R : Value → World → Prop} (h : F238 a0 w R) : CALL Tryz.prog 238 [a0] w R :=
  call_of (g := cfg238) ent mixed Tryz.func238 (Nat.le_of_ble_eq_true (by kernel_rfl)) (by kernel_rfl) (F238_eq a0 w R ▸ h)

set_option linter.unusedVariables false
set_option linter.unusedSimpArgs false

theorem rd_idxC {P : Program} {w : World} {t e : TypeId} {b a n cap sz by_ k : Nat} {ag : Bool} {u : Value} {K : Value → Prop} (ht : P.underlying t = some (.slice e)) (he : tyI P e = some (sz, by_, ag)) (hu : u = .slice (some ⟨b, a, none⟩) n cap) (hk : k < n) (kk : K (.pointer (some ⟨b, a + k * sz, none⟩))) :
    RD P (Instr.indexAt t u (.int .i64 (k : Int))) w K := by
  subst hu
  exact rd_of (fun w' _ => by rw [run_indexAt' ht he (by omega) (by omega)]; simp) kk
instance : Flat DRace := ⟨fun h => by obtain ⟨F1, F2, c1, c2, rfl, rfl, ⟨rfl, _⟩, ⟨F3, F4, c3, c4, rfl, rfl, ⟨rfl, _⟩, ⟨rfl, _⟩⟩⟩ := h; rfl⟩
section
variable {α : Type} [DecidableEq α]
/-- what is left of a list behind x where of equal neighbours one alone stays -/
def ddg (x : α) : List α → List α
  | [] => []
  | y :: l => if y = x then ddg x l else y :: ddg y l
def ddp : List α → List α
  | [] => []
  | x :: l => x :: ddg x l
theorem ddg_snoc (y : α) : ∀ (l : List α) (x : α), ddg x (l ++ [y]) = if y = l.getLastD x then ddg x l else ddg x l ++ [y]
  | [], x => rfl
  | a :: l, x => by
    rw [List.cons_append, ddg, ddg, List.getLastD_cons]
    by_cases h : a = x
    · rw [if_pos h, if_pos h, ddg_snoc y l x, h]
    · rw [if_neg h, if_neg h, ddg_snoc y l a]
      split <;> rfl
theorem ddp_take {l : List α} {k : Nat} (h0 : 0 < k) (hk : k < l.length) : ddp (l.take (k + 1)) = if l[k] = l[k - 1] then ddp (l.take k) else ddp (l.take k) ++ [l[k]] := by
  rw [List.take_succ_eq_append_getElem hk]
  cases l with
  | nil => simp at hk
  | cons x l =>
    obtain ⟨j, rfl⟩ : ∃ j, k = j + 1 := ⟨k - 1, by omega⟩
    have hj : j < l.length := by simpa using hk
    have e : (l.take j).getLastD x = (x :: l)[j + 1 - 1] := by
      rw [List.getLastD_eq_getLast?, List.getLast?_eq_getElem?, List.length_take, Nat.min_eq_left (by omega)]
      cases j with
      | zero => simp
      | succ j => simp [List.getElem?_take]; rw [List.getElem?_eq_getElem (by omega)]; rfl
    rw [List.take_succ_cons, List.cons_append, ddp, ddp, ddg_snoc, e]
    split <;> rfl
end
theorem compact_ok {w : World} {lo hi : Nat} {v : Value} {l : List DRace} (h : OwnI lo hi w v l) (hn : l.length ≤ 1073741824) :
    CALL Tryz.prog 239 [v] w fun r w' => ChgI lo hi w w' ∧ OwnI lo hi w' r (ddp l) := by
  obtain ⟨F, hM, hF⟩ := h
  refine F239_call ?_
  unfold F239
  refine rd_len u61 hM.is ?_
  refine rd_lss ?_
  refine br (fun hlt => ?_) (fun hge => ?_)
  · refine ⟨ChgI.refl w, F, ?_, hF⟩
    have : ddp l = l := by
      match l, hlt with
      | [], _ => rfl
      | [x], _ => rfl
      | _ :: _ :: _, h => simp only [List.length_cons] at h; omega
    rw [this]; exact hM
  have hne : l ≠ [] := fun e => by rw [e] at hge; simp at hge
  obtain ⟨b, o, cap, xs, rfl, rfl, h1, h2, hcc, hrr, hww⟩ := mine_parts hM hne
  have hln := hM.is
  refine loopC l.length (fun k us w' => us = [.int .i64 (k : Int)] ∧ Ext w w' ∧ 1 ≤ k ∧ k ≤ l.length ∧ ddp (l.take k) = l.take k) 1 (by omega) ⟨rfl, Ext.refl w, Nat.le_refl _, by omega, ?_⟩ ?_
  · cases l with
    | nil => exact absurd rfl hne
    | cons x l => rfl
  rintro k0 mk u w1 hkm ⟨hu, hx1, hk1, hkl, hd0⟩
  simp only [List.map_cons, List.map_nil, List.cons.injEq, and_true] at hu
  rw [hu]
  refine rd_len u61 hln ?_
  refine rd_lss ?_
  refine br (fun hlt => ?_) (fun hge1 => ?_)
  case refine_2 =>
    have : k0 = l.length := by omega
    subst this
    rw [List.take_length] at hd0
    rw [hd0]
    exact ⟨hx1.toI, [b], hM.ext hx1, hF⟩
  have hk : k0 < l.length := by omega
  have hx2 := ext_drew w1
  have hx12 := hx1.trans hx2
  generalize World.drew1 w1 = w2 at *
  refine rd_indexN u61 ty117 hln hk fun b1 o1 hA1 => ?_
  refine rd_load ty117 hA1 hx12 fun v19 h19 => ?_
  refine rd_sub (by unfold I64; omega) ?_
  rw [show ((k0 : Int) - 1) = ((k0 - 1 : Nat) : Int) by omega]
  refine rd_indexN (i := k0 - 1) u61 ty117 hln (by omega) fun b2 o2 hA2 => ?_
  refine rd_load ty117 hA2 hx12 fun v24 h24 => ?_
  refine rd_eqlDRace h19 h24 ?_
  refine br (fun heq => ?_) (fun hneq => ?_)
  case refine_2 =>
    refine rd_inc (by omega) ?_
    refine ⟨mk - 1, by omega, k0 + 1, by omega, rfl, hx12, by omega, by omega, ?_⟩
    rw [ddp_take (by omega) hk, if_neg hneq, hd0, ← List.take_succ_eq_append_getElem hk]
  refine rd_dropF (α := DRace) u61 ty117 (by omega) h1 ?_
  rw [if_neg (by omega)]
  have e3 : Rep.size DRace = 3 := rfl
  rw [e3]
  refine loopC (l.length - k0) (fun k2 us w' => ∃ (k : Nat) (cur : List DRace), us = [.int .i64 (k : Int), .int .i64 (k2 : Int)] ∧ Chg [b] w w' ∧ Mine [b] w' (.slice (some ⟨b, o, none⟩) l.length cap) cur ∧ cur.length = l.length ∧ 1 ≤ k2 ∧ k2 ≤ l.length - k0 ∧ k0 ≤ k ∧ k + 1 ≤ k0 + k2 ∧
      cur.take k = ddp (l.take (k0 + k2)) ∧ ∀ j, k ≤ j → cur[j]? = l[j]?) 1 (by omega)
    ⟨k0, l, rfl, hx12.chg _, hM.ext hx12, rfl, Nat.le_refl _, by omega, Nat.le_refl _, by omega, by rw [ddp_take (by omega) hk, if_pos heq, hd0], fun _ _ => rfl⟩ ?_
  rintro k2 mk2 u9 w3 hkm2 ⟨k, cur, hu9, hc3, hm3, hl3, hk21, hk22, hk0, hkk, htk, hrest⟩
  simp only [List.map_cons, List.map_nil, List.cons.injEq, and_true] at hu9
  obtain ⟨hu91, hu92⟩ := hu9
  rw [hu91, hu92]
  refine rd_of (v := .int .i64 ((l.length - k0 : Nat) : Int)) (fun w' _ => by simp [Builtin.len_, run_underlying u61]; rfl) ?_
  refine rd_lss ?_
  refine br (fun hlt2 => ?_) (fun hge2 => ?_)
  · have hp : k0 + k2 < l.length := by omega
    have hx4 := ext_drew w3
    have hm4 := hm3.ext hx4
    have hc4 := hc3.trans (hx4.chg _)
    generalize World.drew1 w3 = w4 at *
    have hcne : cur ≠ [] := fun e => by rw [e] at hl3; simp at hl3; omega
    obtain ⟨b', o', cap', xs', hv', hb', _, _, hcc', hrr', hww'⟩ := mine_parts hm4 hcne
    simp only [Value.slice.injEq, Option.some.injEq, Addr.mk.injEq] at hv'
    obtain ⟨⟨rfl, rfl, _⟩, _, rfl⟩ := hv'
    have hat : ∀ i (hi : i < cur.length), At w4 b (o + i * 3) cur[i] := fun i hi => hcc'.at hrr' hi
    have hget : ∀ i (hi : i < l.length) (hki : k ≤ i), cur[i]'(by omega) = l[i] := fun i hi hki => by
      have := hrest i hki
      rw [List.getElem?_eq_getElem (by omega), List.getElem?_eq_getElem hi] at this
      exact Option.some.inj this
    have hA3 := hat (k0 + k2) (by omega)
    have hA4 := hat (k0 + k2 - 1) (by omega)
    rw [hget _ hp (by omega)] at hA3
    rw [hget _ (by omega) (by omega)] at hA4
    refine rd_idxC (k := k2) u61 ty117 rfl (by omega) ?_
    rw [show o + k0 * 3 + k2 * 3 = o + (k0 + k2) * 3 by omega]
    refine rd_load ty117 hA3 (Ext.refl _) fun v38 h38 => ?_
    refine rd_sub (by unfold I64; omega) ?_
    rw [show ((k2 : Int) - 1) = ((k2 - 1 : Nat) : Int) by omega]
    refine rd_idxC (k := k2 - 1) u61 ty117 rfl (by omega) ?_
    rw [show o + k0 * 3 + (k2 - 1) * 3 = o + (k0 + k2 - 1) * 3 by omega]
    refine rd_load ty117 hA4 (Ext.refl _) fun v43 h43 => ?_
    refine rd_neqDRace h38 h43 ?_
    have hdt := ddp_take (l := l) (k := k0 + k2) (by omega) hp
    refine br (fun hne2 => ?_) (fun heq2 => ?_)
    · refine rd_idxC (k := k2) u61 ty117 rfl (by omega) ?_
      rw [show o + k0 * 3 + k2 * 3 = o + (k0 + k2) * 3 by omega]
      refine rd_load ty117 hA3 (Ext.refl _) fun v50 h50 => ?_
      obtain ⟨F5, cs5, hr5, hv5⟩ := h50
      have hF5 := Flat.flat hr5
      subst hF5
      refine set_step (α := DRace) u61 ty117 hm4 (k := k) (by omega) ⟨cs5, hr5, hv5⟩ fun w5 hc5 hm5 => ?_
      refine rd_inc (by omega) ?_
      refine rd_inc (by omega) ?_
      refine ⟨mk2 - 1, by omega, k2 + 1, by omega, k + 1, _, rfl, hc4.trans hc5, hm5, by simp [hl3], by omega, by omega, by omega, by omega, ?_, fun j hj => ?_⟩
      · rw [show k0 + (k2 + 1) = k0 + k2 + 1 by omega, hdt, if_neg hne2, ← htk]
        rw [List.take_succ_eq_append_getElem (by simp; omega), List.getElem_set_self, List.take_set_of_le (Nat.le_refl _)]
      · rw [List.getElem?_set_ne (by omega)]
        exact hrest j (by omega)
    · have heq2 := Decidable.not_not.1 heq2
      refine rd_inc (by omega) ?_
      refine ⟨mk2 - 1, by omega, k2 + 1, by omega, k, cur, rfl, hc4, hm4, hl3, by omega, by omega, hk0, by omega, ?_, hrest⟩
      rw [show k0 + (k2 + 1) = k0 + k2 + 1 by omega, hdt, if_pos heq2, htk]
  · have hk2 : k0 + k2 = l.length := by omega
    rw [hk2, List.take_length] at htk
    refine rd_dropF (α := DRace) u61 ty117 (by omega) h1 ?_
    refine op_clearF (α := DRace) u61 zl117 hm3 hl3 (by omega) (by omega) h1 fun w5 hc5 hm5 => ?_
    refine rd_cutF (α := DRace) u61 ty117 (by omega) h1 ?_
    rw [htk] at hm5
    exact ⟨(hc3.trans hc5).toI hF, [b], hm5, hF⟩
theorem cloneR_ok {w W : World} {v : Value} {l : List DRace} (h : Is W v l) (e : Ext W w) (hn : l.length ≤ 1073741824) :
    CALL Tryz.prog 235 [v] w fun r w' => Ext w w' ∧ Own w.heap.size w' r l := by
  refine F235_call ?_
  unfold F235
  obtain ⟨a, cap, Fi, xs, rfl, h1, h2, h3, h4⟩ := is_list h
  refine rd_slice_nil u61 ?_
  refine br_b (fun hnil => ?_) (fun _ => ?_)
  · have : l = [] := by
      rcases h4 with h4 | ⟨b, o, rfl, _⟩
      · exact h4
      · simp at hnil
    subst this
    exact ⟨Ext.refl w, own_nil rfl⟩
  · refine op_build0I (α := DRace) u61 ty117 fun a5 w1 hx1 r5 => ?_
    have hs1 := hx1.size
    refine op_appendI (α := DRace) u61 ty117 zc117 r5 (Nat.le_refl _) h (e.trans hx1) (by rw [maxLen_eq]; simp; omega) (by simp; omega) fun v7 w2 hc2 r7 => ?_
    rw [List.nil_append] at r7
    exact ⟨Ext.chgI hx1 hc2 (by omega), r7.own.own.mono (by omega)⟩
theorem clipR_ok {w : World} {lo hi : Nat} {v : Value} {l : List DRace} (h : OwnI lo hi w v l) :
    CALL Tryz.prog 238 [v] w fun r w' => Ext w w' ∧ OwnI lo hi w' r l := by
  obtain ⟨F, hM, hF⟩ := h
  refine F238_call ?_
  unfold F238
  refine rd_len u61 hM.is ?_
  refine rd_len u61 hM.is ?_
  by_cases hne : l = []
  · subst hne
    obtain ⟨a, cap, Fi, xs, rfl, h1, h2, h3, h4⟩ := is_list hM.is
    refine rd_clipF (α := DRace) (k := 0) (j := 0) u61 ty117 (Nat.le_refl _) h1 fun a' _ => ⟨Ext.refl w, ownI_zcap a'⟩
  · obtain ⟨b, o, cap, xs, rfl, rfl, h1, h2, hc, hr, hw⟩ := mine_parts hM hne
    refine rd_clipF (α := DRace) (k := l.length) (j := l.length) u61 ty117 (Nat.le_refl _) h1 fun a' ha => ?_
    rw [ha (fun e => hne (List.eq_nil_of_length_eq_zero e))]
    exact ⟨Ext.refl w, [b], mine_of_parts (Nat.le_refl _) (by omega) hc hr hw, hF⟩
end Go.Proofs.YteephmhilnlkpaaGreat
