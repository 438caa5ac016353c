/-
  The states in which nobody can go: the program's and the reference's.
-/
import Derived.Test.YteephmhilnlkpaaGreatWays
namespace Go.Sh
set_option linter.unusedVariables false
set_option linter.unusedSimpArgs false
open Rep (rep)
instance : Flat Raw := ⟨fun h => h.1⟩
/-- the three cells of a state as they are -/
abbrev Raw3 := Raw × Raw × Raw
def raw3 (x : Raw3) : List Value := [x.1.v, x.2.1.v, x.2.2.v]
def raws (l : List Raw3) : List Value := l.flatMap raw3
section
variable {w w' : World} {e : Nat} {v : Value}
theorem cells_raws : ∀ {l : List Raw3} {F : List Nat} {xs : List Value}, Cells F w xs l → F = [] ∧ xs = raws l
  | [], _, _, ⟨rfl, rfl⟩ => ⟨rfl, rfl⟩
  | x :: l, _, _, ⟨F1, F2, c1, c2, rfl, rfl, h1, h2⟩ => by
    obtain ⟨rfl, rfl⟩ := cells_raws h2
    obtain ⟨G1, G2, d1, d2, rfl, rfl, ⟨rfl, rfl, _⟩, ⟨G3, G4, d3, d4, rfl, rfl, ⟨rfl, rfl, _⟩, ⟨rfl, rfl, _⟩⟩⟩ := h1
    exact ⟨rfl, rfl⟩
/-- a row of cells as they are, told by what they are -/
theorem raws_own {α : Type} [Rep α] (h3 : Rep.size α = 3) {lo hi : Nat} {l : List Raw3} {m : List α} {Fp : List Nat} (h : RowI lo hi e w v l) (hc : Cells Fp w (raws l) m) (hn : Fp.Nodup) (hw : Wr Fp w) (hd : ∀ b ∈ Fp, b < lo) {base : Nat} (hb : ∀ b ∈ Fp, base ≤ b) (hlo : base ≤ lo) : Own base w v m := by
  rcases h with ⟨a, rfl, rfl⟩ | ⟨F, ⟨xs, Fi, ho, hcc, rfl, hwi⟩, hnn, hF⟩
  · have hl := Cells.len hc
    rw [h3] at hl
    have : m = [] := List.eq_nil_of_length_eq_zero (by simp [raws] at hl; omega)
    subst this
    exact ⟨[], ⟨⟨_, ⟨a, 0, [], [], rfl, Nat.le_refl _, Nat.zero_le _, ⟨rfl, rfl⟩, .inl ⟨rfl, rfl⟩⟩, rfl⟩, List.nodup_nil, Wr.nil w⟩, by simp⟩
  · obtain ⟨rfl, rfl⟩ := cells_raws hcc
    have hl := Cells.len hc
    have hl2 := Cells.len hcc
    rw [h3] at hl
    have e3 : Rep.size Raw3 = 3 := rfl
    rw [e3] at hl2
    have hlen : l.length = m.length := by omega
    have ho' : w.ownsRow 0 e (Rep.size α) v m.length (raws l) := by rw [h3, ← hlen]; exact ho
    have hR : RowF (v.ownBlock.toList ++ Fp) e w v m := ⟨raws l, Fp, ho', hc, rfl, hw⟩
    rw [List.append_nil] at hF hnn
    refine ⟨_, ⟨hR.own, ?_, hR.wr⟩, fun b hb' => ?_⟩
    · rw [List.nodup_append]
      exact ⟨hnn, hn, fun a ha b hb' e => by have := hF a ha; have := hd b hb'; omega⟩
    · rcases List.mem_append.1 hb' with h | h
      · have := hF b h; omega
      · exact hb b h
end
end Go.Sh
namespace Go.Proofs.YteephmhilnlkpaaGreat
open Go Go.Sh Go.Proofs
set_option linter.unusedVariables false
/-- impl.EndsOf -/
def F36 (a0 a1 : Value) (w : World) (R : Value → World → Prop) : Prop :=
  OP Tryz.prog (Instr.box 37 a0) w fun x2 w =>
  RD Tryz.prog (Instr.loadAt 37 x2) w fun x11 =>
  CALL Tryz.prog 26 [x11, a1] w fun x13 w =>
  RD Tryz.prog (Instr.extract x13 0) w fun x14 =>
  RD Tryz.prog (Instr.extract x13 1) w fun x15 =>
  RD Tryz.prog (Builtin.len_ #[45] 3 [x14].toArray) w fun x17 =>
  LOOPI [7, 18] [(Value.slice none 0 0), (Value.int .i64 0)] w fun u4 w next4 =>
   RD Tryz.prog (bin .lss 3 (.tmp 0) (.tmp 0) (u4 18) x17) w fun x19 =>
   BR x19
    (RD Tryz.prog (Instr.indexAt 45 x14 (u4 18)) w fun x20 =>
    RD Tryz.prog (Instr.loadAt 32 x20) w fun x21 =>
    OP Tryz.prog (Instr.alloc 32 true (.tuple #[])) w fun x9 w =>
    OPU Tryz.prog (Instr.storeAt 32 x9 x21) w fun w =>
    RD Tryz.prog (Instr.loadAt 37 x2) w fun x22 =>
    RD Tryz.prog (Instr.loadAt 32 x9) w fun x23 =>
    CALL Tryz.prog 87 [x22, x23] w fun x24 w =>
    RD Tryz.prog (Builtin.len_ #[23] 3 [x24].toArray) w fun x25 =>
    RD Tryz.prog (bin .eql 3 (.tmp 0) (.const undef) x25 (Value.int .i64 0)) w fun x26 =>
    BR x26
     (RD Tryz.prog (Instr.loadAt 32 x9) w fun x28 =>
     OP Tryz.prog (Instr.buildSlice 45 1 #[(0, x28)]) w fun x29 w =>
     OP Tryz.prog (Builtin.append_ #[45, 45] 45 [(u4 7), x29].toArray) w fun x30 w =>
     RD Tryz.prog (bin .add 3 (.tmp 0) (.const undef) (u4 18) (Value.int .i64 1)) w fun x31 =>
     next4 [x30, x31] w)
     (RD Tryz.prog (bin .add 3 (.tmp 0) (.const undef) (u4 18) (Value.int .i64 1)) w fun x31 =>
     next4 [(u4 7), x31] w))
    (R (u4 7) w)
def cfg36 : Cfg := { ext := extL, joins := [], loops := [(4, 4294705792, [7, 18])], draws := [], pars := [] }
theorem F36_eq (a0 a1 : Value) (w : World) (R : Value → World → Prop) : vcF Tryz.prog cfg36 Tryz.f36 [a0, a1] w R = F36 a0 a1 w R := by kernel_rfl
theorem F36_call {a0 a1 : Value} {w : World} {R : Value → World → Prop} (h : F36 a0 a1 w R) : CALL Tryz.prog 36 [a0, a1] w R :=
  call_of (g := cfg36) ent mixed Tryz.func36 (Nat.le_of_ble_eq_true (by kernel_rfl)) (by kernel_rfl) (F36_eq a0 a1 w R ▸ h)

/-- spec.EndsOf -/
def F35 (a0 a1 : Value) (w : World) (R : Value → World → Prop) : Prop :=
  OP Tryz.prog (Instr.box 37 a0) w fun x2 w =>
  OP Tryz.prog (Instr.buildSlice 45 0 #[]) w fun x9 w =>
  RD Tryz.prog (Instr.loadAt 37 x2) w fun x11 =>
  CALL Tryz.prog 25 [x11, a1] w fun x13 w =>
  RD Tryz.prog (Instr.extract x13 0) w fun x14 =>
  RD Tryz.prog (Instr.extract x13 1) w fun x15 =>
  LOOPI [5, 8] [x9, (Value.int .i64 0)] w fun u4 w next4 =>
   RD Tryz.prog (Builtin.len_ #[45] 3 [x14].toArray) w fun x18 =>
   RD Tryz.prog (bin .lss 3 (.tmp 0) (.tmp 0) (u4 8) x18) w fun x19 =>
   BR x19
    ((fun w => RD Tryz.prog (Instr.loadAt 37 x2) w fun x22 =>
    RD Tryz.prog (Instr.indexAt 45 x14 (u4 8)) w fun x25 =>
    RD Tryz.prog (Instr.loadAt 32 x25) w fun x26 =>
    CALL Tryz.prog 86 [x22, x26] w fun x27 w =>
    RD Tryz.prog (Builtin.len_ #[23] 3 [x27].toArray) w fun x28 =>
    RD Tryz.prog (bin .eql 3 (.tmp 0) (.const undef) x28 (Value.int .i64 0)) w fun x29 =>
    BR x29
     (RD Tryz.prog (Instr.indexAt 45 x14 (u4 8)) w fun x33 =>
     RD Tryz.prog (Instr.loadAt 32 x33) w fun x34 =>
     OP Tryz.prog (Instr.buildSlice 45 1 #[(0, x34)]) w fun x35 w =>
     OP Tryz.prog (Builtin.append_ #[45, 45] 45 [(u4 5), x35].toArray) w fun x36 w =>
     RD Tryz.prog (bin .add 3 (.tmp 0) (.const undef) (u4 8) (Value.int .i64 1)) w fun x21 =>
     next4 [x36, x21] w)
     (RD Tryz.prog (bin .add 3 (.tmp 0) (.const undef) (u4 8) (Value.int .i64 1)) w fun x21 =>
     next4 [(u4 5), x21] w)) (World.drew1 w))
    (R (u4 5) w)
def cfg35 : Cfg := { ext := extL, joins := [], loops := [(4, 137438888224, [5, 8])], draws := [(6, [0, 1, 2, 3, 4, 5, 6, 7], 0)], pars := [] }
theorem F35_eq (a0 a1 : Value) (w : World) (R : Value → World → Prop) : vcF Tryz.prog cfg35 Tryz.f35 [a0, a1] w R = F35 a0 a1 w R := by kernel_rfl
theorem F35_call {a0 a1 : Value} {w : World} {R : Value → World → Prop} (h : F35 a0 a1 w R) : CALL Tryz.prog 35 [a0, a1] w R :=
  call_of (g := cfg35) ent mixed Tryz.func35 (Nat.le_of_ble_eq_true (by kernel_rfl)) (by kernel_rfl) (F35_eq a0 a1 w R ▸ h)

set_option linter.unusedVariables false
set_option linter.unusedSimpArgs false
open Rep (rep)

/-- nobody can go -/
def stuck (c : DCode) (s : DState) : Bool := decide ((readyL c s).length = 0)
def endsOf (c : DCode) (m : Int) : List DState := (statesOf c m).filter (stuck c)
theorem statesOf_right {c : DCode} {m : Int} (h : CodeR c → TrOk c (mostN m) (lookD c (mostN m))) : ∀ s ∈ statesOf c m, CodeR c ∧ StateR c s := fun s hs => by
  unfold statesOf at hs
  by_cases hc : CodeR c
  · rw [if_pos hc] at hs; exact ⟨hc, (h hc).right s hs⟩
  · rw [if_neg hc] at hs; cases hs
theorem statesOf_len {c : DCode} {m : Int} (h : CodeR c → TrOk c (mostN m) (lookD c (mostN m))) : (statesOf c m).length ≤ 150 := by
  unfold statesOf
  split
  · rename_i hc
    have h1 := (h hc).many
    have hb := brought_in m
    have hM : mostN m ≤ 150 := by unfold mostN; omega
    omega
  · simp
theorem rep3 {w : World} {F : List Nat} {cs : List Value} {s : DState} (h : rep F w cs s) : ∃ x : Raw3, raw3 x = cs ∧ ∀ (lo hi : Nat) (w' : World), OwnI lo hi w' (mkv DState cs) x := by
  obtain ⟨F0, c0, F1, c1, F2, c2, rfl, rfl, ⟨_, _, _, _, rfl, _⟩, ⟨_, _, _, _, rfl, _⟩, ⟨_, _, _, _, rfl, _⟩⟩ := inv_DState h
  exact ⟨(⟨_⟩, ⟨_⟩, ⟨_⟩), rfl, fun lo hi w' => ⟨[], ⟨⟨_, ⟨[], [], [_], _, rfl, rfl, ⟨rfl, rfl, rfl⟩, ⟨[], [], [_], [_], rfl, rfl, ⟨rfl, rfl, rfl⟩, ⟨rfl, rfl, rfl⟩⟩⟩, rfl⟩, List.nodup_nil, Wr.nil w'⟩, by simp⟩⟩
abbrev Zp := List Nat × List Value × DState
theorem cells_zip {w : World} : ∀ {l : List DState} {F : List Nat} {xs : List Value}, Cells F w xs l → ∃ z : List Zp, F = z.flatMap (·.1) ∧ xs = z.flatMap (·.2.1) ∧ l = z.map (·.2.2) ∧ ∀ t ∈ z, rep t.1 w t.2.1 t.2.2
  | [], _, _, ⟨rfl, rfl⟩ => ⟨[], rfl, rfl, rfl, by simp⟩
  | x :: l, _, _, ⟨F1, F2, c1, c2, rfl, rfl, h1, h2⟩ => by
    obtain ⟨z, rfl, rfl, rfl, hz⟩ := cells_zip h2
    refine ⟨(F1, c1, x) :: z, rfl, rfl, rfl, fun t ht => ?_⟩
    rcases List.mem_cons.1 ht with rfl | ht
    · exact h1
    · exact hz t ht
theorem zip_cells {w : World} : ∀ {z : List Zp}, (∀ t ∈ z, rep t.1 w t.2.1 t.2.2) → Cells (z.flatMap (·.1)) w (z.flatMap (·.2.1)) (z.map (·.2.2))
  | [], _ => ⟨rfl, rfl⟩
  | t :: z, h => ⟨t.1, z.flatMap (·.1), t.2.1, z.flatMap (·.2.1), rfl, rfl, h t (by simp), zip_cells fun t' ht => h t' (by simp [ht])⟩
theorem zip_len {w : World} : ∀ {z : List Zp}, (∀ t ∈ z, rep t.1 w t.2.1 t.2.2) → (z.flatMap (·.2.1)).length = z.length * 3
  | [], _ => rfl
  | t :: z, h => by
    have h1 := zip_len (z := z) fun t' ht => h t' (by simp [ht])
    have h2 : t.2.1.length = 3 := Rep.len (h t (by simp))
    rw [List.flatMap_cons, List.length_append, h1, h2, List.length_cons]; omega
theorem sub_flat {z z' : List Zp} (h : z'.Sublist z) : (z'.flatMap (·.1)).Sublist (z.flatMap (·.1)) := by
  induction h with
  | slnil => exact List.Sublist.refl _
  | cons t h ih => rw [List.flatMap_cons]; exact ih.trans (List.sublist_append_right _ _)
  | cons_cons t h ih => rw [List.flatMap_cons, List.flatMap_cons]; exact List.Sublist.append (List.Sublist.refl _) ih
/-- the cells of one of them -/
theorem zip_range {w : World} {z : List Zp} {b o k : Nat} (hz : ∀ t ∈ z, rep t.1 w t.2.1 t.2.2) (hr : w.rangeAt b o (z.flatMap (·.2.1))) (hk : k < z.length) : w.rangeAt b (o + k * 3) z[k].2.1 := by
  have e : z = z.take k ++ (z[k] :: z.drop (k + 1)) := by simp
  rw [e, List.flatMap_append, List.flatMap_cons] at hr
  have h1 := zip_len (z := z.take k) fun t ht => hz t (List.mem_of_mem_take ht)
  have h2 := (rangeAt_append (rangeAt_append hr).2).1
  rw [h1, List.length_take, Nat.min_eq_left (by omega)] at h2
  exact h2
/-- the states, known cell by cell -/
theorem own_zip {lo : Nat} {w : World} {v : Value} {l : List DState} (h : Own lo w v l) : ∃ (z : List Zp) (a : Option Addr) (cap : Nat), v = .slice a z.length cap ∧ l = z.map (·.2.2) ∧ (∀ t ∈ z, rep t.1 w t.2.1 t.2.2) ∧ (z.flatMap (·.1)).Nodup ∧ Wr (z.flatMap (·.1)) w ∧ (∀ b ∈ z.flatMap (·.1), lo ≤ b ∧ b < w.heap.size) ∧ (z = [] ∨ ∃ b o, a = some ⟨b, o, none⟩ ∧ w.rangeAt b o (z.flatMap (·.2.1))) := by
  obtain ⟨F, ⟨⟨cs, hr0, rfl⟩, hn, hw⟩, hF⟩ := h
  have hlt := Rep.lt hr0
  obtain ⟨a, cap, Fi, xs, rfl, h1, h2, hc, h4⟩ := hr0
  rcases h4 with ⟨rfl, rfl⟩ | ⟨b, o, rfl, rfl, hr, hb⟩
  · exact ⟨[], a, cap, rfl, rfl, by simp, by simp, Wr.nil w, by simp, .inl rfl⟩
  · obtain ⟨z, rfl, rfl, rfl, hz⟩ := cells_zip hc
    refine ⟨z, _, cap, by rw [List.length_map]; rfl, rfl, hz, (List.nodup_cons.1 hn).2, hw.sub (by simp +contextual), fun c hcm => ⟨hF c (by simp [hcm]), hlt c (by simp [hcm])⟩, .inr ⟨b, o, rfl, hr⟩⟩
/-- reading one of them -/
theorem rd_zip {P : Program} {w0 w : World} {t e : TypeId} {by_ : Nat} {z : List Zp} {a : Option Addr} {cap k : Nat} {K : Value → Prop} (ht : P.underlying t = some (.slice e)) (he : tyI P e = some (3, by_, true)) (hz : ∀ t ∈ z, rep t.1 w0 t.2.1 t.2.2)
    (ha : z = [] ∨ ∃ b o, a = some ⟨b, o, none⟩ ∧ w0.rangeAt b o (z.flatMap (·.2.1))) (hx : Ext w0 w) (hk : k < z.length) (kk : Is w0 (mkv DState z[k].2.1) z[k].2.2 → K (mkv DState z[k].2.1)) :
    RD P (Instr.indexAt t (.slice a z.length cap) (.int .i64 (k : Int))) w fun p => RD P (Instr.loadAt e p) w K := by
  rcases ha with rfl | ⟨b, o, rfl, hr⟩
  · simp at hk
  have h1 := zip_range hz hr hk
  have h2 := hz _ (List.getElem_mem hk)
  refine rd_of (v := .pointer (some ⟨b, o + k * 3, none⟩)) (fun w' _ => ?_) ?_
  · rw [run_indexAt' ht he (by omega) (by omega)]; simp
  · exact rd_of (fun w' hx' => run_loadAt' he (rep_ext h2 (hx.trans hx')) (rangeAt_ext h1 (hx.trans hx'))) (kk ⟨_, _, h2, rfl⟩)
theorem raws_append (l : List Raw3) (x : Raw3) : raws (l ++ [x]) = raws l ++ raw3 x := by simp [raws]
theorem raws_len (l : List Raw3) : (raws l).length = l.length * 3 := by
  induction l with
  | nil => rfl
  | cons x l ih => simp only [raws, List.flatMap_cons, List.length_append, List.length_cons] at ih ⊢; rw [ih]; simp [raw3]; omega
def qz (c : DCode) (t : Zp) : Bool := stuck c t.2.2
/-- at the end -/
theorem ends_fin {w0 w : World} {c : DCode} {m : Int} {z : List Zp} {v : Value} {lo hi base e : Nat} {rs : List Raw3} (hl : statesOf c m = z.map (·.2.2)) (hz : ∀ t ∈ z, rep t.1 w0 t.2.1 t.2.2) (hn : (z.flatMap (·.1)).Nodup) (hw : Wr (z.flatMap (·.1)) w0) (hb : ∀ b ∈ z.flatMap (·.1), base ≤ b ∧ b < w0.heap.size) (hx : Ext w0 w)
    (hR : RowI lo hi e w v rs) (hlo : w0.heap.size ≤ lo) (hbase : base ≤ w0.heap.size) (hrs : raws rs = (z.filter (qz c)).flatMap (·.2.1)) : Own base w v (endsOf c m) := by
  have hsub := sub_flat (z' := z.filter (qz c)) List.filter_sublist
  have he : endsOf c m = (z.filter (qz c)).map (·.2.2) := by
    unfold endsOf; rw [hl, List.filter_map]; rfl
  rw [he]
  refine raws_own (α := DState) rfl hR (Fp := (z.filter (qz c)).flatMap (·.1)) ?_ (hn.sublist hsub) ((hw.sub fun b hb' => hsub.subset hb').ext hx) (fun b hb' => by have := hb b (hsub.subset hb'); omega) (fun b hb' => (hb b (hsub.subset hb')).1) (by omega)
  rw [hrs]
  exact (zip_cells fun t ht => hz t (List.mem_filter.1 ht).1).keep fun b hb' => hx.heap (hb b (hsub.subset hb')).2
theorem implEndsOf_ok {w W0 : World} {v0 : Value} {c : DCode} {m : Int} (h0 : Is W0 v0 c) (e0 : Ext W0 w) (hwc : wCode c ≤ 1048576) :
    CALL Tryz.prog 36 [v0, .int .i64 m] w fun r w' => Ext w w' ∧ Own w.heap.size w' r (endsOf c m) ∧ (CodeR c → TrOk c (mostN m) (lookD c (mostN m))) := by
  refine F36_call ?_
  unfold F36
  refine op_box h0 e0 fun w1 hx1 hA => ?_
  have hs1 := hx1.size
  refine rd_load ty37 hA (Ext.refl _) fun v11 h11 => ?_
  refine (implStatesOf_ok h11 (Ext.refl _) hwc).mono ?_
  rintro _ w2 ⟨hx2, ⟨a14, rfl, o14⟩, hok⟩
  have hs2 := hx2.size
  refine rd_extract rfl ?_
  refine rd_extract rfl ?_
  have hright := statesOf_right hok
  have hlen := statesOf_len hok
  refine rd_len u45 o14.is ?_
  obtain ⟨z, a, cap, rfl, hl, hz, hn, hw, hb, ha⟩ := own_zip o14
  have hzl : (statesOf c m).length = z.length := by rw [hl, List.length_map]
  rw [hzl]
  refine loopC z.length (fun k us w' => us = [us.headD undef, .int .i64 (k : Int)] ∧ ∃ (v : Value) (lo hi : Nat) (rs : List Raw3), us.headD undef = v ∧ Ext w2 w' ∧ RowI lo hi 32 w' v rs ∧ w2.heap.size ≤ lo ∧ lo ≤ hi ∧ hi ≤ w'.heap.size ∧ raws rs = ((z.take k).filter (qz c)).flatMap (·.2.1) ∧ rs.length ≤ k) 0 (Nat.zero_le _)
    ⟨by simp, _, w2.heap.size, w2.heap.size, [], rfl, Ext.refl _, rowI_nil _ _ _ _, by omega, by omega, by omega, by simp [raws], by simp⟩ ?_
  rintro k mk u w3 hkm ⟨hu, v, lo, hi, rs, hv, hx3, hR, hb1, hb2, hb3, hrs, hrl⟩
  simp only [List.map_cons, List.map_nil, List.headD_cons, List.cons.injEq, and_true, true_and] at hu hv
  rw [hu, hv]
  have hs3 := hx3.size
  refine rd_lss ?_
  refine br (fun hlt => ?_) (fun hge => ?_)
  case refine_2 =>
    rw [List.take_of_length_le (by omega)] at hrs
    exact ⟨hx1.trans (hx2.trans hx3), (ends_fin hl hz hn hw hb hx3 hR hb1 (by omega) hrs).mono (by omega), hok⟩
  have hk : k < z.length := by omega
  have hsr := hright z[k].2.2 (by rw [hl]; exact List.mem_map.2 ⟨z[k], List.getElem_mem hk, rfl⟩)
  refine rd_zip u45 ty32 hz ha hx3 hk fun hI => ?_
  obtain ⟨x, hx1', hx3'⟩ := rep3 (hz _ (List.getElem_mem hk))
  generalize hvv : mkv DState z[k].2.1 = vv at *
  refine op_var zl32 rfl ty32 rfl hI hx3 fun w4 hx4 hA4 hV4 => ?_
  have hs4 := hx4.size
  refine rd_load ty37 hA (hx2.trans (hx3.trans hx4)) fun v22 h22 => ?_
  refine rd_var hV4 (Ext.refl _) ?_
  refine (readyIn_ok h22 (hx2.trans (hx3.trans hx4)) hI (hx3.trans hx4) hsr.1 hsr.2).mono ?_
  rintro r24 w5 ⟨hx5, o24⟩
  have hs5 := hx5.size
  refine rd_len u23 o24.is ?_
  refine rd_eql ?_
  have htk : z.take (k + 1) = z.take k ++ [z[k]] := List.take_succ_eq_append_getElem hk
  refine br (fun hst => ?_) (fun hgo => ?_)
  · have hq : qz c z[k] = true := decide_eq_true (by omega)
    refine rd_var hV4 hx5 ?_
    refine op_pushD1 (α := Raw3) u45 ty32 z32 zc32 (by decide) ((hR.ext hx4).ext hx5) (hx3' w5.heap.size w5.heap.size w5) (by rw [maxLen_eq]; omega) (by omega) fun v30 w6 lo6 hi6 hc6 r6 hd6 => ?_
    have hs6 := hc6.size
    refine rd_inc (by omega) ?_
    refine ⟨mk - 1, by omega, k + 1, by omega, by simp, v30, lo6, hi6, rs ++ [x], rfl, Ext.chgI (hx3.trans (hx4.trans hx5)) hc6 (by omega), r6, by omega, by omega, by omega, ?_, by simp; omega⟩
    rw [raws_append, hrs, htk, List.filter_append, List.flatMap_append, hx1']
    simp [hq]
  · have hq : qz c z[k] = false := decide_eq_false (by omega)
    refine rd_inc (by omega) ?_
    refine ⟨mk - 1, by omega, k + 1, by omega, by simp, v, lo, hi, rs, rfl, hx3.trans (hx4.trans hx5), (hR.ext hx4).ext hx5, by omega, by omega, by omega, ?_, by omega⟩
    rw [hrs, htk, List.filter_append, List.flatMap_append]
    simp [hq]
theorem specEndsOf_ok {w W0 : World} {v0 : Value} {c : DCode} {m : Int} (h0 : Is W0 v0 c) (e0 : Ext W0 w) (hwc : wCode c ≤ 1048576) :
    CALL Tryz.prog 35 [v0, .int .i64 m] w fun r w' => Ext w w' ∧ Own w.heap.size w' r (endsOf c m) ∧ (CodeR c → TrOk c (mostN m) (lookD c (mostN m))) := by
  refine F35_call ?_
  unfold F35
  refine op_box h0 e0 fun w1 hx1 hA => ?_
  have hs1 := hx1.size
  refine op_build0I (α := Raw3) u45 ty32 fun a9 w1' hx1' r9 => ?_
  have hs1' := hx1'.size
  refine rd_load ty37 hA hx1' fun v11 h11 => ?_
  refine (specStatesOf_ok h11 hx1' hwc).mono ?_
  rintro _ w2 ⟨hx2, ⟨a14, rfl, o14⟩, hok⟩
  have hs2 := hx2.size
  refine rd_extract rfl ?_
  refine rd_extract rfl ?_
  have hright := statesOf_right hok
  have hlen := statesOf_len hok
  have oI := o14.is
  obtain ⟨z, a, cap, rfl, hl, hz, hn, hw, hb, ha⟩ := own_zip o14
  have hzl : (statesOf c m).length = z.length := by rw [hl, List.length_map]
  refine loopC z.length (fun k us w' => us = [us.headD undef, .int .i64 (k : Int)] ∧ ∃ (v : Value) (lo hi : Nat) (rs : List Raw3), us.headD undef = v ∧ Ext w2 w' ∧ RowI lo hi 32 w' v rs ∧ w2.heap.size ≤ lo ∧ lo ≤ hi ∧ hi ≤ w'.heap.size ∧ raws rs = ((z.take k).filter (qz c)).flatMap (·.2.1) ∧ rs.length ≤ k) 0 (Nat.zero_le _)
    ⟨by simp, _, w2.heap.size, w2.heap.size, [], rfl, Ext.refl _, rowI_zcap _ _ _ _ _, by omega, by omega, by omega, by simp [raws], by simp⟩ ?_
  rintro k mk u w3 hkm ⟨hu, v, lo, hi, rs, hv, hx3, hR, hb1, hb2, hb3, hrs, hrl⟩
  simp only [List.map_cons, List.map_nil, List.headD_cons, List.cons.injEq, and_true, true_and] at hu hv
  rw [hu, hv]
  have hs3 := hx3.size
  refine rd_len u45 oI ?_
  rw [hzl]
  refine rd_lss ?_
  refine br (fun hlt => ?_) (fun hge => ?_)
  case refine_2 =>
    rw [List.take_of_length_le (by omega)] at hrs
    exact ⟨hx1.trans (hx1'.trans (hx2.trans hx3)), (ends_fin hl hz hn hw hb hx3 hR hb1 (by omega) hrs).mono (by omega), hok⟩
  have hk : k < z.length := by omega
  have hsr := hright z[k].2.2 (by rw [hl]; exact List.mem_map.2 ⟨z[k], List.getElem_mem hk, rfl⟩)
  obtain ⟨x, hx1x, hx3'⟩ := rep3 (hz _ (List.getElem_mem hk))
  have hx4 := ext_drew w3
  have hs4 := hx4.size
  refine rd_load ty37 hA (hx1'.trans (hx2.trans (hx3.trans hx4))) fun v22 h22 => ?_
  refine rd_zip u45 ty32 hz ha (hx3.trans hx4) hk fun hI => ?_
  refine (l22Ready_ok h22 (hx1'.trans (hx2.trans (hx3.trans hx4))) hI (hx3.trans hx4) hsr.1 hsr.2).mono ?_
  rintro r24 w5 ⟨hx5, o24⟩
  have hs5 := hx5.size
  refine rd_len u23 o24.is ?_
  refine rd_eql ?_
  have htk : z.take (k + 1) = z.take k ++ [z[k]] := List.take_succ_eq_append_getElem hk
  refine br (fun hst => ?_) (fun hgo => ?_)
  · have hq : qz c z[k] = true := decide_eq_true (by omega)
    refine rd_zip u45 ty32 hz ha (hx3.trans (hx4.trans hx5)) hk fun hI2 => ?_
    refine op_pushD1 (α := Raw3) u45 ty32 z32 zc32 (by decide) ((hR.ext hx4).ext hx5) (hx3' w5.heap.size w5.heap.size w5) (by rw [maxLen_eq]; omega) (by omega) fun v30 w6 lo6 hi6 hc6 r6 hd6 => ?_
    have hs6 := hc6.size
    refine rd_inc (by omega) ?_
    refine ⟨mk - 1, by omega, k + 1, by omega, by simp, v30, lo6, hi6, rs ++ [x], rfl, Ext.chgI (hx3.trans (hx4.trans hx5)) hc6 (by omega), r6, by omega, by omega, by omega, ?_, by simp; omega⟩
    rw [raws_append, hrs, htk, List.filter_append, List.flatMap_append, hx1x]
    simp [hq]
  · have hq : qz c z[k] = false := decide_eq_false (by omega)
    refine rd_inc (by omega) ?_
    refine ⟨mk - 1, by omega, k + 1, by omega, by simp, v, lo, hi, rs, rfl, hx3.trans (hx4.trans hx5), (hR.ext hx4).ext hx5, by omega, by omega, by omega, ?_, by omega⟩
    rw [hrs, htk, List.filter_append, List.flatMap_append]
    simp [hq]
end Go.Proofs.YteephmhilnlkpaaGreat
