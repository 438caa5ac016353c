/-
  Meetings, walked in the program: strand by strand, what it touches held against what the strands ahead touch.
-/
import Derived.Test.YteephmhilnlkpaaGreatMeet3
import Derived.Test.YteephmhilnlkpaaGreatLv
namespace Go.Proofs.YteephmhilnlkpaaGreat
open Go Go.Sh Go.Proofs
set_option linter.unusedVariables false
/-- impl.meetings -/
def F103 (a0 a1 : Value) (w : World) (R : Value → World → Prop) : Prop :=
  OP Tryz.prog (Instr.box 37 a0) w fun x2 w =>
  OP Tryz.prog (Instr.box 32 a1) w fun x3 w =>
  RD Tryz.prog (Instr.fieldAt 32 x3 2) w fun x15 =>
  RD Tryz.prog (Instr.loadAt 27 x15) w fun x16 =>
  RD Tryz.prog (Builtin.len_ #[27] 3 [x16].toArray) w fun x17 =>
  OP Tryz.prog (Instr.makeSlice 174 x17 x17) w fun x18 w =>
  RD Tryz.prog (Instr.fieldAt 32 x3 2) w fun x19 =>
  RD Tryz.prog (Instr.loadAt 27 x19) w fun x20 =>
  RD Tryz.prog (Builtin.len_ #[27] 3 [x20].toArray) w fun x21 =>
  LOOPI [6, 22] [(Value.slice none 0 0), (Value.int .i64 0)] w fun u4 w next4 =>
   RD Tryz.prog (bin .lss 3 (.tmp 0) (.tmp 0) (u4 22) x21) w fun x23 =>
   BR x23
    (JOIN [] (fun J9 =>
     RD Tryz.prog (Instr.loadAt 32 x3) w fun x25 =>
     CALL Tryz.prog 99 [x25, (u4 22)] w fun x27 w =>
     RD Tryz.prog (Instr.loadAt 37 x2) w fun x28 =>
     CALL Tryz.prog 124 [x28, x27] w fun x30 w =>
     BR x30
      (RD Tryz.prog (Instr.loadAt 37 x2) w fun x33 =>
      CALL Tryz.prog 173 [x33, x27, (Value.int .i64 0)] w fun x35 w =>
      RD Tryz.prog (Instr.indexAt 174 x18 (u4 22)) w fun x36 =>
      OPU Tryz.prog (Instr.storeAt 168 x36 x35) w fun w =>
      J9 [] w)
      (J9 [] w)) (fun u9 w =>
     RD Tryz.prog (Instr.indexAt 174 x18 (u4 22)) w fun x39 =>
     RD Tryz.prog (Instr.loadAt 168 x39) w fun x40 =>
     RD Tryz.prog (Builtin.len_ #[168] 3 [x40].toArray) w fun x41 =>
     LOOPI [6, 42] [(u4 6), (Value.int .i64 0)] w fun u10 w next10 =>
      RD Tryz.prog (bin .lss 3 (.tmp 0) (.tmp 0) (u10 42) x41) w fun x43 =>
      BR x43
       (RD Tryz.prog (Instr.indexAt 168 x40 (u10 42)) w fun x44 =>
       RD Tryz.prog (Instr.loadAt 171 x44) w fun x45 =>
       OP Tryz.prog (Instr.alloc 171 true (.tuple #[])) w fun x10 w =>
       OPU Tryz.prog (Instr.storeAt 171 x10 x45) w fun w =>
       RD Tryz.prog (Instr.sliceAt 174 x18 none (some (u4 22)) none) w fun x48 =>
       RD Tryz.prog (Builtin.len_ #[174] 3 [x48].toArray) w fun x49 =>
       LOOPI [6, 50] [(u10 6), (Value.int .i64 0)] w fun u13 w next13 =>
        RD Tryz.prog (bin .lss 3 (.tmp 0) (.tmp 0) (u13 50) x49) w fun x51 =>
        BR x51
         (RD Tryz.prog (Instr.indexAt 174 x48 (u13 50)) w fun x52 =>
         RD Tryz.prog (Instr.loadAt 168 x52) w fun x53 =>
         RD Tryz.prog (Builtin.len_ #[168] 3 [x53].toArray) w fun x55 =>
         LOOPI [6, 56] [(u13 6), (Value.int .i64 0)] w fun u16 w next16 =>
          RD Tryz.prog (bin .lss 3 (.tmp 0) (.tmp 0) (u16 56) x55) w fun x57 =>
          BR x57
           (RD Tryz.prog (Instr.indexAt 168 x53 (u16 56)) w fun x58 =>
           RD Tryz.prog (Instr.loadAt 171 x58) w fun x59 =>
           OP Tryz.prog (Instr.alloc 171 true (.tuple #[])) w fun x14 w =>
           OPU Tryz.prog (Instr.storeAt 171 x14 x59) w fun w =>
           RD Tryz.prog (Instr.loadAt 171 x10) w fun x60 =>
           RD Tryz.prog (Instr.loadAt 171 x14) w fun x61 =>
           CALL Tryz.prog 174 [x60, x61] w fun x62 w =>
           BR x62
            (RD Tryz.prog (Instr.loadAt 171 x10) w fun x64 =>
            RD Tryz.prog (Instr.loadAt 171 x14) w fun x65 =>
            CALL Tryz.prog 175 [x64, x65] w fun x66 w =>
            OP Tryz.prog (Instr.buildSlice 61 1 #[(0, x66)]) w fun x67 w =>
            OP Tryz.prog (Builtin.append_ #[61, 61] 61 [(u16 6), x67].toArray) w fun x68 w =>
            RD Tryz.prog (bin .add 3 (.tmp 0) (.const undef) (u16 56) (Value.int .i64 1)) w fun x69 =>
            next16 [x68, x69] w)
            (RD Tryz.prog (bin .add 3 (.tmp 0) (.const undef) (u16 56) (Value.int .i64 1)) w fun x69 =>
            next16 [(u16 6), x69] w))
           (RD Tryz.prog (bin .add 3 (.tmp 0) (.const undef) (u13 50) (Value.int .i64 1)) w fun x70 =>
           next13 [(u16 6), x70] w))
         (RD Tryz.prog (bin .add 3 (.tmp 0) (.const undef) (u10 42) (Value.int .i64 1)) w fun x71 =>
         next10 [(u13 6), x71] w))
       (RD Tryz.prog (bin .add 3 (.tmp 0) (.const undef) (u4 22) (Value.int .i64 1)) w fun x72 =>
       next4 [(u10 6), x72] w)))
    (CALL Tryz.prog 176 [(u4 6)] w fun x74 w =>
    R x74 w)
def cfg103 : Cfg := { ext := extL, joins := [(9, 137405399296, [])], loops := [(4, 9444732965739286255040, [6, 22]), (10, 4722366478471598724160, [6, 42]), (13, 2361182115534915784768, [6, 50]), (16, 1180519563123373391936, [6, 56])], draws := [], pars := [] }
theorem F103_eq (a0 a1 : Value) (w : World) (R : Value → World → Prop) : vcF Tryz.prog cfg103 Tryz.f103 [a0, a1] w R = F103 a0 a1 w R := by kernel_rfl
theorem F103_call {a0 a1 : Value} {w : World} {R : Value → World → Prop} (h : F103 a0 a1 w R) : CALL Tryz.prog 103 [a0, a1] w R :=
  call_of (g := cfg103) ent mixed Tryz.func103 (Nat.le_of_ble_eq_true (by kernel_rfl)) (by kernel_rfl) (F103_eq a0 a1 w R ▸ h)

set_option linter.unusedVariables false
set_option linter.unusedSimpArgs false

instance flatRawM : Flat Raw := ⟨fun h => h.1⟩
theorem ownI_cap {α : Type} [Rep α] {w : World} {lo hi : Nat} {v : Value} {x : α} (h : OwnI lo hi w v x) : OwnI lo (min hi w.heap.size) w v x := by
  obtain ⟨F, hm, hl⟩ := h
  exact ⟨F, hm, fun b hb => by have := hl b hb; have := hm.lt b hb; omega⟩
structure MI (w0 w : World) (lo hi g n : Nat) (out : Value) (L : List DRace) (vs : List Raw) (T : Nat → List DTouch) : Prop where
  ext : Ext w0 w
  row : RowI lo hi 117 w out L
  h1 : w0.heap.size ≤ lo
  h2 : lo ≤ hi
  h3 : hi ≤ w.heap.size
  seen : Mine [g] w (.slice (some ⟨g, 0, none⟩) n n) vs
  g0 : w0.heap.size ≤ g
  g1 : g < lo ∨ hi ≤ g
  len : vs.length = n
  el : ∀ k (h : k < vs.length), ∃ a b, OwnI a b w vs[k].v (T k) ∧ (b ≤ lo ∨ hi ≤ a) ∧ (b ≤ g ∨ g < a) ∧ b ≤ w.heap.size
section
variable {w0 w w' : World} {lo hi g n : Nat} {out : Value} {L : List DRace} {vs : List Raw} {T : Nat → List DTouch}
theorem MI.glt (h : MI w0 w lo hi g n out L vs T) : g < w.heap.size := h.seen.lt g (by simp)
theorem MI.step (h : MI w0 w lo hi g n out L vs T) (hx : Ext w w') : MI w0 w' lo hi g n out L vs T :=
  ⟨h.ext.trans hx, h.row.ext hx, h.h1, h.h2, Nat.le_trans h.h3 hx.size, h.seen.ext hx, h.g0, h.g1, h.len, fun k hk => by
    obtain ⟨a, b, ho, h1, h2, h3⟩ := h.el k hk
    exact ⟨a, b, ho.ext hx, h1, h2, Nat.le_trans h3 hx.size⟩⟩
theorem MI.push {out' : Value} {x : DRace} {lo' hi' : Nat} (h : MI w0 w lo hi g n out L vs T) (hc : ChgI lo hi w w') (hr : RowI lo' hi' 117 w' out' (L ++ [x])) (hd : lo' = lo ∧ hi' = hi ∨ lo' = w.heap.size ∧ hi' = w'.heap.size) :
    MI w0 w' lo' hi' g n out' (L ++ [x]) vs T := by
  have hg := h.glt
  have hs := hc.size
  have h1 := h.h1
  have h2 := h.h2
  have h3 := h.h3
  have h4 := h.ext.size
  have h5 := h.g1
  refine ⟨h.ext.chgI hc h1, hr, by omega, by omega, by omega, h.seen.keep fun b hb => ?_, h.g0, by omega, h.len, fun k hk => ?_⟩
  · simp only [List.mem_cons, List.not_mem_nil, or_false] at hb
    subst hb
    exact hc.block b hg h5
  · obtain ⟨a, b, ho, e1, e2, e3⟩ := h.el k hk
    exact ⟨a, b, ho.chg hc e1, by omega, e2, by omega⟩
theorem MI.row_at (h : MI w0 w lo hi g n out L vs T) {t : Nat} (ht : t ≤ n) (hn : 0 < n) : Is w (.slice (some ⟨g, 0, none⟩) t n) (vs.take t) := by
  have := is_take (a := some ⟨g, 0, none⟩) (cap := n) (l := vs) (by rw [h.len]; exact h.seen.is) t (by rw [h.len]; exact ht)
  exact this
theorem MI.store {t : Nat} {u : Value} {T' : Nat → List DTouch} {a b : Nat} (h : MI w0 w lo hi g n out L vs T) (ht : t < n) (hc : Chg [g] w w') (hm : Mine [g] w' (.slice (some ⟨g, 0, none⟩) n n) (vs.set t ⟨u⟩))
    (hu : OwnI a b w u (T' t)) (ha : hi ≤ a) (hg : g < a) (hT : ∀ k, k ≠ t → T' k = T k) : MI w0 w' lo hi g n out L (vs.set t ⟨u⟩) T' := by
  have hc' : ChgI g (g + 1) w w' := hc.toI fun b hb => by simp only [List.mem_cons, List.not_mem_nil, or_false] at hb; omega
  have h1 := h.h1
  have h2 := h.h2
  have h3 := h.h3
  have h4 := h.ext.size
  have h5 := h.g1
  have hs := hc'.size
  have hg0 := h.g0
  refine ⟨h.ext.chgI hc' hg0, h.row.chg hc' (by omega), h1, h2, by omega, hm, hg0, h5, by simp [h.len], fun k hk => ?_⟩
  by_cases hkt : k = t
  · subst hkt
    refine ⟨a, min b w.heap.size, ?_, by omega, .inr hg, by omega⟩
    have := (ownI_cap hu).chg hc' (by omega)
    simpa using this
  · have hk' : k < vs.length := by simpa using hk
    obtain ⟨a', b', ho, e1, e2, e3⟩ := h.el k hk'
    refine ⟨a', b', ?_, e1, e2, by omega⟩
    have := ho.chg hc' (by omega)
    rw [hT k hkt]
    rw [List.getElem_set_ne (by omega)]
    exact this
end
abbrev rawN : RepZ Raw := ⟨⟨.slice none 0 0⟩, [.slice none 0 0], fun _ => ⟨rfl, rfl, rfl⟩⟩
theorem zlTouches : zeroL Tryz.prog 168 = some [.slice none 0 0] := by kernel_rfl
/-- the strands that were looked at -/
def upT (T : Nat → List DTouch) (k u : Nat) : List DTouch := if u < k then T u else []
theorem meetings_ok {w W0 W1 : World} {v0 v1 : Value} {c : DCode} {s : DState} (h0 : Is W0 v0 c) (e0 : Ext W0 w) (h1 : Is W1 v1 s) (e1 : Ext W1 w) (hc : CodeR c) (hs : StateR c s) :
    CALL Tryz.prog 103 [v0, v1] w fun r w' => Ext w w' ∧ Own w.heap.size w' r (meets c s) := by
  have hn6 := hs.2.2.1
  have hTl := tA_len s hc
  have hTa := @tA_at c s
  have hatl := at_lt hs
  have hTd : ∀ t, tA c s t = if 0 ≤ atOf s t then touchAt c (atOf s t) 0 else [] := fun t => rfl
  have hfin : meets c s = canon (gT (tA c s) s.stacks.length) := rfl
  rw [hfin]
  generalize tA c s = T at *
  refine F103_call ?_
  unfold F103
  refine op_box h0 e0 fun w1 hx1 hA => ?_
  refine op_box h1 (e1.trans hx1) fun w2 hx2 hB => ?_
  refine rd_fld fd32_2 ?_
  refine rd_load ty27 (at_DState_2 hB) (Ext.refl _) fun v16 h16 => ?_
  refine rd_len u27 h16 ?_
  generalize hn : s.stacks.length = n at *
  refine @op_makeZ Tryz.prog w2 Raw _ rawN _ _ _ (.slice none 0 0) _ n u174 ty168 rfl rfl zlTouches (by omega) (by omega) fun w3 hx3 hr3 => ?_
  have hs3 := hx3.size
  refine rd_fld fd32_2 ?_
  refine rd_load ty27 (at_DState_2 hB) hx3 fun v20 h20 => ?_
  refine rd_len u27 h20 ?_
  rw [hn]
  have hM0 : MI w2 w3 w2.heap.size w2.heap.size w2.heap.size n (.slice none 0 0) [] (List.replicate n ⟨.slice none 0 0⟩) (upT T 0) := by
    obtain ⟨F, hM, hF⟩ := hr3.own
    obtain ⟨b, o, cap, xs, hv, hF2, _⟩ := mine_parts hM (by intro e; have := congrArg List.length e; simp at this; omega)
    simp only [Value.slice.injEq, Option.some.injEq, Addr.mk.injEq, List.cons.injEq, and_true] at hv
    obtain ⟨⟨hb, ho⟩, _⟩ := hv
    rw [← hb] at hF2
    rw [hF2] at hM
    exact ⟨hx3, rowI_nil _ _ _ _, Nat.le_refl _, Nat.le_refl _, hs3, hM, Nat.le_refl _, .inr (Nat.le_refl _), by simp, fun k hk => ⟨0, 0, by
      have : upT T 0 k = [] := by unfold upT; rw [if_neg (by omega)]
      rw [this, List.getElem_replicate]
      exact ownI_zcap none, by omega, by omega, by omega⟩⟩
  generalize hg : w2.heap.size = g at hM0 ⊢
  refine loopC n (fun k us w' => ∃ (out : Value) (lo hi : Nat) (vs : List Raw), us = [out, .int .i64 (k : Int)] ∧ k ≤ n ∧ MI w2 w' lo hi g n out (gT T k) vs (upT T k)) 0 (Nat.zero_le _) ⟨_, _, _, _, rfl, Nat.zero_le _, hM0⟩ ?_
  rintro t mk u w4 hkm ⟨out, lo, hi, vs, hu, htn, hMI⟩
  simp only [List.map_cons, List.map_nil, List.cons.injEq, and_true] at hu
  obtain ⟨hu1, hu2⟩ := hu
  rw [hu1, hu2]
  refine rd_lss ?_
  refine br (fun hlt => ?_) (fun hge => ?_)
  case refine_2 =>
    have : t = n := by omega
    subst this
    have hgl : (gT T t).length ≤ 5184 := gT_len hTl (by omega)
    refine (inOrder_ok hMI.row.is (Ext.refl _) (by omega)).mono ?_
    rintro r w' ⟨hx5, ho⟩
    have := hMI.ext
    have hs4 := this.size
    have hs2 := hx1.size
    have hs22 := hx2.size
    exact ⟨(hx1.trans hx2).trans (this.trans hx5), ho.mono (by omega)⟩
  have htn' : t < n := by omega
  refine JOIN.mk (fun us w' => ∃ (vs : List Raw), MI w2 w' lo hi g n out (gT T t) vs (upT T (t + 1))) ?_ ?_
  · have hx24 := hMI.ext
    refine rd_load ty32 hB hx24 fun v25 h25 => ?_
    refine (implAtOf_ok h25 hx24).mono ?_
    rintro _ w5 ⟨hx5, rfl⟩
    have hx25 := hx24.trans hx5
    have hx15 := hx2.trans hx25
    refine rd_load ty37 hA hx15 fun v28 h28 => ?_
    refine (isPlace_ok h28 hx15).mono ?_
    rintro _ w6 ⟨hx6, rfl⟩
    have hx16 := hx15.trans hx6
    have hM6 := (hMI.step hx5).step hx6
    refine br_b (fun hpl => ?_) (fun hpl => ?_)
    · have hpl' := of_decide_eq_true hpl
      have hTt : T t = touchAt c (atOf s t) 0 := by rw [hTd, if_pos hpl'.1]
      refine rd_load ty37 hA hx16 fun v33 h33 => ?_
      refine (touchesIn_ok h33 hx16 hc hpl'.1 (by omega) (by unfold I64; omega)).mono ?_
      rintro v35 w7 ⟨hx7, ho7⟩
      rw [← hTt] at ho7
      have hM7 := hM6.step hx7
      have hg6 := hM6.glt
      have hi6 := hM6.h3
      refine rd_indexG u174 ty168 htn' ?_
      obtain ⟨b, a, cap, G, hv, hL⟩ := focus hM7.seen (k := t) (by rw [hM7.len]; exact htn')
      simp only [Value.slice.injEq, Option.some.injEq, Addr.mk.injEq, and_true] at hv
      obtain ⟨⟨rfl, rfl⟩, _⟩ := hv
      have e1 : 0 + t * Rep.size Raw = t * 1 := by rw [Nat.zero_add]; rfl
      rw [e1] at hL
      have hone : v35.oneCell' = true := by
        obtain ⟨aa, cc, FF, xx, hh, _⟩ := is_list ho7.is
        rw [hh]; rfl
      refine opu_lensF (y' := (⟨v35⟩ : Raw)) ty168 hL ⟨⟨[v35], ⟨rfl, rfl, hone⟩, rfl⟩, List.nodup_nil, Wr.nil _⟩ fun w8 F' hc8 hm8 hF8 => ?_
      have hF9 : F' = [g] := by
        obtain ⟨b, o, cap, xs, hv, hF2, _⟩ := mine_parts hm8 (by intro e; have h := congrArg List.length e; rw [List.length_set, hM7.len] at h; simp only [List.length_nil] at h; omega)
        subst hF2
        have := hF8 b (by simp)
        simpa using this
      subst hF9
      refine ⟨_, hM7.store htn' hc8 hm8 (T' := upT T (t + 1)) (a := w6.heap.size) (b := w7.heap.size) ?_ hi6 hg6 ?_⟩
      · have : upT T (t + 1) t = T t := by unfold upT; rw [if_pos (by omega)]
        rw [this]; exact ho7.toI
      · intro k hk
        unfold upT
        by_cases h : k < t
        · rw [if_pos h, if_pos (by omega)]
        · rw [if_neg h, if_neg (by omega)]
    · have hpl' := of_decide_eq_false hpl
      have hTt : T t = [] := by
        rw [hTd, if_neg fun h => hpl' ⟨h, (hatl t).2⟩]
      have : upT T (t + 1) = upT T t := by
        funext k
        unfold upT
        by_cases h : k = t
        · subst h; rw [if_pos (by omega), if_neg (by omega), hTt]
        · by_cases h2 : k < t
          · rw [if_pos h2, if_pos (by omega)]
          · rw [if_neg h2, if_neg (by omega)]
      exact ⟨vs, by rw [this]; exact hM6⟩
  rintro u9 w9 ⟨vs, hM9⟩
  have hupt : ∀ u, u ≤ t → upT T (t + 1) u = T u := fun u hu => by unfold upT; rw [if_pos (by omega)]
  generalize hT' : upT T (t + 1) = T' at *
  refine rd_indexN u174 ty168 (α := Raw) (i := t) hM9.seen.is (by rw [hM9.len]; exact htn') fun b1 o1 hA1 => ?_
  refine rd_load ty168 hA1 (Ext.refl _) fun v40 h40 => ?_
  have hv40 : v40 = (vs[t]'(by rw [hM9.len]; exact htn')).v := by
    obtain ⟨F, cs, ⟨_, rfl, _⟩, hv⟩ := h40
    exact hv
  have hel : ∀ {w : World} {lo hi : Nat} {out : Value} {L : List DRace} (hM : MI w2 w lo hi g n out L vs T') (u : Nat) (hu : u ≤ t), Is w (vs[u]'(by rw [hM9.len]; omega)).v (T u) := fun hM u hu => by
    obtain ⟨_, _, ho, _⟩ := hM.el u (by rw [hM.len]; omega)
    have := ho.is
    rwa [hupt u hu] at this
  refine rd_len (l := T t) u168 (by rw [hv40]; exact hel hM9 t (Nat.le_refl _)) ?_
  have hsn : (T t).length ≤ 12 := hTl t
  refine loopC (T t).length (fun k us w' => ∃ (out : Value) (lo hi : Nat), us = [out, .int .i64 (k : Int)] ∧ k ≤ (T t).length ∧ MI w2 w' lo hi g n out (gT T t ++ gA (upTo T t) ((T t).take k)) vs T') 0 (Nat.zero_le _) ⟨out, lo, hi, rfl, Nat.zero_le _, by simpa [gA] using hM9⟩ ?_
  rintro i mk10 u10 w10 hkm10 ⟨out10, lo10, hi10, hu10, hi10l, hM10⟩
  simp only [List.map_cons, List.map_nil, List.cons.injEq, and_true] at hu10
  obtain ⟨hu101, hu102⟩ := hu10
  rw [hu101, hu102]
  refine rd_lss ?_
  refine br (fun hlt10 => ?_) (fun hge10 => ?_)
  case refine_2 =>
    have hil : i = (T t).length := by omega
    subst hil
    refine rd_inc (by omega) ?_
    refine ⟨mk - 1, by omega, t + 1, by omega, out10, lo10, hi10, vs, rfl, by omega, ?_⟩
    rw [hT']
    have e : gT T (t + 1) = gT T t ++ gA (upTo T t) (T t) := range_flat t
    rw [e]
    rw [List.take_length] at hM10
    exact hM10
  have hi' : i < (T t).length := by omega
  refine rd_indexN u168 ty171 (i := i) (by rw [hv40]; exact hel hM10 t (Nat.le_refl _)) hi' fun b2 o2 hA2 => ?_
  refine rd_load ty171 hA2 (Ext.refl _) fun v45 h45 => ?_
  refine op_varZ (α := DTouch) zl171 fun w11 hx11 hv11 => ?_
  have hlt11 := hv11.lt
  refine opu_varA (lo := 0) (hi := 0) ty171 hv11 (flat_own (h45.ext hx11)) (.inr (Nat.zero_le _)) fun w12 hc12 hv12 => ?_
  have hx12 : Ext w10 w12 := hx11.chgI hc12 (Nat.le_refl _)
  have hM12 := hM10.step hx12
  generalize hag : (T t)[i] = a at *
  have hx10h : lo10 ≤ w10.heap.size ∧ hi10 ≤ w10.heap.size := ⟨by have := hM10.h2; have := hM10.h3; omega, hM10.h3⟩
  generalize w10.heap.size = g10 at *
  refine rd_cutF (α := Raw) u174 ty168 (b := g) (o := 0) (k := t) (n := n) (cap := n) (by omega) (Nat.le_refl _) ?_
  refine rd_lenV u174 ?_
  refine loopC t (fun k us w' => ∃ (out : Value) (lo hi : Nat), us = [out, .int .i64 (k : Int)] ∧ k ≤ t ∧ MI w2 w' lo hi g n out (gT T t ++ gA (upTo T t) ((T t).take i) ++ ((upTo T t).take k).flatMap (gB a)) vs T' ∧ VarI 0 0 w' g10 a ∧ (g10 < lo ∨ hi ≤ g10)) 0 (Nat.zero_le _) ⟨out10, lo10, hi10, rfl, Nat.zero_le _, by simpa using hM12, hv12, .inr hx10h.2⟩ ?_
  rintro u mk13 u13 w13 hkm13 ⟨out13, lo13, hi13, hu13, hul, hM13, hv13, hg13⟩
  simp only [List.map_cons, List.map_nil, List.cons.injEq, and_true] at hu13
  obtain ⟨hu131, hu132⟩ := hu13
  rw [hu131, hu132]
  have hupl : (upTo T t).length = t := by simp [upTo]
  refine rd_lss ?_
  refine br (fun hlt13 => ?_) (fun hge13 => ?_)
  case refine_2 =>
    have hul : u = t := by omega
    refine rd_inc (by omega) ?_
    refine ⟨mk10 - 1, by omega, i + 1, by omega, out13, lo13, hi13, rfl, by omega, ?_⟩
    have e : gA (upTo T t) ((T t).take (i + 1)) = gA (upTo T t) ((T t).take i) ++ (upTo T t).flatMap (gB a) := by
      unfold gA
      rw [flatMap_take hi', hag]
      rfl
    rw [e, ← List.append_assoc]
    rw [show (upTo T t).take u = upTo T t from List.take_of_length_le (by omega)] at hM13
    exact hM13
  have hu' : u < t := by omega
  have hgetu : (upTo T t)[u]'(by rw [hupl]; exact hu') = T u := by simp [upTo]
  refine rd_indexN u174 ty168 (α := Raw) (i := u) (hM13.row_at (by omega) (by omega)) (by rw [List.length_take, hM13.len]; omega) fun b3 o3 hA3 => ?_
  refine rd_load ty168 hA3 (Ext.refl _) fun v53 h53 => ?_
  have hv53 : v53 = (vs[u]'(by rw [hM9.len]; omega)).v := by
    obtain ⟨F, cs, ⟨_, rfl, _⟩, hv⟩ := h53
    simpa [mkv, Rep.agg] using hv
  refine rd_len (l := T u) u168 (by rw [hv53]; exact hel hM13 u (by omega)) ?_
  refine loopC (T u).length (fun k us w' => ∃ (out : Value) (lo hi : Nat), us = [out, .int .i64 (k : Int)] ∧ k ≤ (T u).length ∧ MI w2 w' lo hi g n out (gT T t ++ gA (upTo T t) ((T t).take i) ++ ((upTo T t).take u).flatMap (gB a) ++ ((T u).take k).flatMap (clR a)) vs T' ∧ VarI 0 0 w' g10 a ∧ (g10 < lo ∨ hi ≤ g10)) 0 (Nat.zero_le _) ⟨out13, lo13, hi13, rfl, Nat.zero_le _, by simpa using hM13, hv13, hg13⟩ ?_
  rintro j mk16 u16 w16 hkm16 ⟨out16, lo16, hi16, hu16, hjl, hM16, hv16, hg16⟩
  simp only [List.map_cons, List.map_nil, List.cons.injEq, and_true] at hu16
  obtain ⟨hu161, hu162⟩ := hu16
  rw [hu161, hu162]
  have hsu : (T u).length ≤ 12 := hTl u
  refine rd_lss ?_
  refine br (fun hlt16 => ?_) (fun hge16 => ?_)
  case refine_2 =>
    have hjl : j = (T u).length := by omega
    subst hjl
    refine rd_inc (by omega) ?_
    refine ⟨mk13 - 1, by omega, u + 1, by omega, out16, lo16, hi16, rfl, by omega, ?_, hv16, hg16⟩
    rw [flatMap_take (by rw [hupl]; exact hu'), hgetu, ← List.append_assoc]
    rw [List.take_length] at hM16
    exact hM16
  have hj' : j < (T u).length := by omega
  refine rd_indexN u168 ty171 (i := j) (by rw [hv53]; exact hel hM16 u (by omega)) hj' fun b4 o4 hA4 => ?_
  refine rd_load ty171 hA4 (Ext.refl _) fun v59 h59 => ?_
  refine op_varZ (α := DTouch) zl171 fun w17 hx17 hv17 => ?_
  have hlt17 := hv17.lt
  refine opu_varA (lo := 0) (hi := 0) ty171 hv17 (flat_own (h59.ext hx17)) (.inr (Nat.zero_le _)) fun w18 hc18 hv18 => ?_
  have hx18 : Ext w16 w18 := hx17.chgI hc18 (Nat.le_refl _)
  have hM18 := hM16.step hx18
  have hvb : VarI 0 0 w18 g10 a := hv16.ext hx18
  generalize hbg : (T u)[j] = b at *
  refine rd_varI ty171 hvb (Ext.refl _) fun v60 h60 => ?_
  refine rd_varI ty171 hv18 (Ext.refl _) fun v61 h61 => ?_
  refine (clash_ok h60.is (Ext.refl _) h61.is (Ext.refl _)).mono ?_
  rintro _ w19 ⟨hx19, rfl⟩
  have hM19 := hM18.step hx19
  refine br_b (fun hcl => ?_) (fun hcl => ?_)
  · have hcl' := of_decide_eq_true hcl
    refine rd_varI ty171 hvb hx19 fun v64 h64 => ?_
    refine rd_varI ty171 hv18 hx19 fun v65 h65 => ?_
    refine (raceOf_ok h64.is hx19 h65.is hx19).mono ?_
    rintro v66 w20 ⟨hx20, ho20⟩
    have hM20 := hM19.step hx20
    have hlen : (gT T t ++ gA (upTo T t) ((T t).take i) ++ ((upTo T t).take u).flatMap (gB a) ++ ((T u).take j).flatMap (clR a)).length ≤ 10000 := by
      have q1 := gT_len hTl (n := t) (by omega)
      have hup : ∀ L ∈ upTo T t, L.length ≤ 12 := fun L hL => by
        simp only [upTo, List.mem_map] at hL
        obtain ⟨u, _, rfl⟩ := hL
        exact hTl u
      have q2 := gA_len (Ls := upTo T t) (xs := (T t).take i) (by omega) hup (by rw [List.length_take]; omega)
      have q3 := gL_len (Ls := (upTo T t).take u) a (by rw [List.length_take]; omega) fun L hL => hup L (List.mem_of_mem_take hL)
      have q4 := gB_len a (bs := (T u).take j) (by rw [List.length_take]; omega)
      unfold gL at q3
      unfold gB at q4
      simp only [List.length_append]
      unfold gB at *
      omega
    refine op_pushD1 u61 ty117 z117 zc117 (by decide) hM20.row (ho20 0 0) (by rw [maxLen_eq]; omega) (by omega) fun v68 w21 lo21 hi21 hc21 hr21 hd21 => ?_
    have hM21 := hM20.push hc21 hr21 hd21
    refine rd_inc (by omega) ?_
    have hgs : g10 < w20.heap.size := by have := hvb.lt; have := hx19.size; have := hx20.size; omega
    refine ⟨mk16 - 1, by omega, j + 1, by omega, v68, lo21, hi21, rfl, by omega, ?_, (((hvb.ext hx19).ext hx20).chg hc21 (.inl (Nat.zero_le _)) hg16), by omega⟩
    rw [flatMap_take hj', ← List.append_assoc]
    have : clR a (T u)[j] = [raceOf a b] := by rw [hbg]; unfold clR; rw [if_pos hcl']
    rw [this]
    exact hM21
  · have hcl' := of_decide_eq_false hcl
    refine rd_inc (by omega) ?_
    refine ⟨mk16 - 1, by omega, j + 1, by omega, out16, lo16, hi16, rfl, by omega, ?_, hvb.ext hx19, hg16⟩
    rw [flatMap_take hj']
    have : clR a (T u)[j] = [] := by rw [hbg]; unfold clR; rw [if_neg hcl']
    rw [this, List.append_nil]
    exact hM19
end Go.Proofs.YteephmhilnlkpaaGreat
