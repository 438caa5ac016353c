/-
  TakeFront: the program's and the reference's answer alike: the law FnExactTakeFront returns true for every input.
-/
import Derived.Test.YthieonacgnppiaaInts
namespace Go.Proofs.Ythieonacgnppiaa
open Go Go.Sh Go.Proofs

theorem rd_neqB {P : Program} {w : World} {K : Value → Prop} {t : TypeId} {x y : Operand} {a b : Bool} (ht : P.underlying t = some .bool) (k : K (.bool (decide (a ≠ b)))) : RD P (bin .neq t x y (.bool a) (.bool b)) w K :=
  rd_of (fun w' _ => by
    have := run_neq_bool (P := P) w' t a b ht
    cases a <;> cases b <;> simp_all [bin, eqGuard]) k
theorem uBool : Try.prog.underlying 4 = some .bool := by kernel_rfl

def takeFront : List Int → Int × List Int × Bool
  | [] => (0, [], false)
  | x :: t => (x, t, true)

theorem specTakeFront_ok {w w0 : World} {v : Value} {l : List Int} (h : Is w0 v l) (hx : Ext w0 w) (hn : l.length ≤ 1048576) :
    CALL Try.prog 11 [v] w fun r w' => Ext w w' ∧ ∃ u, r = .tuple #[.int .i64 (takeFront l).1, u, .bool (takeFront l).2.2] ∧ Own w.heap.size w' u (takeFront l).2.1 := by
  refine F11_call ?_
  unfold F11
  refine rd_len uInts h ?_
  refine rd_eql ?_
  refine br (fun h0 => ?_) (fun h0 => ?_)
  · have : l = [] := List.eq_nil_of_length_eq_zero (by omega)
    subst this
    refine op_build0 (α := Int) uInts tyInt fun a1 w1 hx1 hr1 => ?_
    exact ⟨hx1, _, rfl, hr1.own⟩
  · match l, h, hn, h0 with
    | y :: t, h, hn, _ =>
      have hx1 := ext_drew w
      have hlt : t.length ≤ 1048576 := by simp at hn; omega
      refine rd_index uInts tyInt h (by omega) (by simp) fun b o hA => ?_
      refine rd_loadI tyInt hA (hx.trans hx1) fun hI => ?_
      refine rd_slice_from uInts tyInt h (by omega) (by simp) fun v2 hv2 => ?_
      refine op_build0 (α := Int) uInts tyInt fun a1 w1 hx1' hr1 => ⟨hx1', ?_⟩
      refine op_append_new uInts tyInt zcInt hr1 hv2 ((hx.trans hx1).trans hx1') hx1'.size (by simp; omega) fun v3 w2 hx2 hr2 => ⟨hx2, ?_⟩
      exact ⟨(hx1.trans hx1').trans hx2, v3, rfl, hr2.own⟩
theorem implTakeFront_ok {w w0 : World} {v : Value} {l : List Int} (h : Is w0 v l) (hx : Ext w0 w) (hn : l.length ≤ 1048576) :
    CALL Try.prog 13 [v] w fun r w' => Ext w w' ∧ ∃ u, r = .tuple #[.int .i64 (takeFront l).1, u, .bool (takeFront l).2.2] ∧ Own w.heap.size w' u (takeFront l).2.1 := by
  refine F13_call ?_
  unfold F13
  refine rd_len uInts h ?_
  refine rd_eql ?_
  refine br (fun h0 => ?_) (fun h0 => ?_)
  · have : l = [] := List.eq_nil_of_length_eq_zero (by omega)
    subst this
    exact ⟨Ext.refl w, _, rfl, own_nil rfl⟩
  · match l, h, hn, h0 with
    | y :: t, h, hn, _ =>
      have hx1 := ext_drew w
      have hlt : t.length ≤ 1048576 := by simp at hn; omega
      refine rd_index uInts tyInt h (by omega) (by simp) fun b o hA => ?_
      refine rd_loadI tyInt hA (hx.trans hx1) fun hI => ?_
      refine rd_slice_from uInts tyInt h (by omega) (by simp) fun v2 hv2 => ?_
      refine (clone_ok hv2 (hx.trans hx1) (by simp; omega)).mono ?_
      rintro v3 w2 ⟨hx2, ho2⟩
      exact ⟨hx2, hx1.trans hx2, v3, rfl, ho2⟩
theorem takeFront_len (l : List Int) : (takeFront l).2.1.length ≤ l.length := by cases l <;> simp [takeFront]

theorem law_ok {w : World} {v : Value} {l : List Int} (h : Is w v l) :
    CALL Try.prog 3 [v] w fun r w' => Ext w w' ∧ r = .bool true := by
  refine F3_call ?_
  unfold F3
  refine rd_len uInts h ?_
  refine rd_gtr ?_
  refine br (fun _ => ⟨Ext.refl w, rfl⟩) (fun hn => ?_)
  have hn : l.length ≤ 1048576 := by omega
  have htl := takeFront_len l
  -- the reference
  refine (toIntS_ok h hn).mono ?_
  rintro x21 w1 ⟨hx1, ho1⟩
  refine (specTakeFront_ok ho1.is (Ext.refl w1) hn).mono ?_
  rintro _ w2 ⟨hx2, u2, rfl, ho2⟩
  refine rd_extract rfl ?_
  refine rd_extract rfl ?_
  refine rd_extract rfl ?_
  have hx02 := hx1.trans hx2
  -- the program
  refine (toIntS_ok (h.ext hx02) hn).mono ?_
  rintro x27 w3 ⟨hx3, ho3⟩
  refine (implTakeFront_ok ho3.is (Ext.refl w3) hn).mono ?_
  rintro _ w4 ⟨hx4, u4, rfl, ho4⟩
  refine rd_extract rfl ?_
  refine rd_extract rfl ?_
  refine rd_extract rfl ?_
  have hx24 := hx3.trans hx4
  have hx04 := hx02.trans hx24
  refine rd_neq ?_
  refine br (fun h => absurd rfl h) (fun _ => ?_)
  refine (eqIntS_ok ho4.is ho2.is (Ext.refl w4) hx24).mono ?_
  rintro _ w5 ⟨hx5, rfl⟩
  refine rd_nodec ?_
  refine br (fun h => absurd rfl h) (fun _ => ?_)
  refine rd_neqB uBool ?_
  refine br (fun h => absurd rfl h) (fun _ => ?_)
  have hx05 := hx04.trans hx5
  -- the argument is as it was
  refine (toIntS_ok (h.ext hx05) hn).mono ?_
  rintro x50 w6 ⟨hx6, ho6⟩
  refine (eqIntS_ok ho3.is ho6.is (hx4.trans (hx5.trans hx6)) (Ext.refl w6)).mono ?_
  rintro _ w7 ⟨hx7, rfl⟩
  refine rd_nodec ?_
  refine br (fun h => absurd rfl h) (fun _ => ?_)
  -- the argument is marked
  obtain ⟨F3, hm3, hl3⟩ := ho3
  have hx37 : Ext w3 w7 := hx4.trans (hx5.trans (hx6.trans hx7))
  refine (markIntS_ok (hm3.ext hx37) (by omega) (by omega) (by omega)).mono ?_
  rintro _ w8 ⟨rfl, hc8, hm8⟩
  refine rd_lss ?_
  refine br (fun h => by omega) (fun _ => ?_)
  refine rd_neq ?_
  refine br (fun h => absurd rfl h) (fun _ => ?_)
  have hx08 : Ext w w8 := (hx05.trans (hx6.trans hx7)).chg_trans hc8 fun b hb => Nat.le_trans hx02.size (hl3 b hb)
  obtain ⟨F4, hm4, hl4⟩ := ho4
  have hd34 : ∀ b ∈ F4, b ∉ F3 := fun b hb h3 => by have := hl4 b hb; have := hm3.lt b h3; omega
  have hx47 : Ext w4 w7 := hx5.trans (hx6.trans hx7)
  have hm4' : Mine F4 w8 u4 (takeFront l).2.1 := (hm4.ext hx47).keep fun b hb => hc8.block b ((hm4.ext hx47).lt b hb) (hd34 b hb)
  obtain ⟨F2, hm2, hl2⟩ := ho2
  have hx27 : Ext w2 w7 := hx24.trans hx47
  have hd23 : ∀ b ∈ F2, b ∉ F3 := fun b hb h3 => by have := hl3 b h3; have := hm2.lt b hb; omega
  have hm2' : Mine F2 w8 u2 (takeFront l).2.1 := (hm2.ext hx27).keep fun b hb => hc8.block b ((hm2.ext hx27).lt b hb) (hd23 b hb)
  refine (eqIntS_ok hm4'.is hm2'.is (Ext.refl w8) (Ext.refl w8)).mono ?_
  rintro _ w9 ⟨hx9, rfl⟩
  refine rd_nodec ?_
  refine br (fun h => absurd rfl h) (fun _ => ?_)
  refine rd_neqB uBool ?_
  refine br (fun h => absurd rfl h) (fun _ => ?_)
  -- the answer is marked
  refine (markIntS_ok (hm4'.ext hx9) (by omega) (by omega) (by omega)).mono ?_
  rintro _ w10 ⟨rfl, hc10, hm10⟩
  have hx010 : Ext w w10 := (hx08.trans hx9).chg_trans hc10 fun b hb => Nat.le_trans (hx02.trans hx3).size (hl4 b hb)
  refine (heldIntS_ok hm10.is (Ext.refl w10) (by omega) (by omega) (by omega)).mono ?_
  rintro _ w11 ⟨rfl, hx11⟩
  refine rd_lss ?_
  refine br (fun h => by omega) (fun _ => ?_)
  refine rd_neq ?_
  refine br (fun h => absurd rfl h) (fun _ => ?_)
  have hx011 := hx010.trans hx11
  -- again
  refine (toIntS_ok (h.ext hx011) hn).mono ?_
  rintro x87 w12 ⟨hx12, ho12⟩
  refine (implTakeFront_ok ho12.is (Ext.refl w12) hn).mono ?_
  rintro _ w13 ⟨hx13, u13, rfl, ho13⟩
  refine rd_extract rfl ?_
  refine rd_extract rfl ?_
  refine rd_extract rfl ?_
  refine rd_neq ?_
  refine br (fun h => absurd rfl h) (fun _ => ?_)
  have hd24 : ∀ b ∈ F2, b ∉ F4 := fun b hb h4 => by have := hl4 b h4; have := hm2.lt b hb; have := hx3.size; omega
  have hm2'' : Mine F2 w10 u2 (takeFront l).2.1 := (hm2'.ext hx9).keep fun b hb => hc10.block b ((hm2'.ext hx9).lt b hb) (hd24 b hb)
  refine (eqIntS_ok ho13.is hm2''.is (Ext.refl w13) (hx11.trans (hx12.trans hx13))).mono ?_
  rintro _ w14 ⟨hx14, rfl⟩
  refine rd_nodec ?_
  refine br (fun h => absurd rfl h) (fun _ => ?_)
  refine rd_neqB uBool ?_
  refine br (fun h => absurd rfl h) (fun _ => ?_)
  refine (heldIntS_ok hm10.is (hx11.trans (hx12.trans (hx13.trans hx14))) (by omega) (by omega) (by omega)).mono ?_
  rintro _ w15 ⟨rfl, hx15⟩
  refine rd_lss ?_
  refine br (fun h => by omega) (fun _ => ?_)
  refine rd_neq ?_
  refine br (fun h => absurd rfl h) (fun _ => ?_)
  exact ⟨hx011.trans (hx12.trans (hx13.trans (hx14.trans hx15))), rfl⟩
end Go.Proofs.Ythieonacgnppiaa
