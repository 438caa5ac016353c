/-
  Parts of the proof, put together by program.
-/
import Derived.Test.YtjgfldfbljmhhaaGreatPRacesOf5
namespace Go.Proofs.YtjgfldfbljmhhaaGreat
open Go Go.Sh Go.Proofs
set_option linter.unusedVariables false
set_option linter.unusedSimpArgs false
open Rep (rep)
def F196 (a0 : Value) (w : World) (R : VW) : Prop :=
 NIL a0 <|
 RD tp (Instr.fieldAt 144 a0 0) w fun x5 =>
 RD tp (Instr.fieldAt 35 x5 2) w fun x6 =>
 RD tp (Instr.loadAt 22 x6) w fun x7 =>
 CALL tp 242 [x7, (Value.string (ByteArray.mk #[109, 97, 105, 110]))] w fun x8 w =>
 R x8 w
def cfg196 : Cfg := ⟨extL, [], [], [], [], [], []⟩
theorem F196_eq (a0 : Value) (w : World) (R : VW) : vcF Tryz.prog cfg196 Tryz.f196 [a0] w R = F196 a0 w R := by kernel_rfl
theorem F196_call {a0 : Value} {w : World} {R : VW} (h : F196 a0 w R) : CALL Tryz.prog 196 [a0] w R :=
 call_of (g := cfg196) ent mixed Tryz.func196 (Nat.le_of_ble_eq_true (by kernel_rfl)) (by kernel_rfl) (F196_eq a0 w R ▸ h)
def F128 (a0 : Value) (w : World) (R : VW) : Prop :=
 CALL tp 196 [a0] w fun x6 w =>
 RD tp (convert 3 77 x6) w fun x7 =>
 RD tp (bin .shl 3 U0 T0 (Value.int .i64 1) x7) w fun x8 =>
 LOOPI [2, 3] [x8, (Value.bool true)] w fun u2 w next2 =>
 BR (u2 3)
 (NIL a0 <|
 RD tp (Instr.fieldAt 144 a0 4) w fun x13 =>
 RD tp (Instr.loadAt 23 x13) w fun x14 =>
 CALL tp 195 [x14, (u2 2)] w fun x16 w =>
 NIL a0 <|
 RD tp (Instr.fieldAt 144 a0 6) w fun x18 =>
 OPU tp (Instr.storeAt 3 x18 x16) w fun w =>
 (fun w => NIL a0 <|
 RD tp (Instr.fieldAt 144 a0 3) w fun x22 =>
 RD tp (Instr.loadAt 23 x22) w fun x23 =>
 NIL a0 <|
 RD tp (Instr.fieldAt 144 a0 6) w fun x26 =>
 RD tp (Instr.loadAt 3 x26) w fun x27 =>
 (fun w_ => CALL tp 195 [x23, x27] w_ fun x28 w =>
 Ext w_ w ∧
 RD tp (bin .or 3 T0 T0 (u2 2) x28) w fun x29 =>
 RD tp (bin .neq 3 T0 T0 x29 (u2 2)) w fun x32 =>
 next2 [x29, x32] w) w) (World.drew1 w))
 (NIL a0 <|
 RD tp (Instr.fieldAt 144 a0 5) w fun x37 =>
 OPU tp (Instr.storeAt 3 x37 (u2 2)) w fun w =>
 R (Value.tuple #[]) w)
def cfg128 : Cfg := ⟨extL, [], [(2, 17179868700, [2, 3])], [(4, [0, 1, 2, 3, 4, 5, 6, 7, 8, 9, 10, 11], 512)], [], [], []⟩
theorem F128_eq (a0 : Value) (w : World) (R : VW) : vcF Tryz.prog cfg128 Tryz.f128 [a0] w R = F128 a0 w R := by kernel_rfl
theorem F128_call {a0 : Value} {w : World} {R : VW} (h : F128 a0 w R) : CALL Tryz.prog 128 [a0] w R :=
 call_of (g := cfg128) ent mixed Tryz.func128 (Nat.le_of_ble_eq_true (by kernel_rfl)) (by kernel_rfl) (F128_eq a0 w R ▸ h)
def F64 (a0 : Value) (w : World) (R : VW) : Prop :=
 OP tp (Instr.box 35 a0) w fun x1 w =>
 RD tp (Instr.loadAt 35 x1) w fun x7 =>
 CALL tp 125 [x7] w fun x8 w =>
 RD tp (Op.unary .not x8) w fun x9 =>
 BR x9
 (R (Value.tuple #[(Value.pointer none), (Value.bool false)]) w)
 ((fun w => RD tp (Instr.loadAt 35 x1) w fun x10 =>
 RD tp (Instr.fieldAt 35 x1 4) w fun x11 =>
 RD tp (Instr.loadAt 33 x11) w fun x12 =>
 RD tp (ln 33 3 x12) w fun x13 =>
 (fun w_ => OP tp (Instr.makeSlice 72 x13 x13) w_ fun x14 w =>
 Ext w_ w ∧
 (RD tp (Instr.build 144 #[(0, x10), (1, x14)]) w fun x15 =>
 OP tp (Instr.box 144 x15) w fun x16 w =>
 RD tp (Instr.fieldAt 35 x1 3) w fun x17 =>
 RD tp (Instr.loadAt 23 x17) w fun x18 =>
 RD tp (ln 23 3 x18) w fun x19 =>
 LOOPI [20] [(Value.int .i64 0)] w fun u5 w next5 =>
 RD tp (bin .lss 3 T0 T0 (u5 20) x19) w fun x21 =>
 BR x21
 (RD tp (Instr.indexAt 23 x18 (u5 20)) w fun x22 =>
 RD tp (Instr.loadAt 3 x22) w fun x23 =>
 NIL x16 <|
 RD tp (Instr.fieldAt 144 x16 1) w fun x26 =>
 RD tp (Instr.loadAt 72 x26) w fun x27 =>
 RD tp (Instr.indexAt 72 x27 x23) w fun x29 =>
 OPU tp (Instr.storeAt 4 x29 (Value.bool true)) w fun w =>
 NIL x16 <|
 RD tp (Instr.fieldAt 144 x16 1) w fun x33 =>
 RD tp (Instr.loadAt 72 x33) w fun x34 =>
 CALL tp 126 [x16, x34, x23] w fun x36 w =>
 RD tp (bin .add 3 T0 U0 (u5 20) (Value.int .i64 1)) w fun x37 =>
 next5 [x37] w)
 (CALL tp 127 [x16] w fun x39 w =>
 CALL tp 128 [x16] w fun x41 w =>
 R (Value.tuple #[x16, (Value.bool true)]) w))) w) (World.drew1 w))
def cfg64 : Cfg := ⟨extL, [], [(5, 274876858432, [20])], [(3, [0, 1, 2, 3, 4, 5, 6, 7], 16)], [], [], []⟩
theorem F64_eq (a0 : Value) (w : World) (R : VW) : vcF Tryz.prog cfg64 Tryz.f64 [a0] w R = F64 a0 w R := by kernel_rfl
theorem F64_call {a0 : Value} {w : World} {R : VW} (h : F64 a0 w R) : CALL Tryz.prog 64 [a0] w R :=
 call_of (g := cfg64) ent mixed Tryz.func64 (Nat.le_of_ble_eq_true (by kernel_rfl)) (by kernel_rfl) (F64_eq a0 w R ▸ h)
set_option linter.unusedVariables false
set_option linter.unusedSimpArgs false
open Rep (rep)
theorem at_int {w : World} {g e o : Nat} {cs : List Value} {x : Int} (hB : Blk g e w cs) (ho : cs[o]? = some (.int .i64 x)) (hx : I64 x) : At w g o x := by
 refine ⟨[], [.int .i64 x], ⟨rfl, rfl, hx⟩, fun i u hi => ?_⟩
 have : i = 0 := by
   cases i with
   | zero => rfl
   | succ i => simp at hi
 subst this
 simp only [List.getElem?_cons_zero, Option.some.injEq] at hi
 subst hi
 have := hB.range o _ ho
 rw [Nat.zero_add] at this
 exact this
section
variable {W0 w w' : World} {b e m g6 g7 g8 : Nat} {c : DCode} {kc : List Value} {c6 c7 c8 : List Nat} {x9 x10 y9 y10 : Value}
theorem FC.cells (h : FC W0 w b e c kc m g6 g7 g8 c6 c7 c8 x9 x10) (hc : ChgI b (b + 1) w w') (hB : Blk b e w' (kc ++ [.slice (some ⟨m, 0, none⟩) c.ins.length c.ins.length, sl g6 c.procs.length, sl g7 c.procs.length, sl g8 c.procs.length, y9, y10])) : FC W0 w' b e c kc m g6 g7 g8 c6 c7 c8 y9 y10 :=
 ⟨h.wb.cells hc hB, mine_chg h.m6 hc.one (by simp [h.n6]), mine_chg h.m7 hc.one (by simp [h.n7]), mine_chg h.m8 hc.one (by simp [h.n8]), h.n6, h.n7, h.n8, h.d67, h.d68, h.d78⟩
theorem FC.store9 {x : Nat} {K : World → Prop} (h : FC W0 w b e c kc m g6 g7 g8 c6 c7 c8 x9 x10) (k : ∀ w', FC W0 w' b e c kc m g6 g7 g8 c6 c7 c8 (.int .i64 (x : Int)) x10 → K w') : OPU Tryz.prog (Instr.storeAt 3 (.pointer (some ⟨b, 0 + 9, none⟩)) (.int .i64 (x : Int))) w K := by
 have hl : 9 < (kc ++ [Value.slice (some ⟨m, 0, none⟩) c.ins.length c.ins.length, sl g6 c.procs.length, sl g7 c.procs.length, sl g8 c.procs.length, x9, x10]).length := by rw [List.length_append, h.wb.k5]; simp
 refine opu_blkC (α := Raw) (lo := 0) (hi := 0) ty3 rfl rfl h.wb.blk hl (ownI_raw rfl) fun w2 hc2 hB2 => ?_
 have := h.wb.set 4 (.int .i64 (x : Int))
 rw [show 5 + 4 = 0 + 9 by omega] at this
 rw [this] at hB2
 exact k w2 (h.cells hc2 hB2)
theorem FC.store10 {x : Nat} {K : World → Prop} (h : FC W0 w b e c kc m g6 g7 g8 c6 c7 c8 x9 x10) (k : ∀ w', FC W0 w' b e c kc m g6 g7 g8 c6 c7 c8 x9 (.int .i64 (x : Int)) → K w') : OPU Tryz.prog (Instr.storeAt 3 (.pointer (some ⟨b, 0 + 10, none⟩)) (.int .i64 (x : Int))) w K := by
 have hl : 10 < (kc ++ [Value.slice (some ⟨m, 0, none⟩) c.ins.length c.ins.length, sl g6 c.procs.length, sl g7 c.procs.length, sl g8 c.procs.length, x9, x10]).length := by rw [List.length_append, h.wb.k5]; simp
 refine opu_blkC (α := Raw) (lo := 0) (hi := 0) ty3 rfl rfl h.wb.blk hl (ownI_raw rfl) fun w2 hc2 hB2 => ?_
 have := h.wb.set 5 (.int .i64 (x : Int))
 rw [show 5 + 5 = 0 + 10 by omega] at this
 rw [this] at hB2
 exact k w2 (h.cells hc2 hB2)
end
theorem mainProc_ok {w : World} {b : Nat} {c : DCode} (hA : At w b 0 c) (hc : CodeR c) :
   CALL Tryz.prog 196 [.pointer (some ⟨b, 0, none⟩)] w fun r w' => Ext w w' ∧ r = .int .i64 (mainN c : Nat) := by
 refine F196_call ?_
 unfold F196
 refine NIL.mk rfl ?_
 refine rd_fld fd144_0 ?_
 refine rd_fld fd35_2 ?_
 refine rd_load ty22 (at_DCode_2 hA) (Ext.refl _) fun v15 h15 => ?_
 refine (indexStr_ok h15 (Ext.refl _)).mono ?_
 rintro _ w2 ⟨hx2, rfl⟩
 have := (main_lt' hc).1
 unfold mainS at this
 rw [this]
 exact ⟨hx2, rfl⟩
structure RM (c : DCode) (r : Nat) : Prop where
 lt : r < 2 ^ c.procs.length
 self : r.testBit (mainN c) = true
 snd : ∀ q, r.testBit q = true → RootP c q
noncomputable def usR (c : DCode) (r : Nat) : Nat := orL (frs c) (bitsL r)
theorem frs_bit {c : DCode} {q r : Nat} (hq : q < c.procs.length) : (nat0 (frs c) q).testBit r = true ↔ r < c.procs.length ∧ FromP c q r := by rw [frs_at hq, setN_bit]
theorem usR_bit {c : DCode} (h8 : c.procs.length ≤ 8) {r p : Nat} (h : RM c r) : (usR c r).testBit p = true ↔ ∃ q, q < c.procs.length ∧ r.testBit q = true ∧ p < c.procs.length ∧ FromP c q p := by
 unfold usR
 rw [orL_mask h.lt (by omega)]
 exact ⟨fun ⟨i, h1, h2, h3⟩ => ⟨i, h1, h2, (frs_bit h1).1 h3⟩, fun ⟨i, h1, h2, h3⟩ => ⟨i, h1, h2, (frs_bit h1).2 h3⟩⟩
theorem usR_lt {c : DCode} (h8 : c.procs.length ≤ 8) {r : Nat} (h : RM c r) : usR c r < 2 ^ c.procs.length := mask_lt fun p hp => by
 obtain ⟨_, _, _, h3, _⟩ := (usR_bit h8 h).1 hp; exact h3
theorem RM.start {c : DCode} (hc : CodeR c) : RM c (2 ^ mainN c) := ⟨Nat.pow_lt_pow_right (by omega) (main_lt' hc).2, by simp [Nat.testBit_two_pow], fun q hq => by simp [Nat.testBit_two_pow] at hq; exact hq ▸ .main⟩
theorem RM.more_bit {c : DCode} (h8 : c.procs.length ≤ 8) {r q : Nat} (h : RM c r) : (orL (cls c 5) (bitsL (usR c r))).testBit q = true ↔ ∃ p, p < c.procs.length ∧ (usR c r).testBit p = true ∧ q < c.procs.length ∧ OpsP c p 5 q := by
 rw [orL_mask (usR_lt h8 h) (by omega)]
 exact ⟨fun ⟨i, h1, h2, h3⟩ => ⟨i, h1, h2, (cls_bit h1).1 h3⟩, fun ⟨i, h1, h2, h3⟩ => ⟨i, h1, h2, (cls_bit h1).2 h3⟩⟩
theorem RM.more {c : DCode} (h8 : c.procs.length ≤ 8) {r : Nat} (h : RM c r) : RM c (r ||| orL (cls c 5) (bitsL (usR c r))) := by
 refine ⟨Nat.or_lt_two_pow h.lt (mask_lt fun q hq => by obtain ⟨_, _, _, h3, _⟩ := (h.more_bit h8).1 hq; exact h3), by rw [Nat.testBit_or, h.self]; rfl, fun q hq => ?_⟩
 rw [Nat.testBit_or, Bool.or_eq_true] at hq
 rcases hq with hq | hq
 · exact h.snd q hq
 · obtain ⟨p, h1, h2, h3, h4⟩ := (h.more_bit h8).1 hq
   obtain ⟨s, h5, h6, _, h7⟩ := (usR_bit h8 h).1 h2
   exact .spawn (h.snd s h6) h7 h4 h3
theorem RM.fin {c : DCode} (hc : CodeR c) (h8 : c.procs.length ≤ 8) {r : Nat} (h : RM c r) (he : r ||| orL (cls c 5) (bitsL (usR c r)) = r) : r = rootsN c ∧ usR c r = usedN c := by
 have hall : ∀ q, RootP c q → r.testBit q = true := fun q hq => by
   induction hq with
   | main => exact h.self
   | @spawn s p q h0 h1 h2 hq ih =>
     have hs := h0.lt hc
     rw [← he, Nat.testBit_or, (h.more_bit h8).2 ⟨p, h1.lt hs, (usR_bit h8 h).2 ⟨s, hs, ih, h1.lt hs, h1⟩, hq, h2⟩]
     simp
 refine ⟨eq_setN fun q => ⟨fun hq => ⟨(h.snd q hq).lt hc, h.snd q hq⟩, fun hq => hall q hq.2⟩, eq_setN fun p => ?_⟩
 rw [usR_bit h8 h]
 constructor
 · rintro ⟨q, h1, h2, h3, h4⟩
   exact ⟨h3, q, h.snd q h2, h4⟩
 · rintro ⟨h3, q, h1, h2⟩
   exact ⟨q, h1.lt hc, hall q h1, h3, h2⟩
theorem findRoots_ok {w W0 : World} {b e m g6 g7 g8 : Nat} {c : DCode} {kc : List Value} {x9 x10 : Value} (H : FC W0 w b e c kc m g6 g7 g8 (cls c 4) (cls c 5) (frs c) x9 x10) (hc : CodeR c) :
   CALL Tryz.prog 128 [.pointer (some ⟨b, 0, none⟩)] w fun r w' => r = .tuple #[] ∧ FC W0 w' b e c kc m g6 g7 g8 (cls c 4) (cls c 5) (frs c) (.int .i64 (rootsN c : Nat)) (.int .i64 (usedN c : Nat)) := by
 refine F128_call ?_
 unfold F128
 have h8 := hc.1.procs8
 have hml := (main_lt' hc).2
 refine (mainProc_ok H.wb.code_at hc).mono ?_
 rintro _ w1 ⟨hx1, rfl⟩
 have H1 := H.step hx1
 refine rd_uint (by kernel_rfl) u77 (by omega) ?_
 refine rd_shl1 (by omega) ?_
 have hR := RM.start hc
 have h8' : 2 ^ c.procs.length ≤ 256 := Nat.pow_le_pow_right (n := 2) (by omega) h8.1
 refine LOOPI.mk (fun mm us w' => ∃ (s : Nat) (ag : Bool) (y : Value), us = [.int .i64 (s : Int), .bool ag] ∧ mm = (256 - s) + (if ag then 1 else 0) ∧ FC W0 w' b e c kc m g6 g7 g8 (cls c 4) (cls c 5) (frs c) x9 y ∧ RM c s ∧ (ag = false → s = rootsN c ∧ y = .int .i64 (usedN c : Nat))) (256 - 2 ^ mainN c + 1) ⟨2 ^ mainN c, true, x10, rfl, rfl, H1, hR, fun e => by cases e⟩ ?_
 rintro mm u2 w2 ⟨s, ag, y, hu, hm, H2, hR2, hend⟩
 simp only [List.map_cons, List.map_nil, List.cons.injEq, and_true] at hu
 obtain ⟨hu1, hu2⟩ := hu
 rw [hu1, hu2]
 have hs256 : s < 256 := Nat.lt_of_lt_of_le hR2.lt h8'
 refine br_b (fun hag => ?_) (fun hag => ?_)
 · rw [hag, if_pos rfl] at hm
   refine NIL.mk rfl ?_
   refine rd_fld fd144_4 ?_
   refine rd_blkV ty23 H2.wb.blk (H2.wb.cell 3) ?_
   refine (unionOf_ok H2.m8.is (Ext.refl _) (frs256 h8.1) (by rw [frs_len]; exact h8.1) (m := s) (by rw [frs_len]; exact hR2.lt)).mono ?_
   rintro _ w3 ⟨hx3, rfl⟩
   have H3 := H2.step hx3
   have hul := usR_lt h8.1 hR2
   have hu256 : usR c s < 256 := Nat.lt_of_lt_of_le hul h8'
   have hue : orL (frs c) (bitsL s) = usR c s := rfl
   rw [hue]
   refine NIL.mk rfl ?_
   refine rd_fld fd144_6 ?_
   refine H3.store10 fun w4 H4 => ?_
   have hxd := ext_drew w4
   have H5 := H4.step hxd
   generalize World.drew1 w4 = w5 at *
   refine NIL.mk rfl ?_
   refine rd_fld fd144_3 ?_
   refine rd_blkV ty23 H5.wb.blk (H5.wb.cell 2) ?_
   refine NIL.mk rfl ?_
   refine rd_fld fd144_6 ?_
   refine rd_blkV ty3 H5.wb.blk (H5.wb.cell 5) ?_
   refine (unionOf_ok H5.m7.is (Ext.refl _) (cls256 h8.1 5) (by rw [cls_len]; exact h8.1) (m := usR c s) (by rw [cls_len]; exact hul)).mono ?_
   rintro _ w6 ⟨hx6, rfl⟩
   have H6 := H5.step hx6
   have hor := orL_lt (cls256 h8.1 5) (bitsL (usR c s))
   have hR6 := hR2.more h8.1
   have hfin := hR2.fin hc h8.1
   have hgt := fun h => or_gt (m := orL (cls c 5) (bitsL (usR c s))) (n := s) h
   refine ⟨hx6, ?_⟩
   refine rd_or (m := s) (n := orL (cls c 5) (bitsL (usR c s))) (by omega) (by omega) ?_
   have hor2 : s ||| orL (cls c 5) (bitsL (usR c s)) < 256 := Nat.or_lt_two_pow (n := 8) hs256 hor
   generalize s ||| orL (cls c 5) (bitsL (usR c s)) = t at *
   refine rd_neq ?_
   by_cases hts : t = s
   · refine ⟨256 - t, by omega, t, _, _, rfl, ?_, H6, hR6, fun _ => ?_⟩
     · rw [hts]; simp
     · rw [(hfin hts).2]
       exact ⟨by rw [hts]; exact (hfin hts).1, rfl⟩
   · have hd : decide ((t : Int) ≠ (s : Int)) = true := decide_eq_true fun h => hts (Int.ofNat_inj.1 h)
     have := hgt hts
     rw [hd]
     exact ⟨256 - t + 1, by omega, t, true, _, rfl, rfl, H6, hR6, fun e => by cases e⟩
 · obtain ⟨hse, hye⟩ := hend hag
   rw [hye] at H2
   refine NIL.mk rfl ?_
   refine rd_fld fd144_5 ?_
   refine H2.store9 fun w3 H3 => ?_
   rw [hse] at H3
   exact ⟨rfl, H3⟩
theorem FC.wat {W0 w : World} {b e m g6 g7 g8 : Nat} {c : DCode} {kc : List Value} (H : FC W0 w b e c kc m g6 g7 g8 (cls c 4) (cls c 5) (frs c) (.int .i64 (rootsN c : Nat)) (.int .i64 (usedN c : Nat))) (h8 : c.procs.length ≤ 8) : WAt w b c := by
 have h1 : rootsN c < 256 := setN_small h8
 have h2 : usedN c < 256 := setN_small h8
 exact ⟨H.wb.wl, at_of_blk H.wb.blk (H.wb.cell 1) H.m6.is, at_of_blk H.wb.blk (H.wb.cell 2) H.m7.is, at_of_blk H.wb.blk (H.wb.cell 3) H.m8.is, at_int H.wb.blk (H.wb.cell 4) (by unfold I64; omega), at_int H.wb.blk (H.wb.cell 5) (by unfold I64; omega)⟩
theorem worldOf_ok {w W0 : World} {v0 : Value} {c : DCode} (h0 : Is W0 v0 c) (e0 : Ext W0 w) :
   CALL Tryz.prog 64 [v0] w fun r w' => Ext w w' ∧ ((¬ CodeR c ∧ r = .tuple #[.pointer none, .bool false]) ∨ (CodeR c ∧ ∃ b, r = .tuple #[.pointer (some ⟨b, 0, none⟩), .bool true] ∧ WAt w' b c)) := by
 refine F64_call ?_
 unfold F64
 refine op_box h0 e0 fun w1 hx1 hA => ?_
 refine rd_load ty35 hA (Ext.refl _) fun v7 h7 => ?_
 refine (implCodeOk_ok h7 (Ext.refl _)).mono ?_
 rintro _ w2 ⟨hx2, rfl⟩
 refine rd_nodec ?_
 refine br (fun hn => ?_) (fun hy => ?_)
 · exact ⟨hx1.trans hx2, .inl ⟨hn, rfl⟩⟩
 have hc : CodeR c := Decidable.not_not.1 hy
 have h8 := hc.1.procs8
 have hil := hc.f.ins
 have hz0 := (zN_end hc h8.2).2.2
 have hxd := ext_drew w2
 have hx3 := hx2.trans hxd
 generalize World.drew1 w2 = w3 at *
 refine rd_load ty35 hA hx3 fun v10 h10 => ?_
 refine rd_fld fd35_4 ?_
 refine rd_load ty33 (at_DCode_4 hA) hx3 fun v12 h12 => ?_
 refine rd_len u33 h12 ?_
 refine op_makeB (by omega) (by omega) fun w4 hx4 hM4 => ?_
 have hs4 := hx4.size
 have hm4 := hM4.lt _ (List.mem_singleton.2 rfl)
 generalize hm : w3.heap.size = m at *
 have h10' := h10.ext hx3
 have hcells := code_cells h10'
 obtain ⟨F, kc, hr, hkc⟩ := h10'
 obtain ⟨a0, a1, a2, a3, a4, n0, n1, n2, n3, n4, k0, k1, k2, k3, k4, hcv⟩ := hcells
 have hkce : kc = [.slice a0 n0 k0, .slice a1 n1 k1, .slice a2 n2 k2, .slice a3 n3 k3, .slice a4 n4 k4] := by
   rw [hkc] at hcv
   have : (Value.agg kc.toArray) = .agg #[.slice a0 n0 k0, .slice a1 n1 k1, .slice a2 n2 k2, .slice a3 n3 k3, .slice a4 n4 k4] := hcv
   simpa using this
 rw [hcv]
 refine ⟨hx4, ?_⟩
 refine rd_build (cells := #[.slice a0 n0 k0, .slice a1 n1 k1, .slice a2 n2 k2, .slice a3 n3 k3, .slice a4 n4 k4, sl m c.ins.length, .slice none 0 0, .slice none 0 0, .slice none 0 0, .int .i64 0, .int .i64 0]) (by kernel_rfl) ?_
 refine op_boxB fun w5 hx5 hB5 => ?_
 have hB5' : Blk w4.heap.size 144 w5 (kc ++ [sl m c.ins.length, .slice none 0 0, .slice none 0 0, .slice none 0 0, .int .i64 0, .int .i64 0]) := by rw [hkce]; exact hB5
 have hk5 : kc.length = 5 := Rep.len hr
 clear hB5 hcv hkc
 have hM5 := hM4.ext hx5
 have hx35 : Ext w3 w5 := hx4.trans hx5
 generalize hb : w4.heap.size = b at *
 refine rd_fld fd35_3 ?_
 refine rd_load ty23 (at_DCode_3 hA) (hx3.trans hx35) fun v18 h18 => ?_
 have h18 := h18.ext hx3
 refine rd_len u23 h18 ?_
 have hel : c.entry.length = c.procs.length := hc.2.1.1
 rw [hel]
 have hrep0 : List.replicate c.ins.length false = setB c.ins.length (fun i => ∃ p, p < 0 ∧ LiveP c p i) := replicate_setB _ fun i ⟨p, h, _⟩ => by omega
 rw [hrep0] at hM5
 have hcell0 : ∀ {x1 x2 x3 x4 x5 : Value}, (kc ++ [sl m c.ins.length, x1, x2, x3, x4, x5])[0 + 5]? = some (sl m c.ins.length) := by intros; rw [List.getElem?_append_right (by rw [hk5]; omega), hk5]; rfl
 refine loopC c.procs.length (fun k us w' => us = [.int .i64 (k : Int)] ∧ k ≤ c.procs.length ∧ Ext w3 w' ∧ Blk b 144 w' (kc ++ [sl m c.ins.length, .slice none 0 0, .slice none 0 0, .slice none 0 0, .int .i64 0, .int .i64 0]) ∧ Mine [m] w' (sl m c.ins.length) (setB c.ins.length fun i => ∃ p, p < k ∧ LiveP c p i)) 0 (Nat.zero_le _) ⟨rfl, Nat.zero_le _, hx35, hB5', hM5⟩ ?_
 rintro k mk u w6 hkm ⟨hu, hkl, hx6, hB6, hM6⟩
 simp only [List.map_cons, List.map_nil, List.cons.injEq, and_true] at hu
 rw [hu]
 refine rd_lss ?_
 refine br (fun hlt => ?_) (fun hge => ?_)
 · have hk : k < c.procs.length := by omega
   have hke : k < c.entry.length := by omega
   obtain ⟨he1, he2, he3⟩ := eN_eq hc hke
   refine rd_indexN u23 ty3 (i := k) h18 hke fun b5 o5 hA5 => ?_
   rw [en_get hke, he1] at hA5
   refine rd_loadI ty3 hA5 hx6 fun _ => ?_
   refine NIL.mk rfl ?_
   refine rd_fld fd144_1 ?_
   refine rd_blkV ty72 hB6 hcell0 ?_
   refine rd_elt (α := Bool) rfl u72 ty4 he2 ?_
   refine opu_elt (α := Bool) rfl ty4 hM6 setB_len he2 mine_boolT fun w7 hc7 hm7 => ?_
   have hB7 := hB6.chgF hc7 (by simp; omega)
   have hx7 : Ext w3 w7 := hx6.chgF hc7 (by simp [hm])
   have hmk7 : ∀ i, mkd ((setB c.ins.length fun i => ∃ p, p < k ∧ LiveP c p i).set (eN c k) true) i ↔ (i < c.ins.length ∧ ∃ p, p < k ∧ LiveP c p i) ∨ i = eN c k := fun i => by
     rw [mkd_set (by rw [setB_len]; exact he2), mkd_setB]
   have hl7 : ((setB c.ins.length fun i => ∃ p, p < k ∧ LiveP c p i).set (eN c k) true).length = c.ins.length := by rw [List.length_set, setB_len]
   generalize (setB c.ins.length fun i => ∃ p, p < k ∧ LiveP c p i).set (eN c k) true = ms7 at *
   refine NIL.mk rfl ?_
   refine rd_fld fd144_1 ?_
   refine rd_blkV ty72 hB7 hcell0 ?_
   have hK7 : KAt w3 w7 b c := ⟨F, kc, hr, blk_left hB7, hB7.lt⟩
   refine (spread_ok hK7 hx7 hc rfl he2 hm7 hl7 (by omega) (by omega) ?_).mono ?_
   · intro i hi hne j hj
     rcases (hmk7 i).1 hi with ⟨h1, p, h2, h3⟩ | h
     · have hil := nextN_lt hc h1 hj
       exact (hmk7 j).2 (.inl ⟨hil.1, p, h2, live_next h3 hj⟩)
     · exact absurd h hne
   rintro _ w8 ⟨rfl, hc8, hM8⟩
   have hset : (setB c.ins.length fun i => mkd ms7 i ∨ RP (nextN c) (eN c k) i) = setB c.ins.length fun i => ∃ p, p < k + 1 ∧ LiveP c p i := setB_congr fun i hi => by
     rw [hmk7]
     constructor
     · rintro ((⟨_, p, h2, h3⟩ | h) | h)
       · exact ⟨p, by omega, h3⟩
       · exact ⟨k, by omega, .inl h⟩
       · exact ⟨k, by omega, .inr h⟩
     · rintro ⟨p, h2, h3⟩
       by_cases e : p = k
       · subst e
         rcases h3 with h3 | h3
         · exact .inl (.inr h3)
         · exact .inr h3
       · exact .inl (.inl ⟨hi, p, by omega, h3⟩)
   rw [hset] at hM8
   refine rd_inc (by omega) ?_
   exact ⟨mk - 1, by omega, k + 1, by omega, rfl, by omega, hx7.chgI hc8 (by omega), hB7.chgI hc8 (by omega), hM8⟩
 have hke : k = c.procs.length := by omega
 have hal : (setB c.ins.length fun i => ∃ p, p < k ∧ LiveP c p i) = setB c.ins.length (AllLive c) := by rw [hke]; rfl
 rw [hal] at hM6
 have HW : WB w3 w6 b 144 c kc m (.slice none 0 0) (.slice none 0 0) (.slice none 0 0) (.int .i64 0) (.int .i64 0) := ⟨hx6, hB6, ⟨F, hr⟩, hM6, by omega, by omega, by omega⟩
 refine (findCalls_ok HW hc).mono ?_
 rintro _ w7 ⟨rfl, g6, g7, g8, H7⟩
 refine (findRoots_ok H7 hc).mono ?_
 rintro _ w8 ⟨rfl, H8⟩
 exact ⟨hx1.trans (hx3.trans H8.wb.ext), .inr ⟨hc, b, rfl, H8.wat h8.1⟩⟩
end Go.Proofs.YtjgfldfbljmhhaaGreat
namespace Go.Proofs.YtjgfldfbljmhhaaGreat
open Go.Shelf
def Tryz.sortRace_ren : Go.Shelf.Ren := ⟨fun | 6 => 169 | 15 => 209 | 14 => 228 | 28 => 256 | 29 => 257 | 20 => 276 | 21 => 277 | 22 => 278 | 23 => 279 | 24 => 280 | 25 => 281 | 26 => 282 | 27 => 283 | 46 => 304 | 47 => 290 | 48 => 291 | 49 => 305 | 50 => 306 | 57 => 318 | n => n, fun | 22 => 58 | 24 => 109 | 25 => 186 | 3 => 3 | 39 => 77 | 0 => 0 | 53 => 238 | 55 => 168 | 4 => 4 | 46 => 231 | 45 => 230 | 50 => 235 | 5 => 5 | 9 => 9 | 66 => 255 | 70 => 259 | 76 => 271 | 77 => 272 | n => n, fun | n => n⟩
theorem Tryz.sortRace : SlLaysF0.n6 Tryz.prog Tryz.sortRace_ren := {
 mixed := by kernel_rfl,
 f6 := ⟨Tryz.f169.name, by kernel_rfl, Tryz.func169.trans (congrArg some (by kernel_rfl))⟩,
 f14 := ⟨Tryz.f228.name, by kernel_rfl, Tryz.func228.trans (congrArg some (by kernel_rfl))⟩,
 f15 := Tryz.func209.trans (congrArg some (by kernel_rfl)),
 f20 := ⟨Tryz.f276.name, by kernel_rfl, Tryz.func276.trans (congrArg some (by kernel_rfl))⟩,
 f21 := ⟨Tryz.f277.name, by kernel_rfl, Tryz.func277.trans (congrArg some (by kernel_rfl))⟩,
 f22 := ⟨Tryz.f278.name, by kernel_rfl, Tryz.func278.trans (congrArg some (by kernel_rfl))⟩,
 f23 := ⟨Tryz.f279.name, by kernel_rfl, Tryz.func279.trans (congrArg some (by kernel_rfl))⟩,
 f24 := ⟨Tryz.f280.name, by kernel_rfl, Tryz.func280.trans (congrArg some (by kernel_rfl))⟩,
 f25 := ⟨Tryz.f281.name, by kernel_rfl, Tryz.func281.trans (congrArg some (by kernel_rfl))⟩,
 f26 := ⟨Tryz.f282.name, by kernel_rfl, Tryz.func282.trans (congrArg some (by kernel_rfl))⟩,
 f27 := ⟨Tryz.f283.name, by kernel_rfl, Tryz.func283.trans (congrArg some (by kernel_rfl))⟩,
 f28 := Tryz.func256.trans (congrArg some (by kernel_rfl)),
 f29 := Tryz.func257.trans (congrArg some (by kernel_rfl)),
 f46 := ⟨Tryz.f304.name, by kernel_rfl, Tryz.func304.trans (congrArg some (by kernel_rfl))⟩,
 f47 := Tryz.func290.trans (congrArg some (by kernel_rfl)),
 f48 := Tryz.func291.trans (congrArg some (by kernel_rfl)),
 f49 := ⟨Tryz.f305.name, by kernel_rfl, Tryz.func305.trans (congrArg some (by kernel_rfl))⟩,
 f50 := ⟨Tryz.f306.name, by kernel_rfl, Tryz.func306.trans (congrArg some (by kernel_rfl))⟩,
 f57 := ⟨Tryz.f318.name, by kernel_rfl, Tryz.func318.trans (congrArg some (by kernel_rfl))⟩,
 t0 := Tryz.underlying0,
 a0 := Tryz.isAgg0,
 z0 := Tryz.sizeOf0,
 v0 := Tryz.zeroValue0,
 t3 := Tryz.underlying3,
 a3 := Tryz.isAgg3,
 z3 := Tryz.sizeOf3,
 v3 := Tryz.zeroValue3,
 t4 := Tryz.underlying4,
 a4 := Tryz.isAgg4,
 z4 := Tryz.sizeOf4,
 v4 := Tryz.zeroValue4,
 t5 := Tryz.underlying5,
 a5 := Tryz.isAgg5,
 z5 := Tryz.sizeOf5,
 v5 := Tryz.zeroValue5,
 t9 := Tryz.underlying9,
 a9 := Tryz.isAgg9,
 z9 := Tryz.sizeOf9,
 v9 := Tryz.zeroValue9,
 t22 := Tryz.underlying58,
 a22 := Tryz.isAgg58,
 z22 := Tryz.sizeOf58,
 v22 := Tryz.zeroValue58,
 t25 := Tryz.underlying186,
 a25 := Tryz.isAgg186,
 z25 := Tryz.sizeOf186,
 v25 := Tryz.zeroValue186,
 t39 := Tryz.underlying77,
 a39 := Tryz.isAgg77,
 z39 := Tryz.sizeOf77,
 v39 := Tryz.zeroValue77,
 t45 := Tryz.underlying230,
 a45 := Tryz.isAgg230,
 z45 := Tryz.sizeOf230,
 v45 := Tryz.zeroValue230,
 t46 := Tryz.underlying231,
 a46 := Tryz.isAgg231,
 z46 := Tryz.sizeOf231,
 v46 := Tryz.zeroValue231,
 t50 := Tryz.underlying235,
 a50 := Tryz.isAgg235,
 z50 := Tryz.sizeOf235,
 v50 := Tryz.zeroValue235,
 t53 := Tryz.underlying238,
 a53 := Tryz.isAgg238,
 z53 := Tryz.sizeOf238,
 v53 := Tryz.zeroValue238,
 t55 := Tryz.underlying168,
 a55 := Tryz.isAgg168,
 z55 := Tryz.sizeOf168,
 v55 := Tryz.zeroValue168,
 t66 := Tryz.underlying255,
 a66 := Tryz.isAgg255,
 z66 := Tryz.sizeOf255,
 v66 := Tryz.zeroValue255,
 t70 := Tryz.underlying259,
 a70 := Tryz.isAgg259,
 z70 := Tryz.sizeOf259,
 v70 := Tryz.zeroValue259,
 t76 := Tryz.underlying271,
 a76 := Tryz.isAgg271,
 z76 := Tryz.sizeOf271,
 v76 := Tryz.zeroValue271,
 t77 := Tryz.underlying272,
 a77 := Tryz.isAgg272,
 z77 := Tryz.sizeOf272,
 v77 := Tryz.zeroValue272 }
end Go.Proofs.YtjgfldfbljmhhaaGreat
namespace Go.Sh
set_option linter.unusedVariables false
set_option linter.unusedSimpArgs false
set_option linter.unusedSectionVars false
open Rep (rep)
open Go.Sort Go.Proofs
section
variable {α : Type} [Inhabited α] {enc : α → List Value} {k : Nat}
theorem flat_len (hk : ∀ x, (enc x).length = k) : ∀ (l : List α), (l.flatMap enc).length = l.length * k
 | [] => by simp
 | x :: l => by rw [List.flatMap_cons, List.length_append, hk, flat_len hk l, List.length_cons, Nat.add_mul]; omega
theorem flat_get (hk : ∀ x, (enc x).length = k) (h0 : 0 < k) : ∀ {l : List α} {t : Nat}, t < l.length * k → (l.flatMap enc)[t]? = some ((enc l[t / k]!)[t % k]!)
 | [], t, h => by simp at h
 | x :: l, t, h => by
   rw [List.flatMap_cons]
   rcases Nat.lt_or_ge t k with ht | ht
   · rw [List.getElem?_append_left (by rw [hk]; exact ht), Nat.div_eq_of_lt ht, Nat.mod_eq_of_lt ht]
     have : t < (enc x).length := by rw [hk]; exact ht
     rw [List.getElem?_eq_getElem this]
     simp [this]
   · rw [List.getElem?_append_right (by rw [hk]; exact ht), hk]
     have h' : t - k < l.length * k := by rw [List.length_cons, Nat.add_mul] at h; omega
     rw [flat_get hk h0 h']
     have e1 : t / k = (t - k) / k + 1 := by
       have : t = (t - k) + k := by omega
       conv => lhs; rw [this]
       rw [Nat.add_div_right _ h0]
     have e2 : t % k = (t - k) % k := by
       have : t = (t - k) + k := by omega
       conv => lhs; rw [this]
       rw [Nat.add_mod_right]
     rw [e1, e2]
     simp
theorem flatK_get (hk : ∀ x, (enc x).length = k) (h0 : 0 < k) {l : List α} {t : Nat} (h : t < l.length * k) : (l.flatMap enc)[t]? = some (flatK enc k l.toArray)[t]! := by
 rw [flat_get hk h0 h, get_flatK enc k l.toArray t (by simpa using h)]
 simp
end
section
variable {α : Type} [Rep α] [Flat α] [Inhabited α] {w : World} {enc : α → List Value} {b o n cap : Nat} {l : List α}
theorem cells_enc (henc : ∀ {F w cs} {x : α}, rep F w cs x → cs = enc x) : ∀ {l : List α} {F : List Nat} {xs : List Value}, Cells F w xs l → xs = l.flatMap enc
 | [], _, _, ⟨_, h⟩ => by simp [h]
 | y :: ys, _, _, ⟨F1, F2, c1, c2, _, h, h1, h2⟩ => by rw [h, henc h1, cells_enc henc h2, List.flatMap_cons]
theorem enc_cells {w' : World} (henc : ∀ {F w cs} {x : α}, rep F w cs x → cs = enc x) : ∀ {l : List α}, (∀ x ∈ l, ∃ F cs, rep F w cs x) → Cells [] w' (l.flatMap enc) l
 | [], _ => ⟨rfl, rfl⟩
 | y :: ys, h => by
   obtain ⟨F, cs, hr⟩ := h y (by simp)
   have hF := Flat.flat hr
   subst hF
   have hc := henc hr
   subst hc
   exact ⟨[], [], enc y, ys.flatMap enc, rfl, rfl, Rep.keep hr (by simp), enc_cells henc fun x hx => h x (by simp [hx])⟩
theorem cells_mem : ∀ {l : List α} {F : List Nat} {xs : List Value}, Cells F w xs l → ∀ x ∈ l, ∃ F cs, rep F w cs x
 | y :: ys, _, _, ⟨F1, F2, c1, c2, _, h, h1, h2⟩, x, hx => by
   rcases List.mem_cons.1 hx with rfl | hx
   · exact ⟨_, _, h1⟩
   · exact cells_mem h2 x hx
theorem holdsK_of (henc : ∀ {F w cs} {x : α}, rep F w cs x → cs = enc x) (hk : ∀ x, (enc x).length = Rep.size α) (hw : ∃ c e, w.heap[b]? = some (.cells c e (0, 0))) {xs : List Value} (hc : Cells [] w xs l) (hr : w.rangeAt b o xs) : HoldsK enc (Rep.size α) w b o l.toArray := by
 intro j hj
 rw [size_flatK] at hj
 have hj' : j < l.length * Rep.size α := by simpa using hj
 have := cells_enc henc hc
 subst this
 have h1 := hr j _ (flatK_get hk Rep.pos hj')
 refine ⟨h1, ?_⟩
 obtain ⟨c, e, he⟩ := hw
 simp [World.frozen?, he]
theorem sorted_mine (henc : ∀ {F w cs} {x : α}, rep F w cs x → cs = enc x) (hk : ∀ x, (enc x).length = Rep.size α) {d' : Array α} {m : Nat} {os : Array Obj} {w3 : World} (hw3 : w3 = sortWorldK enc (Rep.size α) w b o m d' os) (hw : ∃ c e, w.heap[b]? = some (.cells c e (0, 0))) {xs : List Value} (hc : Cells [] w xs l) (hr : w.rangeAt b o xs)
   (h1 : l.length ≤ cap) (h2 : cap ≤ maxLen) (hl : d'.size = l.length) (hp : ∀ x ∈ d'.toList, x ∈ l) : Chg [b] w w3 ∧ Mine [b] w3 (.slice (some ⟨b, o, none⟩) l.length cap) d'.toList := by
 subst hw3
 have hH := holdsK_of henc hk hw hc hr
 obtain ⟨c, e, he⟩ := hw
 have hb : b < w.heap.size := (Array.getElem?_eq_some_iff.1 he).1
 have hsz : (putRowK enc (Rep.size α) (Sort.ahead w m) b o d').heap.size = w.heap.size := by simp [putRowK, putRow, mapBlock, Sort.ahead]
 have hblk : ∀ i, i < w.heap.size → i ≠ b → (sortWorldK enc (Rep.size α) w b o m d' os).heap[i]? = w.heap[i]? := fun i hi hne => by
   unfold sortWorldK
   rw [heap_grow_old _ _ (by rw [hsz]; exact hi)]
   simp [putRowK, putRow, mapBlock, Sort.ahead, Array.getElem?_modify, hne.symm]
 have hbb : ∃ c', (sortWorldK enc (Rep.size α) w b o m d' os).heap[b]? = some (.cells c' e (0, 0)) := by
   unfold sortWorldK
   rw [heap_grow_old _ _ (by rw [hsz]; exact hb)]
   exact ⟨_, by simp [putRowK, putRow, mapBlock, Sort.ahead, Array.getElem?_modify, he, onCells]; rfl⟩
 have hsz2 : w.heap.size ≤ (sortWorldK enc (Rep.size α) w b o m d' os).heap.size := by
   unfold sortWorldK grow
   rw [Array.size_append, hsz]; omega
 refine ⟨⟨rfl, rfl, rfl, hsz2, fun i hi hm => hblk i hi fun e => hm (by simp [e])⟩, ⟨⟨_, ⟨some ⟨b, o, none⟩, cap, [], d'.toList.flatMap enc, rfl, by simpa [hl] using h1, h2, ?_, .inr ⟨b, o, rfl, rfl, ?_, by omega⟩⟩, by simp [mkv, Rep.agg, hl]⟩, by simp, fun i hi => ?_⟩⟩
 · exact enc_cells (w := w) henc fun x hx => cells_mem hc x (hp x hx)
 · intro j v hv
   have hj : j < d'.toList.length * Rep.size α := by
     have := (List.getElem?_eq_some_iff.1 hv).1
     rwa [flat_len hk] at this
   rw [flatK_get hk Rep.pos hj, Option.some.injEq] at hv
   have hj2 : j < (flatK enc (Rep.size α) d').size := by rw [size_flatK]; simpa using hj
   have := cell?_putRow id (Sort.ahead w m) b o (flatK enc (Rep.size α) l.toArray) (flatK enc (Rep.size α) d') hH (by simp [hl]) j hj2
   unfold sortWorldK
   rw [cell?_grow _ _ _ (by rw [hsz]; exact hb)]
   show (putRow id (Sort.ahead w m) b o (flatK enc (Rep.size α) d')).cell? _ = _
   rw [this, ← hv]
   simp
 · simp only [List.mem_cons, List.not_mem_nil, or_false] at hi
   subst hi
   obtain ⟨c', hc'⟩ := hbb
   exact ⟨c', e, hc'⟩
end
end Go.Sh
namespace Go.Sh
set_option linter.unusedVariables false
set_option linter.unusedSimpArgs false
set_option linter.unusedSectionVars false
open Rep (rep)
section
variable {P : Program} {w : World} {α : Type} [Rep α] [Flat α] {b o n cap k : Nat} {l : List α}
theorem mine_parts {F : List Nat} {v : Value} (hm : Mine F w v l) (hl : l ≠ []) : ∃ b o cap xs, v = .slice (some ⟨b, o, none⟩) l.length cap ∧ F = [b] ∧ l.length ≤ cap ∧ cap ≤ maxLen ∧ Cells [] w xs l ∧ w.rangeAt b o xs ∧ (∃ c e, w.heap[b]? = some (.cells c e (0, 0))) := by
 obtain ⟨⟨cs, ⟨a, cap, Fi, xs, rfl, h1, h2, hc, h4⟩, rfl⟩, hn, hw⟩ := hm
 rcases h4 with ⟨h4, _⟩ | ⟨b, o, rfl, rfl, hr, hb⟩
 · exact absurd h4 hl
 have hFi := Cells.flat (xs := xs) hc
 subst hFi
 exact ⟨b, o, cap, xs, rfl, rfl, h1, h2, hc, hr, hw b (by simp)⟩
theorem mine_of_parts {xs : List Value} (h1 : l.length ≤ cap) (h2 : cap ≤ maxLen) (hc : Cells [] w xs l) (hr : w.rangeAt b o xs) (hw : ∃ c e, w.heap[b]? = some (.cells c e (0, 0))) : Mine [b] w (.slice (some ⟨b, o, none⟩) l.length cap) l :=
 ⟨⟨_, ⟨some ⟨b, o, none⟩, cap, [], xs, rfl, h1, h2, hc, .inr ⟨b, o, rfl, rfl, hr, by obtain ⟨c, e, h⟩ := hw; exact (Array.getElem?_eq_some_iff.1 h).1⟩⟩, rfl⟩, by simp, fun i hi => by simp at hi; subst hi; exact hw⟩
theorem rd_cutF {t e : TypeId} {by_ : Nat} {K : Value → Prop} (ht : P.underlying t = some (.slice e)) (he : tyI P e = some (Rep.size α, by_, Rep.agg α)) (hk : k ≤ n) (hn : n ≤ cap) (kk : K (.slice (some ⟨b, o, none⟩) k cap)) :
   RD P (Instr.sliceAt t (.slice (some ⟨b, o, none⟩) n cap) none (some (.int .i64 (k : Int))) none) w K := by
 refine rd_of (fun w' _ => ?_) kk
 have hbd : (Instr.sliceBounds true n cap none (some (.int .i64 (k : Int))) none).run P w' = .ok (0, k, cap) w' := by
   have h5 : (k : Int) ≤ (cap : Int) := by omega
   simp [Instr.sliceBounds, Instr.sliceBound, asIntOf, h5]
   intro h6
   omega
 simp only [Instr.sliceAt, Instr.slice, Sem.run_bind, run_underlying ht, Result.andThen_ok, hbd, run_sizeOf' he]
 simp [Addr.add_mid]
theorem rd_dropF {t e : TypeId} {by_ : Nat} {K : Value → Prop} (ht : P.underlying t = some (.slice e)) (he : tyI P e = some (Rep.size α, by_, Rep.agg α)) (hk : k ≤ n) (hn : n ≤ cap) (kk : K (.slice (if cap = k then some ⟨b, o, none⟩ else some ⟨b, o + k * Rep.size α, none⟩) (n - k) (cap - k))) :
   RD P (Instr.sliceAt t (.slice (some ⟨b, o, none⟩) n cap) (some (.int .i64 (k : Int))) none none) w K := by
 refine rd_of (fun w' _ => ?_) kk
 have hb : (Instr.sliceBounds true n cap (some (.int .i64 (k : Int))) none none).run P w' = .ok (k, n, cap) w' := by
   have : (k : Int) ≤ (n : Int) := by omega
   simp [Instr.sliceBounds, Instr.sliceBound, asIntOf, this]
   try (intro h; omega)
 simp [Instr.sliceAt, Instr.slice, run_underlying ht, hb, run_sizeOf' he, Addr.add_mid]
theorem rd_clipF {t e : TypeId} {by_ j : Nat} {K : Value → Prop} (ht : P.underlying t = some (.slice e)) (he : tyI P e = some (Rep.size α, by_, Rep.agg α)) (hk : k ≤ j) (hn : j ≤ cap) {a : Option Addr} (kk : ∀ a', (k ≠ 0 → a' = a) → K (.slice a' k j)) :
   RD P (Instr.sliceAt t (.slice a n cap) none (some (.int .i64 (k : Int))) (some (.int .i64 (j : Int)))) w K := by
 have hb : ∀ w', (Instr.sliceBounds true n cap none (some (.int .i64 (k : Int))) (some (.int .i64 (j : Int)))).run P w' = .ok (0, k, j) w' := fun w' => by
   have h1 : (j : Int) ≤ (cap : Int) := by omega
   have h2 : (k : Int) ≤ (j : Int) := by omega
   simp [Instr.sliceBounds, Instr.sliceBound, asIntOf, h1, h2]
   try (intro h; omega)
 have : ∃ a', (∀ w', (Instr.sliceAt t (.slice a n cap) none (some (.int .i64 (k : Int))) (some (.int .i64 (j : Int)))).run P w' = .ok (.slice a' k j) w') ∧ (k ≠ 0 → a' = a) := by
   cases a with
   | none => exact ⟨none, fun w' => by simp [Instr.sliceAt, Instr.slice, run_underlying ht, hb, run_sizeOf' he], fun _ => rfl⟩
   | some a => exact ⟨some a, fun w' => by simp [Instr.sliceAt, Instr.slice, run_underlying ht, hb, run_sizeOf' he, Addr.add], fun _ => rfl⟩
 obtain ⟨a', h1, h2⟩ := this
 exact rd_of (fun w' _ => h1 w') (kk a' h2)
theorem op_clearF [RepZ α] {t e ty : TypeId} {K : Value → World → Prop} (ht : P.underlying t = some (.slice e)) (hz : zeroL P e = some (RepZ.zc α)) (hm : Mine [b] w (.slice (some ⟨b, o, none⟩) n cap) l) (hl : l.length = n) (hk : k ≤ n) (hk0 : 0 < k) (hn : n ≤ cap)
   (kk : ∀ w', Chg [b] w w' → Mine [b] w' (.slice (some ⟨b, o, none⟩) k cap) (l.take k) → K (.tuple #[]) w') :
   OP P (Builtin.clear_ #[t] ty [Value.slice (if cap = k then some ⟨b, o, none⟩ else some ⟨b, o + k * Rep.size α, none⟩) (n - k) (cap - k)].toArray) w K := by
 have hne : l ≠ [] := fun e => by rw [e] at hl; simp at hl; omega
 obtain ⟨b', o', cap', xs, hv, hb', h1, h2, hc, hr, hw⟩ := mine_parts hm hne
 simp only [Value.slice.injEq, Option.some.injEq, Addr.mk.injEq] at hv
 obtain ⟨⟨rfl, rfl, _⟩, hnl, rfl⟩ := hv
 have htk : (l.take k).length = k := by simp; omega
 have e0 : l = l.take k ++ l.drop k := by simp
 have hc' := hc
 rw [e0] at hc'
 obtain ⟨F1, F2, x1, x2, hFF, rfl, c1, c2⟩ := Cells.split hc'
 obtain ⟨rfl, rfl⟩ := List.append_eq_nil_iff.1 hFF.symm
 have hx1 : x1.length = k * Rep.size α := by rw [Cells.len c1, htk]
 have hr1 := (rangeAt_append hr).1
 by_cases hnk : n = k
 · subst hnk
   refine ⟨.tuple #[], w, ?_, kk w (Chg.refl _ _) ?_⟩
   · rw [Nat.sub_self]
     by_cases hck : cap = n
     · rw [if_pos hck]; simp [Builtin.clear_, run_underlying ht]
     · rw [if_neg hck]; simp [Builtin.clear_, run_underlying ht]
   · have := mine_of_parts (l := l.take n) (cap := cap) (by omega) h2 c1 hr1 hw
     rwa [htk] at this
 · have hck : ¬ cap = k := by omega
   rw [if_neg hck]
   obtain ⟨c, e', he⟩ := hw
   unfold zeroL at hz
   cases hi : P.info? e with
   | none => simp [hi] at hz
   | some i =>
     simp only [hi] at hz
     obtain ⟨z, hzz, hzc⟩ := Option.map_eq_some_iff.1 hz
     have hzl : z.cells.size = Rep.size α := by
       rw [← Array.length_toList, hzc]; exact Rep.len (RepZ.zr (α := α) w)
     have hpos := Rep.pos (α := α)
     obtain ⟨m, hm'⟩ : ∃ m, n - k = m + 1 := ⟨n - k - 1, by omega⟩
     have hzs : (Builtin.zeroCells z.cells (n - k)).toList.length = (n - k) * Rep.size α := by simp [Builtin.zeroCells, hzl]
     have hfit : o + (k * Rep.size α) + 0 + (Builtin.zeroCells z.cells (n - k)).toList.length ≤ c.size := by
       rw [hzs]
       have hx : (x1 ++ x2).length = n * Rep.size α := by rw [Cells.len hc, hl]
       have hlast := hr (n * Rep.size α - 1) ((x1 ++ x2)[n * Rep.size α - 1]'(by rw [hx]; have := Nat.mul_pos (show 0 < n by omega) hpos; omega)) (List.getElem?_eq_getElem _)
       simp only [World.cell?, he] at hlast
       have := (Array.getElem?_eq_some_iff.1 (by simpa using hlast)).1
       have h3 : (n - k) * Rep.size α + k * Rep.size α = n * Rep.size α := by rw [← Nat.add_mul]; congr 1; omega
       have h4 := Nat.mul_pos (show 0 < n by omega) hpos
       omega
     have hone : ∀ v ∈ (Builtin.zeroCells z.cells (n - k)).toList, v.oneCell' = true := fun v hv => by
       simp only [Builtin.zeroCells, Array.toList_map, Array.toList_range, List.mem_map, List.mem_range] at hv
       obtain ⟨i, _, rfl⟩ := hv
       have hlt : i % z.cells.size < z.cells.size := Nat.mod_lt _ (by omega)
       have e3 : z.cells[i % z.cells.size]! = z.cells[i % z.cells.size]'hlt := by simp [hlt]
       rw [e3]
       refine Rep.one (RepZ.zr (α := α) w) _ ?_
       rw [← hzc]
       exact Array.getElem_mem_toList hlt
     have hst := run_storeCells_at (P := P) b (o + k * Rep.size α) e' (Builtin.zeroCells z.cells (n - k)).toList 0 c w he hfit hone
     simp only [Nat.add_zero] at hst
     refine ⟨.tuple #[], _, ?_, kk _ (setRow_chg w b (c.toList.take (o + k * Rep.size α) ++ (Builtin.zeroCells z.cells (n - k)).toList ++ c.toList.drop (o + k * Rep.size α + (Builtin.zeroCells z.cells (n - k)).toList.length)).toArray) ?_⟩
     · rw [hm'] at hst ⊢
       simp [Builtin.clear_, run_underlying ht, zeroValue, typeInfo, hi, hzz, hst]
     · have hB := setRow_heap w b c (c.toList.take (o + k * Rep.size α) ++ (Builtin.zeroCells z.cells (n - k)).toList ++ c.toList.drop (o + k * Rep.size α + (Builtin.zeroCells z.cells (n - k)).toList.length)).toArray e' _ he
       have := mine_of_parts (w := w.setRow b (c.toList.take (o + k * Rep.size α) ++ (Builtin.zeroCells z.cells (n - k)).toList ++ c.toList.drop (o + k * Rep.size α + (Builtin.zeroCells z.cells (n - k)).toList.length)).toArray) (b := b) (o := o) (l := l.take k) (cap := cap) (xs := x1) (by omega) h2 (c1.keep (by simp)) (fun j v hv => ?_) ⟨_, _, hB⟩
       · rwa [htk] at this
       · have hj := (List.getElem?_eq_some_iff.1 hv).1
         rw [hx1] at hj
         have h5 := hr1 j v hv
         simp only [World.cell?, he] at h5
         have h6 : c[o + j]? = some v := by simpa using h5
         simp only [World.cell?, hB]
         simp only [Option.isSome_none, Bool.false_eq_true, if_false, List.getElem?_toArray]
         rw [List.append_assoc, List.getElem?_append_left (by simp; have := (Array.getElem?_eq_some_iff.1 h6).1; omega), List.getElem?_take, if_pos (by omega)]
         simpa using h6
end
end Go.Sh
namespace Go.Proofs.YtjgfldfbljmhhaaGreat
open Go Go.Sh Go.Proofs
set_option linter.unusedVariables false
set_option linter.unusedSimpArgs false
open Rep (rep)
set_option maxRecDepth 20000 in
theorem rd_eqlDRace {w w0 w1 : World} {K : Value → Prop} {x y : Operand} {v1 v2 : Value} {a b : DRace} (h1 : Is w0 v1 a) (h2 : Is w1 v2 b) (k : K (.bool (decide (a = b)))) : RD Tryz.prog (bin .eql 109 x y v1 v2) w K := by
  obtain ⟨rfl, _⟩ := is_race.1 h1
  obtain ⟨rfl, _⟩ := is_race.1 h2
  refine rd_of (fun w' _ => ?_) k
  have hg : Tryz.prog.eqGuardType Tryz.prog.depth 109 = false := by kernel_rfl
  have e0 : ∀ xs ys w, (eqGuard .eql 109 x y (.agg xs) (.agg ys)).run Tryz.prog w = .ok () w := fun xs ys w => run_eqGuard_agg (P := Tryz.prog) w .eql 109 x y xs ys hg
  have e1 : ∀ xs ys w, (Op.equalIn 10000 109 (.agg xs) (.agg ys)).run Tryz.prog w = (Op.eqFields 9999 xs ys (Tryz.prog.fieldsOf 109).toList).run Tryz.prog w := fun xs ys w => run_equalIn_struct w 9999 109 xs ys (by kernel_rfl) (by kernel_rfl)
  have e2 : (Tryz.prog.fieldsOf 109).toList.map (fun f => (f.name, f.type, f.offset)) = [("Global", 3, 0), ("A", 3, 1), ("B", 3, 2)] := by kernel_rfl
  have e3 : ∀ (c d : Int) (w : World), (Op.equalIn 9999 3 (.int .i64 c) (.int .i64 d)).run Tryz.prog w = .ok (c == d) w := fun c d w => run_equalIn_int w 9998 3 .i64 .i64 c d u3
  have hd : (a = b) ↔ (a.g = b.g ∧ a.a = b.a ∧ a.b = b.b) := ⟨fun e => by rw [e]; exact ⟨rfl, rfl, rfl⟩, fun ⟨x, y, z⟩ => by cases a; cases b; simp only at x y z; rw [x, y, z]⟩
  generalize hF : (Tryz.prog.fieldsOf 109).toList = fs at e1 e2
  match fs, e2 with
  | [f0, f1, f2], e2 =>
    simp only [List.map_cons, List.map_nil, List.cons.injEq, Prod.mk.injEq, and_true] at e2
    obtain ⟨⟨n0, t0, o0⟩, ⟨n1, t1, o1⟩, ⟨n2, t2, o2⟩⟩ := e2
    have p0 : ∀ (a b c : Value) (w : World), (part 3 #[a, b, c] 0).run Tryz.prog w = .ok a w := fun a b c w => by simp [part, run_isAgg ty3]
    have p1 : ∀ (a b c : Value) (w : World), (part 3 #[a, b, c] 1).run Tryz.prog w = .ok b w := fun a b c w => by simp [part, run_isAgg ty3]
    have p2 : ∀ (a b c : Value) (w : World), (part 3 #[a, b, c] 2).run Tryz.prog w = .ok c w := fun a b c w => by simp [part, run_isAgg ty3]
    simp only [bin, Sem.run_bind, e0, Result.andThen_ok, run_eql_struct, e1, Op.eqFields, n0, n1, n2, t0, t1, t2, o0, o1, o2]
    simp only [ne_eq, String.reduceEq, not_false_eq_true, if_true, Sem.run_bind, p0, p1, p2, Result.andThen_ok, e3, Sem.run_ite, Sem.run_pure, hd]
    by_cases x0 : a.g = b.g <;> by_cases x1 : a.a = b.a <;> by_cases x2 : a.b = b.b <;> simp [x0, x1, x2]
set_option maxRecDepth 20000 in
theorem rd_neqDRace {w w0 w1 : World} {K : Value → Prop} {x y : Operand} {v1 v2 : Value} {a b : DRace} (h1 : Is w0 v1 a) (h2 : Is w1 v2 b) (k : K (.bool (decide (a ≠ b)))) : RD Tryz.prog (bin .neq 109 x y v1 v2) w K := by
  obtain ⟨rfl, _⟩ := is_race.1 h1
  obtain ⟨rfl, _⟩ := is_race.1 h2
  refine rd_of (fun w' _ => ?_) k
  have hg : Tryz.prog.eqGuardType Tryz.prog.depth 109 = false := by kernel_rfl
  have e0 : ∀ xs ys w, (eqGuard .neq 109 x y (.agg xs) (.agg ys)).run Tryz.prog w = .ok () w := fun xs ys w => run_eqGuard_agg (P := Tryz.prog) w .neq 109 x y xs ys hg
  have e1 : ∀ xs ys w, (Op.equalIn 10000 109 (.agg xs) (.agg ys)).run Tryz.prog w = (Op.eqFields 9999 xs ys (Tryz.prog.fieldsOf 109).toList).run Tryz.prog w := fun xs ys w => run_equalIn_struct w 9999 109 xs ys (by kernel_rfl) (by kernel_rfl)
  have e2 : (Tryz.prog.fieldsOf 109).toList.map (fun f => (f.name, f.type, f.offset)) = [("Global", 3, 0), ("A", 3, 1), ("B", 3, 2)] := by kernel_rfl
  have e3 : ∀ (c d : Int) (w : World), (Op.equalIn 9999 3 (.int .i64 c) (.int .i64 d)).run Tryz.prog w = .ok (c == d) w := fun c d w => run_equalIn_int w 9998 3 .i64 .i64 c d u3
  have hd : (a = b) ↔ (a.g = b.g ∧ a.a = b.a ∧ a.b = b.b) := ⟨fun e => by rw [e]; exact ⟨rfl, rfl, rfl⟩, fun ⟨x, y, z⟩ => by cases a; cases b; simp only at x y z; rw [x, y, z]⟩
  generalize hF : (Tryz.prog.fieldsOf 109).toList = fs at e1 e2
  match fs, e2 with
  | [f0, f1, f2], e2 =>
    simp only [List.map_cons, List.map_nil, List.cons.injEq, Prod.mk.injEq, and_true] at e2
    obtain ⟨⟨n0, t0, o0⟩, ⟨n1, t1, o1⟩, ⟨n2, t2, o2⟩⟩ := e2
    have p0 : ∀ (a b c : Value) (w : World), (part 3 #[a, b, c] 0).run Tryz.prog w = .ok a w := fun a b c w => by simp [part, run_isAgg ty3]
    have p1 : ∀ (a b c : Value) (w : World), (part 3 #[a, b, c] 1).run Tryz.prog w = .ok b w := fun a b c w => by simp [part, run_isAgg ty3]
    have p2 : ∀ (a b c : Value) (w : World), (part 3 #[a, b, c] 2).run Tryz.prog w = .ok c w := fun a b c w => by simp [part, run_isAgg ty3]
    simp only [bin, Sem.run_bind, e0, Result.andThen_ok, run_neq_struct, e1, Op.eqFields, n0, n1, n2, t0, t1, t2, o0, o1, o2]
    simp only [ne_eq, String.reduceEq, not_false_eq_true, if_true, Sem.run_bind, p0, p1, p2, Result.andThen_ok, e3, Sem.run_ite, Sem.run_pure, hd]
    by_cases x0 : a.g = b.g <;> by_cases x1 : a.a = b.a <;> by_cases x2 : a.b = b.b <;> simp [x0, x1, x2, hd]
def F172 (a0 : Value) (w : World) (R : VW) : Prop :=
 RD tp (ln 58 3 a0) w fun x7 =>
 RD tp (bin .lss 3 T0 U0 x7 (Value.int .i64 2)) w fun x8 =>
 BR x8
 (R a0 w)
 (LOOPI [3] [(Value.int .i64 1)] w fun u4 w next4 =>
 RD tp (ln 58 3 a0) w fun x12 =>
 RD tp (bin .lss 3 T0 T0 (u4 3) x12) w fun x13 =>
 BR x13
 ((fun w => RD tp (Instr.indexAt 58 a0 (u4 3)) w fun x18 =>
 RD tp (Instr.loadAt 109 x18) w fun x19 =>
 RD tp (bin .sub 3 T0 U0 (u4 3) (Value.int .i64 1)) w fun x22 =>
 RD tp (Instr.indexAt 58 a0 x22) w fun x23 =>
 RD tp (Instr.loadAt 109 x23) w fun x24 =>
 RD tp (bin .eql 109 T0 T0 x19 x24) w fun x25 =>
 BR x25
 (RD tp (Instr.sliceAt 58 a0 (some (u4 3)) none none) w fun x28 =>
 LOOPI [3, 5] [(u4 3), (Value.int .i64 1)] w fun u9 w next9 =>
 RD tp (ln 58 3 x28) w fun x31 =>
 RD tp (bin .lss 3 T0 T0 (u9 5) x31) w fun x32 =>
 BR x32
 ((fun w => RD tp (Instr.indexAt 58 x28 (u9 5)) w fun x37 =>
 RD tp (Instr.loadAt 109 x37) w fun x38 =>
 RD tp (bin .sub 3 T0 U0 (u9 5) (Value.int .i64 1)) w fun x41 =>
 RD tp (Instr.indexAt 58 x28 x41) w fun x42 =>
 RD tp (Instr.loadAt 109 x42) w fun x43 =>
 RD tp (bin .neq 109 T0 T0 x38 x43) w fun x44 =>
 BR x44
 (RD tp (Instr.indexAt 58 x28 (u9 5)) w fun x49 =>
 RD tp (Instr.loadAt 109 x49) w fun x50 =>
 RD tp (Instr.indexAt 58 a0 (u9 3)) w fun x51 =>
 OPU tp (Instr.storeAt 109 x51 x50) w fun w =>
 RD tp (bin .add 3 T0 U0 (u9 3) (Value.int .i64 1)) w fun x53 =>
 RD tp (bin .add 3 T0 U0 (u9 5) (Value.int .i64 1)) w fun x34 =>
 next9 [x53, x34] w)
 (RD tp (bin .add 3 T0 U0 (u9 5) (Value.int .i64 1)) w fun x34 =>
 next9 [(u9 3), x34] w)) (World.drew1 w))
 (RD tp (Instr.sliceAt 58 a0 (some (u9 3)) none none) w fun x56 =>
 OP tp (Builtin.clear_ #[58] 0 [x56].toArray) w fun _ w =>
 RD tp (Instr.sliceAt 58 a0 none (some (u9 3)) none) w fun x59 =>
 R x59 w))
 (RD tp (bin .add 3 T0 U0 (u4 3) (Value.int .i64 1)) w fun x15 =>
 next4 [x15] w)) (World.drew1 w))
 (R a0 w))
def cfg172 : Cfg := ⟨extL, [], [(4, 1152921504606846012, [3]), (9, 18014397972611112, [3, 5])], [(6, [0, 1, 2, 3, 4, 5, 6, 7, 8, 9], 0), (11, [0, 1, 2, 3, 4, 5, 6, 7, 8, 9], 0)], [], [], []⟩
theorem F172_eq (a0 : Value) (w : World) (R : VW) : vcF Tryz.prog cfg172 Tryz.f172 [a0] w R = F172 a0 w R := by kernel_rfl
theorem F172_call {a0 : Value} {w : World} {R : VW} (h : F172 a0 w R) : CALL Tryz.prog 172 [a0] w R :=
 call_of (g := cfg172) ent mixed Tryz.func172 (Nat.le_of_ble_eq_true (by kernel_rfl)) (by kernel_rfl) (F172_eq a0 w R ▸ h)
def F168 (a0 : Value) (w : World) (R : VW) : Prop :=
 RD tp (bin .eql 58 T0 U0 a0 (Value.slice none 0 0)) w fun x4 =>
 BR x4
 (R (Value.slice none 0 0) w)
 (OP tp (Instr.buildSlice 58 0 #[]) w fun x5 w =>
 OP tp (Builtin.append_ #[58, 58] 58 [x5, a0].toArray) w fun x7 w =>
 R x7 w)
def cfg168 : Cfg := ⟨extL, [], [], [], [], [], []⟩
theorem F168_eq (a0 : Value) (w : World) (R : VW) : vcF Tryz.prog cfg168 Tryz.f168 [a0] w R = F168 a0 w R := by kernel_rfl
theorem F168_call {a0 : Value} {w : World} {R : VW} (h : F168 a0 w R) : CALL Tryz.prog 168 [a0] w R :=
 call_of (g := cfg168) ent mixed Tryz.func168 (Nat.le_of_ble_eq_true (by kernel_rfl)) (by kernel_rfl) (F168_eq a0 w R ▸ h)
def F171 (a0 : Value) (w : World) (R : VW) : Prop :=
 RD tp (ln 58 3 a0) w fun x5 =>
 RD tp (ln 58 3 a0) w fun x7 =>
 RD tp (Instr.sliceAt 58 a0 none (some x5) (some x7)) w fun x8 =>
 R x8 w
def cfg171 : Cfg := ⟨extL, [], [], [], [], [], []⟩
theorem F171_eq (a0 : Value) (w : World) (R : VW) : vcF Tryz.prog cfg171 Tryz.f171 [a0] w R = F171 a0 w R := by kernel_rfl
theorem F171_call {a0 : Value} {w : World} {R : VW} (h : F171 a0 w R) : CALL Tryz.prog 171 [a0] w R :=
 call_of (g := cfg171) ent mixed Tryz.func171 (Nat.le_of_ble_eq_true (by kernel_rfl)) (by kernel_rfl) (F171_eq a0 w R ▸ h)
set_option linter.unusedVariables false
set_option linter.unusedSimpArgs false
theorem rd_idxC {P : Program} {w : World} {t e : TypeId} {b a n cap sz by_ k : Nat} {ag : Bool} {u : Value} {K : Value → Prop} (ht : P.underlying t = some (.slice e)) (he : tyI P e = some (sz, by_, ag)) (hu : u = .slice (some ⟨b, a, none⟩) n cap) (hk : k < n) (kk : K (.pointer (some ⟨b, a + k * sz, none⟩))) :
   RD P (Instr.indexAt t u (.int .i64 (k : Int))) w K := by
 subst hu
 exact rd_of (fun w' _ => by rw [run_indexAt' ht he (by omega) (by omega)]; simp) kk
instance : Flat DRace := ⟨fun h => by obtain ⟨F1, F2, c1, c2, rfl, rfl, ⟨rfl, _⟩, ⟨F3, F4, c3, c4, rfl, rfl, ⟨rfl, _⟩, ⟨rfl, _⟩⟩⟩ := h; rfl⟩
section
variable {α : Type} [DecidableEq α]
def ddg (x : α) : List α → List α
 | [] => []
 | y :: l => if y = x then ddg x l else y :: ddg y l
def ddp : List α → List α
 | [] => []
 | x :: l => x :: ddg x l
theorem ddg_snoc (y : α) : ∀ (l : List α) (x : α), ddg x (l ++ [y]) = if y = l.getLastD x then ddg x l else ddg x l ++ [y]
 | [], x => rfl
 | a :: l, x => by
   rw [List.cons_append, ddg, ddg, List.getLastD_cons]
   by_cases h : a = x
   · rw [if_pos h, if_pos h, ddg_snoc y l x, h]
   · rw [if_neg h, if_neg h, ddg_snoc y l a]
     split <;> rfl
theorem ddp_take {l : List α} {k : Nat} (h0 : 0 < k) (hk : k < l.length) : ddp (l.take (k + 1)) = if l[k] = l[k - 1] then ddp (l.take k) else ddp (l.take k) ++ [l[k]] := by
 rw [List.take_succ_eq_append_getElem hk]
 cases l with
 | nil => simp at hk
 | cons x l =>
   obtain ⟨j, rfl⟩ : ∃ j, k = j + 1 := ⟨k - 1, by omega⟩
   have hj : j < l.length := by simpa using hk
   have e : (l.take j).getLastD x = (x :: l)[j + 1 - 1] := by
     rw [List.getLastD_eq_getLast?, List.getLast?_eq_getElem?, List.length_take, Nat.min_eq_left (by omega)]
     cases j with
     | zero => simp
     | succ j => simp [List.getElem?_take]; rw [List.getElem?_eq_getElem (by omega)]; rfl
   rw [List.take_succ_cons, List.cons_append, ddp, ddp, ddg_snoc, e]
   split <;> rfl
end
theorem compact_ok {w : World} {lo hi : Nat} {v : Value} {l : List DRace} (h : OwnI lo hi w v l) (hn : l.length ≤ 1073741824) :
   CALL Tryz.prog 172 [v] w fun r w' => ChgI lo hi w w' ∧ OwnI lo hi w' r (ddp l) := by
 obtain ⟨F, hM, hF⟩ := h
 refine F172_call ?_
 unfold F172
 refine rd_len u58 hM.is ?_
 refine rd_lss ?_
 refine br (fun hlt => ?_) (fun hge => ?_)
 · refine ⟨ChgI.refl w, F, ?_, hF⟩
   have : ddp l = l := by
     match l, hlt with
     | [], _ => rfl
     | [x], _ => rfl
     | _ :: _ :: _, h => simp only [List.length_cons] at h; omega
   rw [this]; exact hM
 have hne : l ≠ [] := fun e => by rw [e] at hge; simp at hge
 obtain ⟨b, o, cap, xs, rfl, rfl, h1, h2, hcc, hrr, hww⟩ := mine_parts hM hne
 have hln := hM.is
 refine loopC l.length (fun k us w' => us = [.int .i64 (k : Int)] ∧ Ext w w' ∧ 1 ≤ k ∧ k ≤ l.length ∧ ddp (l.take k) = l.take k) 1 (by omega) ⟨rfl, Ext.refl w, Nat.le_refl _, by omega, ?_⟩ ?_
 · cases l with
   | nil => exact absurd rfl hne
   | cons x l => rfl
 rintro k0 mk u w1 hkm ⟨hu, hx1, hk1, hkl, hd0⟩
 simp only [List.map_cons, List.map_nil, List.cons.injEq, and_true] at hu
 rw [hu]
 refine rd_len u58 hln ?_
 refine rd_lss ?_
 refine br (fun hlt => ?_) (fun hge1 => ?_)
 case refine_2 =>
   have : k0 = l.length := by omega
   subst this
   rw [List.take_length] at hd0
   rw [hd0]
   exact ⟨hx1.toI, [b], hM.ext hx1, hF⟩
 have hk : k0 < l.length := by omega
 have hx2 := ext_drew w1
 have hx12 := hx1.trans hx2
 generalize World.drew1 w1 = w2 at *
 refine rd_indexN u58 ty109 hln hk fun b1 o1 hA1 => ?_
 refine rd_load ty109 hA1 hx12 fun v19 h19 => ?_
 refine rd_sub (by unfold I64; omega) ?_
 rw [show ((k0 : Int) - 1) = ((k0 - 1 : Nat) : Int) by omega]
 refine rd_indexN (i := k0 - 1) u58 ty109 hln (by omega) fun b2 o2 hA2 => ?_
 refine rd_load ty109 hA2 hx12 fun v24 h24 => ?_
 refine rd_eqlDRace h19 h24 ?_
 refine br (fun heq => ?_) (fun hneq => ?_)
 case refine_2 =>
   refine rd_inc (by omega) ?_
   refine ⟨mk - 1, by omega, k0 + 1, by omega, rfl, hx12, by omega, by omega, ?_⟩
   rw [ddp_take (by omega) hk, if_neg hneq, hd0, ← List.take_succ_eq_append_getElem hk]
 refine rd_dropF (α := DRace) u58 ty109 (by omega) h1 ?_
 rw [if_neg (by omega)]
 have e3 : Rep.size DRace = 3 := rfl
 rw [e3]
 refine loopC (l.length - k0) (fun k2 us w' => ∃ (k : Nat) (cur : List DRace), us = [.int .i64 (k : Int), .int .i64 (k2 : Int)] ∧ Chg [b] w w' ∧ Mine [b] w' (.slice (some ⟨b, o, none⟩) l.length cap) cur ∧ cur.length = l.length ∧ 1 ≤ k2 ∧ k2 ≤ l.length - k0 ∧ k0 ≤ k ∧ k + 1 ≤ k0 + k2 ∧
     cur.take k = ddp (l.take (k0 + k2)) ∧ ∀ j, k ≤ j → cur[j]? = l[j]?) 1 (by omega)
   ⟨k0, l, rfl, hx12.chg _, hM.ext hx12, rfl, Nat.le_refl _, by omega, Nat.le_refl _, by omega, by rw [ddp_take (by omega) hk, if_pos heq, hd0], fun _ _ => rfl⟩ ?_
 rintro k2 mk2 u9 w3 hkm2 ⟨k, cur, hu9, hc3, hm3, hl3, hk21, hk22, hk0, hkk, htk, hrest⟩
 simp only [List.map_cons, List.map_nil, List.cons.injEq, and_true] at hu9
 obtain ⟨hu91, hu92⟩ := hu9
 rw [hu91, hu92]
 refine rd_of (v := .int .i64 ((l.length - k0 : Nat) : Int)) (fun w' _ => by simp [Builtin.len_, run_underlying u58]; rfl) ?_
 refine rd_lss ?_
 refine br (fun hlt2 => ?_) (fun hge2 => ?_)
 · have hp : k0 + k2 < l.length := by omega
   have hx4 := ext_drew w3
   have hm4 := hm3.ext hx4
   have hc4 := hc3.trans (hx4.chg _)
   generalize World.drew1 w3 = w4 at *
   have hcne : cur ≠ [] := fun e => by rw [e] at hl3; simp at hl3; omega
   obtain ⟨b', o', cap', xs', hv', hb', _, _, hcc', hrr', hww'⟩ := mine_parts hm4 hcne
   simp only [Value.slice.injEq, Option.some.injEq, Addr.mk.injEq] at hv'
   obtain ⟨⟨rfl, rfl, _⟩, _, rfl⟩ := hv'
   have hat : ∀ i (hi : i < cur.length), At w4 b (o + i * 3) cur[i] := fun i hi => hcc'.at hrr' hi
   have hget : ∀ i (hi : i < l.length) (hki : k ≤ i), cur[i]'(by omega) = l[i] := fun i hi hki => by
     have := hrest i hki
     rw [List.getElem?_eq_getElem (by omega), List.getElem?_eq_getElem hi] at this
     exact Option.some.inj this
   have hA3 := hat (k0 + k2) (by omega)
   have hA4 := hat (k0 + k2 - 1) (by omega)
   rw [hget _ hp (by omega)] at hA3
   rw [hget _ (by omega) (by omega)] at hA4
   refine rd_idxC (k := k2) u58 ty109 rfl (by omega) ?_
   rw [show o + k0 * 3 + k2 * 3 = o + (k0 + k2) * 3 by omega]
   refine rd_load ty109 hA3 (Ext.refl _) fun v38 h38 => ?_
   refine rd_sub (by unfold I64; omega) ?_
   rw [show ((k2 : Int) - 1) = ((k2 - 1 : Nat) : Int) by omega]
   refine rd_idxC (k := k2 - 1) u58 ty109 rfl (by omega) ?_
   rw [show o + k0 * 3 + (k2 - 1) * 3 = o + (k0 + k2 - 1) * 3 by omega]
   refine rd_load ty109 hA4 (Ext.refl _) fun v43 h43 => ?_
   refine rd_neqDRace h38 h43 ?_
   have hdt := ddp_take (l := l) (k := k0 + k2) (by omega) hp
   refine br (fun hne2 => ?_) (fun heq2 => ?_)
   · refine rd_idxC (k := k2) u58 ty109 rfl (by omega) ?_
     rw [show o + k0 * 3 + k2 * 3 = o + (k0 + k2) * 3 by omega]
     refine rd_load ty109 hA3 (Ext.refl _) fun v50 h50 => ?_
     obtain ⟨F5, cs5, hr5, hv5⟩ := h50
     have hF5 := Flat.flat hr5
     subst hF5
     refine set_step (α := DRace) u58 ty109 hm4 (k := k) (by omega) ⟨cs5, hr5, hv5⟩ fun w5 hc5 hm5 => ?_
     refine rd_inc (by omega) ?_
     refine rd_inc (by omega) ?_
     refine ⟨mk2 - 1, by omega, k2 + 1, by omega, k + 1, _, rfl, hc4.trans hc5, hm5, by simp [hl3], by omega, by omega, by omega, by omega, ?_, fun j hj => ?_⟩
     · rw [show k0 + (k2 + 1) = k0 + k2 + 1 by omega, hdt, if_neg hne2, ← htk]
       rw [List.take_succ_eq_append_getElem (by simp; omega), List.getElem_set_self, List.take_set_of_le (Nat.le_refl _)]
     · rw [List.getElem?_set_ne (by omega)]
       exact hrest j (by omega)
   · have heq2 := Decidable.not_not.1 heq2
     refine rd_inc (by omega) ?_
     refine ⟨mk2 - 1, by omega, k2 + 1, by omega, k, cur, rfl, hc4, hm4, hl3, by omega, by omega, hk0, by omega, ?_, hrest⟩
     rw [show k0 + (k2 + 1) = k0 + k2 + 1 by omega, hdt, if_pos heq2, htk]
 · have hk2 : k0 + k2 = l.length := by omega
   rw [hk2, List.take_length] at htk
   refine rd_dropF (α := DRace) u58 ty109 (by omega) h1 ?_
   refine op_clearF (α := DRace) u58 zl109 hm3 hl3 (by omega) (by omega) h1 fun w5 hc5 hm5 => ?_
   refine rd_cutF (α := DRace) u58 ty109 (by omega) h1 ?_
   rw [htk] at hm5
   exact ⟨(hc3.trans hc5).toI hF, [b], hm5, hF⟩
theorem cloneR_ok {w W : World} {v : Value} {l : List DRace} (h : Is W v l) (e : Ext W w) (hn : l.length ≤ 1073741824) :
   CALL Tryz.prog 168 [v] w fun r w' => Ext w w' ∧ Own w.heap.size w' r l := by
 refine F168_call ?_
 unfold F168
 obtain ⟨a, cap, Fi, xs, rfl, h1, h2, h3, h4⟩ := is_list h
 refine rd_slice_nil u58 ?_
 refine br_b (fun hnil => ?_) (fun _ => ?_)
 · have : l = [] := by
     rcases h4 with h4 | ⟨b, o, rfl, _⟩
     · exact h4
     · simp at hnil
   subst this
   exact ⟨Ext.refl w, own_nil rfl⟩
 · refine op_build0I (α := DRace) u58 ty109 fun a5 w1 hx1 r5 => ?_
   have hs1 := hx1.size
   refine op_appendI (α := DRace) u58 ty109 zc109 r5 (Nat.le_refl _) h (e.trans hx1) (by rw [maxLen_eq]; simp; omega) (by simp; omega) fun v7 w2 hc2 r7 => ?_
   rw [List.nil_append] at r7
   exact ⟨Ext.chgI hx1 hc2 (by omega), r7.own.own.mono (by omega)⟩
theorem clipR_ok {w : World} {lo hi : Nat} {v : Value} {l : List DRace} (h : OwnI lo hi w v l) :
   CALL Tryz.prog 171 [v] w fun r w' => Ext w w' ∧ OwnI lo hi w' r l := by
 obtain ⟨F, hM, hF⟩ := h
 refine F171_call ?_
 unfold F171
 refine rd_len u58 hM.is ?_
 refine rd_len u58 hM.is ?_
 by_cases hne : l = []
 · subst hne
   obtain ⟨a, cap, Fi, xs, rfl, h1, h2, h3, h4⟩ := is_list hM.is
   refine rd_clipF (α := DRace) (k := 0) (j := 0) u58 ty109 (Nat.le_refl _) h1 fun a' _ => ⟨Ext.refl w, ownI_zcap a'⟩
 · obtain ⟨b, o, cap, xs, rfl, rfl, h1, h2, hc, hr, hw⟩ := mine_parts hM hne
   refine rd_clipF (α := DRace) (k := l.length) (j := l.length) u58 ty109 (Nat.le_refl _) h1 fun a' ha => ?_
   rw [ha (fun e => hne (List.eq_nil_of_length_eq_zero e))]
   exact ⟨Ext.refl w, [b], mine_of_parts (Nat.le_refl _) (by omega) hc hr hw, hF⟩
theorem own_touch {lo hi : Nat} {w : World} {x : DTouch} (h1 : I64 x.at_) (h2 : I64 x.global) (h3 : I64 x.held) : OwnI lo hi w (.agg #[.int .i64 x.at_, .int .i64 x.global, .bool x.write, .int .i64 x.held]) x :=
 ⟨[], mk_DTouch h1 h2 h3, by simp⟩
def touchTo (c : DCode) (a : Int) (held : Int) (i : DIns) : Nat → List DTouch
 | 0 => []
 | k + 1 => touchTo c a held i k ++ (if c.globals.getD k ByteArray.empty ∈ readsOf i.term then [⟨a, k, false, held⟩] else []) ++ (if i.op = 1 ∧ i.arg = k then [⟨a, k, true, held⟩] else [])
def touchAt (c : DCode) (a : Int) (held : Int) : List DTouch :=
 if (insAt c a.toNat).op = 1 ∨ (insAt c a.toNat).op = 2 then touchTo c a held (insAt c a.toNat) c.globals.length else []
theorem touchTo_len (c : DCode) (a held : Int) (i : DIns) : ∀ k, (touchTo c a held i k).length ≤ 2 * k
 | 0 => by simp [touchTo]
 | k + 1 => by
   have := touchTo_len c a held i k
   rw [touchTo, List.length_append, List.length_append]
   split <;> split <;> simp <;> omega
theorem touchAt_len (c : DCode) (a held : Int) : (touchAt c a held).length ≤ 2 * c.globals.length := by
 unfold touchAt
 split
 · exact touchTo_len _ _ _ _ _
 · simp
def F161 (a0 a1 a2 : Value) (w : World) (R : VW) : Prop :=
 OP tp (Instr.box 35 a0) w fun x3 w =>
 RD tp (Instr.fieldAt 35 x3 4) w fun x12 =>
 RD tp (Instr.loadAt 33 x12) w fun x13 =>
 RD tp (Instr.indexAt 33 x13 a1) w fun x15 =>
 RD tp (Instr.loadAt 136 x15) w fun x16 =>
 OP tp (Instr.alloc 136 true (.tuple #[])) w fun x7 w =>
 OPU tp (Instr.storeAt 136 x7 x16) w fun w =>
 JOIN [] (fun J4 =>
 RD tp (Instr.fieldAt 136 x7 0) w fun x17 =>
 RD tp (Instr.loadAt 3 x17) w fun x18 =>
 RD tp (bin .neq 3 T0 U0 x18 (Value.int .i64 1)) w fun x19 =>
 BR x19
 (RD tp (Instr.fieldAt 136 x7 0) w fun x21 =>
 RD tp (Instr.loadAt 3 x21) w fun x22 =>
 RD tp (bin .neq 3 T0 U0 x22 (Value.int .i64 2)) w fun x23 =>
 BR x23
 (R (Value.slice none 0 0) w)
 (J4 [] w))
 (J4 [] w)) (fun u4 w =>
 RD tp (Instr.fieldAt 136 x7 2) w fun x25 =>
 RD tp (Instr.loadAt 134 x25) w fun x26 =>
 CALL tp 225 [x26] w fun x27 w =>
 RD tp (Instr.fieldAt 35 x3 0) w fun x28 =>
 RD tp (Instr.loadAt 22 x28) w fun x29 =>
 RD tp (ln 22 3 x29) w fun x30 =>
 LOOPI [9, 31] [(Value.slice none 0 0), (Value.int .i64 0)] w fun u7 w next7 =>
 RD tp (bin .lss 3 T0 T0 (u7 31) x30) w fun x32 =>
 BR x32
 (RD tp (Instr.indexAt 22 x29 (u7 31)) w fun x34 =>
 RD tp (Instr.loadAt 9 x34) w fun x35 =>
 JOIN [9] (fun J11 =>
 CALL tp 226 [x27, x35] w fun x38 w =>
 BR x38
 (RD tp (Instr.build 177 #[(0, a1), (1, (u7 31)), (3, a2)]) w fun x43 =>
 OP tp (Instr.buildSlice 174 1 #[(0, x43)]) w fun x44 w =>
 OP tp (Builtin.append_ #[174, 174] 174 [(u7 9), x44].toArray) w fun x45 w =>
 J11 [x45] w)
 (J11 [(u7 9)] w)) (fun u11 w =>
 RD tp (Instr.fieldAt 136 x7 0) w fun x46 =>
 RD tp (Instr.loadAt 3 x46) w fun x47 =>
 RD tp (bin .eql 3 T0 U0 x47 (Value.int .i64 1)) w fun x48 =>
 BR x48
 (RD tp (Instr.fieldAt 136 x7 1) w fun x50 =>
 RD tp (Instr.loadAt 3 x50) w fun x51 =>
 RD tp (bin .eql 3 T0 T0 x51 (u7 31)) w fun x53 =>
 BR x53
 (RD tp (Instr.build 177 #[(0, a1), (1, (u7 31)), (2, (Value.bool true)), (3, a2)]) w fun x59 =>
 OP tp (Instr.buildSlice 174 1 #[(0, x59)]) w fun x60 w =>
 OP tp (Builtin.append_ #[174, 174] 174 [(u11 9), x60].toArray) w fun x61 w =>
 RD tp (bin .add 3 T0 U0 (u7 31) (Value.int .i64 1)) w fun x62 =>
 next7 [x61, x62] w)
 (RD tp (bin .add 3 T0 U0 (u7 31) (Value.int .i64 1)) w fun x62 =>
 next7 [(u11 9), x62] w))
 (RD tp (bin .add 3 T0 U0 (u7 31) (Value.int .i64 1)) w fun x62 =>
 next7 [(u11 9), x62] w)))
 (R (u7 9) w))
def cfg161 : Cfg := ⟨extL, [(4, 33423424, []), (11, 70300024701440, [9])], [(7, 9223372034707295744, [9, 31])], [], [], [], []⟩
theorem F161_eq (a0 a1 a2 : Value) (w : World) (R : VW) : vcF Tryz.prog cfg161 Tryz.f161 [a0, a1, a2] w R = F161 a0 a1 a2 w R := by kernel_rfl
theorem F161_call {a0 a1 a2 : Value} {w : World} {R : VW} (h : F161 a0 a1 a2 w R) : CALL Tryz.prog 161 [a0, a1, a2] w R :=
 call_of (g := cfg161) ent mixed Tryz.func161 (Nat.le_of_ble_eq_true (by kernel_rfl)) (by kernel_rfl) (F161_eq a0 a1 a2 w R ▸ h)
theorem touchesIn_ok {w : World} {v0 : Value} {W0 : World} {c : DCode} {a : Int} {held : Int}  (h0 : Is W0 v0 c) (e0 : Ext W0 w) (hc : CodeR c) (ha : 0 ≤ a) (ha2 : a < c.ins.length) (hh : I64 held) :
   CALL Tryz.prog 161 [v0, .int .i64 a, .int .i64 held] w fun r w' => Ext w w' ∧ (Own w.heap.size w' r (touchAt c a held)) := by
 refine F161_call ?_
 unfold F161
 have hil := hc.f.ins
 have hg6 : c.globals.length ≤ 6 := by have h1 := hc.1.1; simp only [Bool.and_eq_true, decide_eq_true_eq] at h1; omega
 have hs_e0 := e0.size
 refine op_boxS ty35 rfl h0 e0 fun w1_ hx1_ hA3 hV3 => ?_
 have hs_hx1_ := hx1_.size
 refine rd_fld fd35_4 ?_
 refine rd_load ty33 (at_DCode_4 hA3) (Ext.refl w1_) fun v13 h13 => ?_
 refine rd_index u33 ty136 h13 (by omega) (by omega) fun b15 o15 h15 => ?_
 rw [insAt_get] at h15
 obtain ⟨i, hi⟩ : ∃ i, i = insAt c a.toNat := ⟨_, rfl⟩
 rw [← hi] at h15
 refine rd_load ty136 h15 (Ext.refl w1_) fun v16 h16 => ?_
 refine op_var zl136 rfl ty136 rfl h16 (Ext.refl w1_) fun w2_ hx2_ hA7 hV7 => ?_
 have hs_hx2_ := hx2_.size
 have hg7 := hV7.lt
 refine JOIN.mk (fun us w' => us = [] ∧ Ext w2_ w' ∧ (i.op = 1 ∨ i.op = 2)) ?_ ?_
 · refine rd_fld fd136_0 ?_
   refine rd_loadI ty3 (at_DIns_0 hA7) (Ext.refl w2_) fun hI18 => ?_
   refine rd_neq ?_
   refine br (fun c1 => ?_) (fun c1 => ?_)
   · refine rd_fld fd136_0 ?_
     refine rd_loadI ty3 (at_DIns_0 hA7) (Ext.refl w2_) fun hI22 => ?_
     refine rd_neq ?_
     refine br (fun c2 => ?_) (fun c2 => ?_)
     · refine ⟨(hx1_.trans hx2_), ?_⟩
       unfold touchAt
       rw [← hi, if_neg (by omega)]
       exact own_nil rfl
     · refine ⟨by simp, Ext.refl w2_, ?_⟩
       omega
   · refine ⟨by simp, Ext.refl w2_, ?_⟩
     omega
 · rintro uj4 w3_ ⟨hu, hx3_, hop⟩
   have hs_hx3_ := hx3_.size
   simp only [List.map_cons, List.map_nil, List.cons.injEq, and_true] at hu
   clear hu
   refine rd_fld fd136_2 ?_
   refine rd_load ty134 (at_DIns_2 hA7) hx3_ fun v26 h26 => ?_
   refine (implReadsOf_ok h26 hx3_).mono ?_
   rintro r27 w4_ ⟨hx4_, h27⟩
   have hs_hx4_ := hx4_.size
   refine rd_fld fd35_0 ?_
   refine rd_load ty22 (at_DCode_0 hA3) (hx2_.trans (hx3_.trans hx4_)) fun v29 h29 => ?_
   have hln30 := is_len h29
   refine rd_len u22 h29 ?_
   refine loopC (c.globals.length) (fun k us w' => ∃ v : Value, us = [v, .int .i64 (k : Int)] ∧ Ext w4_ w' ∧ (RowI w4_.heap.size w'.heap.size 177 w' v (touchTo c a held i k))) (0) (by omega) ⟨_, rfl, Ext.refl w4_, rowI_nil _ _ _ _⟩ ?_
   rintro k m7 uu7 w5_ hk7 ⟨v9, hu, hx5_, hrow⟩
   have hs_hx5_ := hx5_.size
   simp only [List.map_cons, List.map_nil, List.cons.injEq, and_true] at hu
   obtain ⟨hu0, hu1⟩ := hu
   try rw [hu0]
   try rw [hu1]
   try clear hu0 hu1
   have hrl := touchTo_len c a held i k
   refine rd_lss ?_
   refine br (fun c3 => ?_) (fun c3 => ?_)
   · refine rd_indexN u22 ty9 h29 (by omega) fun b34 o34 h34 => ?_
     refine rd_loadS ty9 h34 (hx2_.trans (hx3_.trans (hx4_.trans hx5_))) fun hS35 => ?_
     refine JOIN.mk (fun us w' => ∃ v : Value, us = [v] ∧ Ext w4_ w' ∧ (RowI w4_.heap.size w'.heap.size 177 w' v (touchTo c a held i k ++ (if c.globals.getD k ByteArray.empty ∈ readsOf i.term then [⟨a, k, false, held⟩] else [])))) ?_ ?_
     · have hgk : c.globals[k]'(by omega) = c.globals.getD k ByteArray.empty := by rw [List.getD_eq_getElem?_getD, List.getElem?_eq_getElem (by omega)]; rfl
       refine (containsStr_ok h27 hx5_).mono ?_
       rintro _ w7_ ⟨hx7_, rfl⟩
       have hs_hx7_ := hx7_.size
       refine br (fun c4 => ?_) (fun c4 => ?_)
       · refine rd_build (cells := #[.int .i64 a, .int .i64 (k : Int), .bool false, .int .i64 held]) (by kernel_rfl) ?_
         have o43 : OwnI w7_.heap.size w7_.heap.size w7_ (.agg #[.int .i64 a, .int .i64 (k : Int), .bool false, .int .i64 held]) (⟨a, k, false, held⟩ : DTouch) := own_touch (x := ⟨a, k, false, held⟩) (by show I64 a; unfold I64; omega) (by show I64 (k : Int); unfold I64; omega) hh
         refine op_push (α := DTouch) u174 ty177 z177 zc177 (by decide) (hrow.ext hx7_) (by omega) (o43.ext (Ext.refl w7_)) (by omega) (by omega) (by rw [maxLen_eq]; omega) (by omega) fun v45 w8_ hc8_ o45 => ?_
         have hs_hc8_ := hc8_.size
         have o43_c8 := (o43.ext (Ext.refl w7_)).chg hc8_ (by omega)
         refine ⟨_, rfl, (Ext.chgI (hx5_.trans hx7_) hc8_ (by omega)), ?_⟩
         rw [if_pos (by rw [← hgk]; exact c4)]; exact o45
       · refine ⟨_, rfl, (hx5_.trans hx7_), ?_⟩
         rw [if_neg (by rw [← hgk]; exact c4), List.append_nil]; exact (hrow.ext hx7_).mono (by omega) (by omega)
     · rintro uj11 w6_ ⟨v11, hu, hx8_, hrow2⟩
       have hs_hx8_ := hx8_.size
       simp only [List.map_cons, List.map_nil, List.cons.injEq, and_true] at hu
       try rw [hu]
       try clear hu
       refine rd_fld fd136_0 ?_
       refine rd_loadI ty3 (at_DIns_0 hA7) (hx3_.trans (hx4_.trans hx8_)) fun hI47 => ?_
       refine rd_eql ?_
       refine br (fun c5 => ?_) (fun c5 => ?_)
       · refine rd_fld fd136_1 ?_
         refine rd_loadI ty3 (at_DIns_1 hA7) (hx3_.trans (hx4_.trans hx8_)) fun hI51 => ?_
         refine rd_eql ?_
         refine br (fun c6 => ?_) (fun c6 => ?_)
         · refine rd_build (cells := #[.int .i64 a, .int .i64 (k : Int), .bool true, .int .i64 held]) (by kernel_rfl) ?_
           have o59 : OwnI w6_.heap.size w6_.heap.size w6_ (.agg #[.int .i64 a, .int .i64 (k : Int), .bool true, .int .i64 held]) (⟨a, k, true, held⟩ : DTouch) := own_touch (x := ⟨a, k, true, held⟩) (by show I64 a; unfold I64; omega) (by show I64 (k : Int); unfold I64; omega) hh
           refine op_push (α := DTouch) u174 ty177 z177 zc177 (by decide) (hrow2.ext (Ext.refl w6_)) (by omega) (o59.ext (Ext.refl w6_)) (by omega) (by omega) (by rw [maxLen_eq, List.length_append]; split <;> simp <;> omega) (by rw [List.length_append]; split <;> simp <;> omega) fun v61 w9_ hc9_ o61 => ?_
           have hs_hc9_ := hc9_.size
           have o59_c9 := (o59.ext (Ext.refl w6_)).chg hc9_ (by omega)
           refine rd_inc (by omega) ?_
           refine ⟨m7 - 1, by omega, k + 1, by omega, _, rfl, (Ext.chgI hx8_ hc9_ (by omega)), ?_⟩
           rw [touchTo, if_pos (c := i.op = 1 ∧ i.arg = k) ⟨by omega, by omega⟩]; exact o61
         · refine rd_inc (by omega) ?_
           refine ⟨m7 - 1, by omega, k + 1, by omega, _, rfl, hx8_, ?_⟩
           rw [touchTo, if_neg (c := i.op = 1 ∧ i.arg = k) (fun h => c6 h.2), List.append_nil]; exact (hrow2.ext (Ext.refl w6_)).mono (by omega) (by omega)
       · refine rd_inc (by omega) ?_
         refine ⟨m7 - 1, by omega, k + 1, by omega, _, rfl, hx8_, ?_⟩
         rw [touchTo, if_neg (c := i.op = 1 ∧ i.arg = k) (fun h => c5 h.1), List.append_nil]; exact (hrow2.ext (Ext.refl w6_)).mono (by omega) (by omega)
   · refine ⟨(hx1_.trans (hx2_.trans (hx3_.trans (hx4_.trans hx5_)))), ?_⟩
     unfold touchAt
     rw [← hi, if_pos hop, ← show k = c.globals.length by omega]
     exact hrow.own.own.mono (by omega)
def F155 (a0 a1 a2 : Value) (w : World) (R : VW) : Prop :=
 OP tp (Instr.box 35 a0) w fun x3 w =>
 OP tp (Instr.buildSlice 174 0 #[]) w fun x11 w =>
 RD tp (Instr.fieldAt 35 x3 4) w fun x12 =>
 RD tp (Instr.loadAt 33 x12) w fun x13 =>
 RD tp (Instr.indexAt 33 x13 a1) w fun x15 =>
 RD tp (Instr.loadAt 136 x15) w fun x16 =>
 OP tp (Instr.alloc 136 true (.tuple #[])) w fun x8 w =>
 OPU tp (Instr.storeAt 136 x8 x16) w fun w =>
 JOIN [] (fun J5 =>
 RD tp (Instr.fieldAt 136 x8 0) w fun x17 =>
 RD tp (Instr.loadAt 3 x17) w fun x18 =>
 RD tp (bin .neq 3 T0 U0 x18 (Value.int .i64 1)) w fun x19 =>
 BR x19
 (RD tp (Instr.fieldAt 136 x8 0) w fun x21 =>
 RD tp (Instr.loadAt 3 x21) w fun x22 =>
 RD tp (bin .neq 3 T0 U0 x22 (Value.int .i64 2)) w fun x23 =>
 BR x23
 (R x11 w)
 (J5 [] w))
 (J5 [] w)) (fun u5 w =>
 RD tp (Instr.fieldAt 136 x8 2) w fun x26 =>
 RD tp (Instr.loadAt 134 x26) w fun x27 =>
 CALL tp 206 [x27] w fun x28 w =>
 LOOPI [7, 10] [x11, (Value.int .i64 0)] w fun u7 w next7 =>
 RD tp (Instr.fieldAt 35 x3 0) w fun x30 =>
 RD tp (Instr.loadAt 22 x30) w fun x31 =>
 RD tp (ln 22 3 x31) w fun x32 =>
 RD tp (bin .lss 3 T0 T0 (u7 10) x32) w fun x33 =>
 BR x33
 (JOIN [7] (fun J11 =>
 RD tp (Instr.fieldAt 35 x3 0) w fun x37 =>
 RD tp (Instr.loadAt 22 x37) w fun x38 =>
 RD tp (Instr.indexAt 22 x38 (u7 10)) w fun x40 =>
 RD tp (Instr.loadAt 9 x40) w fun x41 =>
 CALL tp 219 [x28, x41] w fun x42 w =>
 BR x42
 (RD tp (Instr.build 177 #[(0, a1), (1, (u7 10)), (3, a2)]) w fun x47 =>
 OP tp (Instr.buildSlice 174 1 #[(0, x47)]) w fun x48 w =>
 OP tp (Builtin.append_ #[174, 174] 174 [(u7 7), x48].toArray) w fun x49 w =>
 J11 [x49] w)
 (J11 [(u7 7)] w)) (fun u11 w =>
 RD tp (Instr.fieldAt 136 x8 0) w fun x50 =>
 RD tp (Instr.loadAt 3 x50) w fun x51 =>
 RD tp (bin .eql 3 T0 U0 x51 (Value.int .i64 1)) w fun x52 =>
 BR x52
 (RD tp (Instr.fieldAt 136 x8 1) w fun x54 =>
 RD tp (Instr.loadAt 3 x54) w fun x55 =>
 RD tp (bin .eql 3 T0 T0 x55 (u7 10)) w fun x57 =>
 BR x57
 (RD tp (Instr.build 177 #[(0, a1), (1, (u7 10)), (2, (Value.bool true)), (3, a2)]) w fun x63 =>
 OP tp (Instr.buildSlice 174 1 #[(0, x63)]) w fun x64 w =>
 OP tp (Builtin.append_ #[174, 174] 174 [(u11 7), x64].toArray) w fun x65 w =>
 RD tp (bin .add 3 T0 U0 (u7 10) (Value.int .i64 1)) w fun x35 =>
 next7 [x65, x35] w)
 (RD tp (bin .add 3 T0 U0 (u7 10) (Value.int .i64 1)) w fun x35 =>
 next7 [(u11 7), x35] w))
 (RD tp (bin .add 3 T0 U0 (u7 10) (Value.int .i64 1)) w fun x35 =>
 next7 [(u11 7), x35] w)))
 (R (u7 7) w))
def cfg155 : Cfg := ⟨extL, [(5, 66977856, []), (11, 1125831187366016, [7])], [(7, 73786976294301336704, [7, 10])], [], [], [], []⟩
theorem F155_eq (a0 a1 a2 : Value) (w : World) (R : VW) : vcF Tryz.prog cfg155 Tryz.f155 [a0, a1, a2] w R = F155 a0 a1 a2 w R := by kernel_rfl
theorem F155_call {a0 a1 a2 : Value} {w : World} {R : VW} (h : F155 a0 a1 a2 w R) : CALL Tryz.prog 155 [a0, a1, a2] w R :=
 call_of (g := cfg155) ent mixed Tryz.func155 (Nat.le_of_ble_eq_true (by kernel_rfl)) (by kernel_rfl) (F155_eq a0 a1 a2 w R ▸ h)
theorem l17At_ok {w : World} {v0 : Value} {W0 : World} {c : DCode} {a : Int} {held : Int}  (h0 : Is W0 v0 c) (e0 : Ext W0 w) (hc : CodeR c) (ha : 0 ≤ a) (ha2 : a < c.ins.length) (hh : I64 held) :
   CALL Tryz.prog 155 [v0, .int .i64 a, .int .i64 held] w fun r w' => Ext w w' ∧ (Own w.heap.size w' r (touchAt c a held)) := by
 refine F155_call ?_
 unfold F155
 have hil := hc.f.ins
 have hg6 : c.globals.length ≤ 6 := by have h1 := hc.1.1; simp only [Bool.and_eq_true, decide_eq_true_eq] at h1; omega
 have hs_e0 := e0.size
 refine op_boxS ty35 rfl h0 e0 fun w1_ hx1_ hA3 hV3 => ?_
 have hs_hx1_ := hx1_.size
 refine op_build0I (α := DTouch) u174 ty177 fun v11 w2_ hx2_ o11 => ?_
 have hs_hx2_ := hx2_.size
 refine rd_fld fd35_4 ?_
 refine rd_load ty33 (at_DCode_4 hA3) hx2_ fun v13 h13 => ?_
 refine rd_index u33 ty136 h13 (by omega) (by omega) fun b15 o15 h15 => ?_
 rw [insAt_get] at h15
 obtain ⟨i, hi⟩ : ∃ i, i = insAt c a.toNat := ⟨_, rfl⟩
 rw [← hi] at h15
 refine rd_load ty136 h15 hx2_ fun v16 h16 => ?_
 refine op_var zl136 rfl ty136 rfl h16 hx2_ fun w3_ hx3_ hA8 hV8 => ?_
 have hs_hx3_ := hx3_.size
 have hg8 := hV8.lt
 refine JOIN.mk (fun us w' => us = [] ∧ Ext w3_ w' ∧ (i.op = 1 ∨ i.op = 2)) ?_ ?_
 · refine rd_fld fd136_0 ?_
   refine rd_loadI ty3 (at_DIns_0 hA8) (Ext.refl w3_) fun hI18 => ?_
   refine rd_neq ?_
   refine br (fun c1 => ?_) (fun c1 => ?_)
   · refine rd_fld fd136_0 ?_
     refine rd_loadI ty3 (at_DIns_0 hA8) (Ext.refl w3_) fun hI22 => ?_
     refine rd_neq ?_
     refine br (fun c2 => ?_) (fun c2 => ?_)
     · refine ⟨(hx1_.trans (hx2_.trans hx3_)), ?_⟩
       unfold touchAt
       rw [← hi, if_neg (by omega)]
       exact (o11.ext hx3_).own.own.mono (by omega)
     · refine ⟨by simp, Ext.refl w3_, ?_⟩
       omega
   · refine ⟨by simp, Ext.refl w3_, ?_⟩
     omega
 · rintro uj5 w4_ ⟨hu, hx4_, hop⟩
   have hs_hx4_ := hx4_.size
   simp only [List.map_cons, List.map_nil, List.cons.injEq, and_true] at hu
   clear hu
   refine rd_fld fd136_2 ?_
   refine rd_load ty134 (at_DIns_2 hA8) hx4_ fun v27 h27 => ?_
   refine (specReadsOf_ok h27 hx4_).mono ?_
   rintro r28 w5_ ⟨hx5_, h28⟩
   have hs_hx5_ := hx5_.size
   refine loopC (c.globals.length) (fun k us w' => ∃ v : Value, us = [v, .int .i64 (k : Int)] ∧ Ext w5_ w' ∧ (RowI w5_.heap.size w'.heap.size 177 w' v (touchTo c a held i k))) (0) (by omega) ⟨_, rfl, Ext.refl w5_, rowI_zcap _ _ _ _ _⟩ ?_
   rintro k m7 uu7 w6_ hk7 ⟨v7, hu, hx6_, hrow⟩
   have hs_hx6_ := hx6_.size
   simp only [List.map_cons, List.map_nil, List.cons.injEq, and_true] at hu
   obtain ⟨hu0, hu1⟩ := hu
   try rw [hu0]
   try rw [hu1]
   try clear hu0 hu1
   have hrl := touchTo_len c a held i k
   refine rd_fld fd35_0 ?_
   refine rd_load ty22 (at_DCode_0 hA3) (hx2_.trans (hx3_.trans (hx4_.trans (hx5_.trans hx6_)))) fun v31 h31 => ?_
   have hln32 := is_len h31
   refine rd_len u22 h31 ?_
   refine rd_lss ?_
   refine br (fun c3 => ?_) (fun c3 => ?_)
   · refine JOIN.mk (fun us w' => ∃ v : Value, us = [v] ∧ Ext w5_ w' ∧ (RowI w5_.heap.size w'.heap.size 177 w' v (touchTo c a held i k ++ (if c.globals.getD k ByteArray.empty ∈ readsOf i.term then [⟨a, k, false, held⟩] else [])))) ?_ ?_
     · refine rd_fld fd35_0 ?_
       refine rd_load ty22 (at_DCode_0 hA3) (hx2_.trans (hx3_.trans (hx4_.trans (hx5_.trans hx6_)))) fun v38 h38 => ?_
       refine rd_indexN u22 ty9 h38 (by omega) fun b40 o40 h40 => ?_
       refine rd_loadS ty9 h40 (hx2_.trans (hx3_.trans (hx4_.trans (hx5_.trans hx6_)))) fun hS41 => ?_
       have hgk : c.globals[k]'(by omega) = c.globals.getD k ByteArray.empty := by rw [List.getD_eq_getElem?_getD, List.getElem?_eq_getElem (by omega)]; rfl
       refine (l04Has_ok h28 hx6_).mono ?_
       rintro _ w8_ ⟨hx8_, rfl⟩
       have hs_hx8_ := hx8_.size
       refine br (fun c4 => ?_) (fun c4 => ?_)
       · refine rd_build (cells := #[.int .i64 a, .int .i64 (k : Int), .bool false, .int .i64 held]) (by kernel_rfl) ?_
         have o47 : OwnI w8_.heap.size w8_.heap.size w8_ (.agg #[.int .i64 a, .int .i64 (k : Int), .bool false, .int .i64 held]) (⟨a, k, false, held⟩ : DTouch) := own_touch (x := ⟨a, k, false, held⟩) (by show I64 a; unfold I64; omega) (by show I64 (k : Int); unfold I64; omega) hh
         refine op_push (α := DTouch) u174 ty177 z177 zc177 (by decide) (hrow.ext hx8_) (by omega) (o47.ext (Ext.refl w8_)) (by omega) (by omega) (by rw [maxLen_eq]; omega) (by omega) fun v49 w9_ hc9_ o49 => ?_
         have hs_hc9_ := hc9_.size
         have o11_c9 := (o11.ext (hx3_.trans (hx4_.trans (hx5_.trans (hx6_.trans hx8_))))).chg hc9_ (by omega)
         have o47_c9 := (o47.ext (Ext.refl w8_)).chg hc9_ (by omega)
         refine ⟨_, rfl, (Ext.chgI (hx6_.trans hx8_) hc9_ (by omega)), ?_⟩
         rw [if_pos (by rw [← hgk]; exact c4)]; exact o49
       · refine ⟨_, rfl, (hx6_.trans hx8_), ?_⟩
         rw [if_neg (by rw [← hgk]; exact c4), List.append_nil]; exact (hrow.ext hx8_).mono (by omega) (by omega)
     · rintro uj11 w7_ ⟨v11, hu, hx9_, hrow2⟩
       have hs_hx9_ := hx9_.size
       simp only [List.map_cons, List.map_nil, List.cons.injEq, and_true] at hu
       try rw [hu]
       try clear hu
       refine rd_fld fd136_0 ?_
       refine rd_loadI ty3 (at_DIns_0 hA8) (hx4_.trans (hx5_.trans hx9_)) fun hI51 => ?_
       refine rd_eql ?_
       refine br (fun c5 => ?_) (fun c5 => ?_)
       · refine rd_fld fd136_1 ?_
         refine rd_loadI ty3 (at_DIns_1 hA8) (hx4_.trans (hx5_.trans hx9_)) fun hI55 => ?_
         refine rd_eql ?_
         refine br (fun c6 => ?_) (fun c6 => ?_)
         · refine rd_build (cells := #[.int .i64 a, .int .i64 (k : Int), .bool true, .int .i64 held]) (by kernel_rfl) ?_
           have o63 : OwnI w7_.heap.size w7_.heap.size w7_ (.agg #[.int .i64 a, .int .i64 (k : Int), .bool true, .int .i64 held]) (⟨a, k, true, held⟩ : DTouch) := own_touch (x := ⟨a, k, true, held⟩) (by show I64 a; unfold I64; omega) (by show I64 (k : Int); unfold I64; omega) hh
           refine op_push (α := DTouch) u174 ty177 z177 zc177 (by decide) (hrow2.ext (Ext.refl w7_)) (by omega) (o63.ext (Ext.refl w7_)) (by omega) (by omega) (by rw [maxLen_eq, List.length_append]; split <;> simp <;> omega) (by rw [List.length_append]; split <;> simp <;> omega) fun v65 w10_ hc10_ o65 => ?_
           have hs_hc10_ := hc10_.size
           have o11_c10 := (o11.ext (hx3_.trans (hx4_.trans (hx5_.trans hx9_)))).chg hc10_ (by omega)
           have o63_c10 := (o63.ext (Ext.refl w7_)).chg hc10_ (by omega)
           refine rd_inc (by omega) ?_
           refine ⟨m7 - 1, by omega, k + 1, by omega, _, rfl, (Ext.chgI hx9_ hc10_ (by omega)), ?_⟩
           rw [touchTo, if_pos (c := i.op = 1 ∧ i.arg = k) ⟨by omega, by omega⟩]; exact o65
         · refine rd_inc (by omega) ?_
           refine ⟨m7 - 1, by omega, k + 1, by omega, _, rfl, hx9_, ?_⟩
           rw [touchTo, if_neg (c := i.op = 1 ∧ i.arg = k) (fun h => c6 h.2), List.append_nil]; exact (hrow2.ext (Ext.refl w7_)).mono (by omega) (by omega)
       · refine rd_inc (by omega) ?_
         refine ⟨m7 - 1, by omega, k + 1, by omega, _, rfl, hx9_, ?_⟩
         rw [touchTo, if_neg (c := i.op = 1 ∧ i.arg = k) (fun h => c5 h.1), List.append_nil]; exact (hrow2.ext (Ext.refl w7_)).mono (by omega) (by omega)
   · refine ⟨(hx1_.trans (hx2_.trans (hx3_.trans (hx4_.trans (hx5_.trans hx6_))))), ?_⟩
     unfold touchAt
     rw [← hi, if_pos hop, ← show k = c.globals.length by omega]
     exact hrow.own.own.mono (by omega)
def F258 (a0 : Value) (w : World) (R : VW) : Prop :=
 RD tp (bin .neq 3 T0 T0 a0 a0) w fun x5 =>
 R x5 w
def cfg258 : Cfg := ⟨extL, [], [], [], [], [], []⟩
theorem F258_eq (a0 : Value) (w : World) (R : VW) : vcF Tryz.prog cfg258 Tryz.f258 [a0] w R = F258 a0 w R := by kernel_rfl
theorem F258_call {a0 : Value} {w : World} {R : VW} (h : F258 a0 w R) : CALL Tryz.prog 258 [a0] w R :=
 call_of (g := cfg258) ent mixed Tryz.func258 (Nat.le_of_ble_eq_true (by kernel_rfl)) (by kernel_rfl) (F258_eq a0 w R ▸ h)
def F210 (a0 a1 : Value) (w : World) (R : VW) : Prop :=
 CALL tp 258 [a0] w fun x8 w =>
 CALL tp 258 [a1] w fun x10 w =>
 BR x8
 (BR x10
 (R (Value.int .i64 0) w)
 (R (Value.int .i64 (-1)) w))
 (BR x10
 (R (Value.int .i64 1) w)
 (RD tp (bin .lss 3 T0 T0 a0 a1) w fun x16 =>
 BR x16
 (R (Value.int .i64 (-1)) w)
 (RD tp (bin .gtr 3 T0 T0 a0 a1) w fun x19 =>
 BR x19
 (R (Value.int .i64 1) w)
 (R (Value.int .i64 0) w))))
def cfg210 : Cfg := ⟨extL, [], [], [], [], [], []⟩
theorem F210_eq (a0 a1 : Value) (w : World) (R : VW) : vcF Tryz.prog cfg210 Tryz.f210 [a0, a1] w R = F210 a0 a1 w R := by kernel_rfl
theorem F210_call {a0 a1 : Value} {w : World} {R : VW} (h : F210 a0 a1 w R) : CALL Tryz.prog 210 [a0, a1] w R :=
 call_of (g := cfg210) ent mixed Tryz.func210 (Nat.le_of_ble_eq_true (by kernel_rfl)) (by kernel_rfl) (F210_eq a0 a1 w R ▸ h)
def F145 (a0 a1 : Value) (w : World) (R : VW) : Prop :=
 RD tp (ln 23 3 a0) w fun x10 =>
 LOOPI [11] [(Value.int .i64 0)] w fun u2 w next2 =>
 RD tp (bin .lss 3 T0 T0 (u2 11) x10) w fun x12 =>
 BR x12
 (RD tp (Instr.indexAt 23 a0 (u2 11)) w fun x14 =>
 RD tp (Instr.loadAt 3 x14) w fun x15 =>
 RD tp (ln 23 3 a1) w fun x18 =>
 RD tp (bin .geq 3 T0 T0 (u2 11) x18) w fun x19 =>
 BR x19
 (R (Value.int .i64 1) w)
 (RD tp (Instr.indexAt 23 a1 (u2 11)) w fun x22 =>
 RD tp (Instr.loadAt 3 x22) w fun x23 =>
 CALL tp 210 [x15, x23] w fun x26 w =>
 RD tp (bin .neq 3 T0 U0 x26 (Value.int .i64 0)) w fun x28 =>
 BR x28
 (R x26 w)
 (RD tp (bin .add 3 T0 U0 (u2 11) (Value.int .i64 1)) w fun x30 =>
 next2 [x30] w)))
 (RD tp (ln 23 3 a0) w fun x32 =>
 RD tp (ln 23 3 a1) w fun x34 =>
 RD tp (bin .lss 3 T0 T0 x32 x34) w fun x35 =>
 BR x35
 (R (Value.int .i64 (-1)) w)
 (R (Value.int .i64 0) w))
def cfg145 : Cfg := ⟨extL, [], [(2, 2147482096, [11])], [], [], [], []⟩
theorem F145_eq (a0 a1 : Value) (w : World) (R : VW) : vcF Tryz.prog cfg145 Tryz.f145 [a0, a1] w R = F145 a0 a1 w R := by kernel_rfl
theorem F145_call {a0 a1 : Value} {w : World} {R : VW} (h : F145 a0 a1 w R) : CALL Tryz.prog 145 [a0, a1] w R :=
 call_of (g := cfg145) ent mixed Tryz.func145 (Nat.le_of_ble_eq_true (by kernel_rfl)) (by kernel_rfl) (F145_eq a0 a1 w R ▸ h)
def F170 (a0 a1 : Value) (w : World) (R : VW) : Prop :=
 OP tp (Instr.box 109 a0) w fun x2 w =>
 OP tp (Instr.box 109 a1) w fun x3 w =>
 RD tp (Instr.fieldAt 109 x2 0) w fun x5 =>
 RD tp (Instr.loadAt 3 x5) w fun x6 =>
 RD tp (Instr.fieldAt 109 x2 1) w fun x7 =>
 RD tp (Instr.loadAt 3 x7) w fun x8 =>
 RD tp (Instr.fieldAt 109 x2 2) w fun x9 =>
 RD tp (Instr.loadAt 3 x9) w fun x10 =>
 OP tp (Instr.buildSlice 23 3 #[(0, x6), (1, x8), (2, x10)]) w fun x11 w =>
 RD tp (Instr.fieldAt 109 x3 0) w fun x12 =>
 RD tp (Instr.loadAt 3 x12) w fun x13 =>
 RD tp (Instr.fieldAt 109 x3 1) w fun x14 =>
 RD tp (Instr.loadAt 3 x14) w fun x15 =>
 RD tp (Instr.fieldAt 109 x3 2) w fun x16 =>
 RD tp (Instr.loadAt 3 x16) w fun x17 =>
 OP tp (Instr.buildSlice 23 3 #[(0, x13), (1, x15), (2, x17)]) w fun x18 w =>
 CALL tp 145 [x11, x18] w fun x19 w =>
 R x19 w
def cfg170 : Cfg := ⟨extL, [], [], [], [], [], []⟩
theorem F170_eq (a0 a1 : Value) (w : World) (R : VW) : vcF Tryz.prog cfg170 Tryz.f170 [a0, a1] w R = F170 a0 a1 w R := by kernel_rfl
theorem F170_call {a0 a1 : Value} {w : World} {R : VW} (h : F170 a0 a1 w R) : CALL Tryz.prog 170 [a0, a1] w R :=
 call_of (g := cfg170) ent mixed Tryz.func170 (Nat.le_of_ble_eq_true (by kernel_rfl)) (by kernel_rfl) (F170_eq a0 a1 w R ▸ h)
set_option linter.unusedVariables false
set_option linter.unusedSimpArgs false
theorem zlIc : zeroL Tryz.prog 3 = some [.int .i64 0] := by kernel_rfl
def cmpI (x y : Int) : Int := if x < y then -1 else if y < x then 1 else 0
def cmpL : List Int → List Int → Int
 | [], [] => 0
 | [], _ :: _ => -1
 | _ :: _, [] => 1
 | x :: l, y :: m => if cmpI x y ≠ 0 then cmpI x y else cmpL l m
theorem isNaN_ok {w : World} {x : Int} : CALL Tryz.prog 258 [.int .i64 x] w fun r w' => w' = w ∧ r = .bool false := by
 refine F258_call ?_
 unfold F258
 exact rd_neq ⟨rfl, by simp⟩
theorem compareI_ok {w : World} {x y : Int} : CALL Tryz.prog 210 [.int .i64 x, .int .i64 y] w fun r w' => w' = w ∧ r = .int .i64 (cmpI x y) := by
 refine F210_call ?_
 unfold F210
 refine isNaN_ok.mono ?_
 rintro _ _ ⟨rfl, rfl⟩
 refine isNaN_ok.mono ?_
 rintro _ _ ⟨rfl, rfl⟩
 refine br_b (fun h => by cases h) (fun _ => ?_)
 refine br_b (fun h => by cases h) (fun _ => ?_)
 refine rd_lss ?_
 refine br (fun h => ⟨rfl, by rw [cmpI, if_pos h]⟩) (fun h => ?_)
 refine rd_gtr ?_
 refine br (fun h2 => ⟨rfl, by rw [cmpI, if_neg h, if_pos h2]⟩) (fun h2 => ⟨rfl, by rw [cmpI, if_neg h, if_neg h2]⟩)
theorem rd_lenV {P : Program} {w : World} {K : Value → Prop} {t ty e : TypeId} {a : Option Addr} {n c : Nat} (ht : P.underlying t = some (.slice e)) (k : K (.int .i64 (n : Int))) :
   RD P (Builtin.len_ #[t] ty [Value.slice a n c].toArray) w K := rd_of (fun w' _ => by simp [Builtin.len_, run_underlying ht]; rfl) k
def vI (l : List Int) : List Value := l.map fun x => .int .i64 x
theorem vI_get {l : List Int} {k : Nat} (h : k < l.length) : (vI l)[k]? = some (.int .i64 l[k]) := by simp [vI, h]
theorem cmpL_step {l m : List Int} {k : Nat} (h1 : k < l.length) (h2 : k < m.length) : cmpL (l.drop k) (m.drop k) = if cmpI l[k] m[k] ≠ 0 then cmpI l[k] m[k] else cmpL (l.drop (k + 1)) (m.drop (k + 1)) := by
 rw [List.drop_eq_getElem_cons h1, List.drop_eq_getElem_cons h2, cmpL]
theorem compareL_ok {w : World} {g1 g2 e1 e2 c1 c2 : Nat} {l m : List Int} (h1 : Blk g1 e1 w (vI l)) (h2 : Blk g2 e2 w (vI m)) (hl : l.length ≤ 1000) (hm : m.length ≤ 1000) :
   CALL Tryz.prog 145 [.slice (some ⟨g1, 0, none⟩) l.length c1, .slice (some ⟨g2, 0, none⟩) m.length c2] w fun r w' => w' = w ∧ r = .int .i64 (cmpL l m) := by
 refine F145_call ?_
 unfold F145
 refine rd_lenV u23 ?_
 refine loopC l.length (fun k us w' => us = [.int .i64 (k : Int)] ∧ w' = w ∧ k ≤ m.length ∧ cmpL l m = cmpL (l.drop k) (m.drop k)) 0 (Nat.zero_le _) ⟨rfl, rfl, Nat.zero_le _, rfl⟩ ?_
 rintro k mk u w2 hkm ⟨hu, rfl, hkl, hc⟩
 simp only [List.map_cons, List.map_nil, List.cons.injEq, and_true] at hu
 rw [hu]
 refine rd_lss ?_
 refine br (fun hlt => ?_) (fun hge => ?_)
 · have hk1 : k < l.length := by omega
   refine rd_indexG u23 ty3 hk1 ?_
   rw [Nat.mul_one]
   refine rd_blkV ty3 h1 (vI_get hk1) ?_
   refine rd_lenV u23 ?_
   refine rd_geq ?_
   refine br (fun hge => ?_) (fun hlt2 => ?_)
   · refine ⟨rfl, ?_⟩
     have e0 : m.drop k = [] := List.drop_eq_nil_of_le (by omega)
     rw [hc, List.drop_eq_getElem_cons hk1, e0]; rfl
   · have hk2 : k < m.length := by omega
     refine rd_indexG u23 ty3 hk2 ?_
     rw [Nat.mul_one]
     refine rd_blkV ty3 h2 (vI_get hk2) ?_
     refine compareI_ok.mono ?_
     rintro _ _ ⟨rfl, rfl⟩
     have hst := cmpL_step hk1 hk2
     refine rd_neq ?_
     refine br (fun hne => ?_) (fun heq => ?_)
     · exact ⟨rfl, by rw [hc, hst, if_pos hne]⟩
     · refine rd_inc (by omega) ?_
       exact ⟨mk - 1, by omega, k + 1, by omega, rfl, rfl, by omega, by rw [hc, hst, if_neg heq]⟩
 · have hk : k = l.length := by omega
   subst hk
   refine rd_lenV u23 ?_
   refine rd_lenV u23 ?_
   refine rd_lss ?_
   rw [List.drop_length] at hc
   refine br (fun hlt2 => ⟨rfl, ?_⟩) (fun hge2 => ⟨rfl, ?_⟩)
   · rw [hc, List.drop_eq_getElem_cons (by omega)]; rfl
   · rw [hc, List.drop_eq_nil_of_le (by omega)]; rfl
section
variable {P : Program} {w : World} {K : Value → World → Prop}
theorem op_boxE {t : TypeId} {cs : Array Value} (k : K (.pointer (some ⟨w.heap.size, 0, none⟩)) (w.alloc (.cells cs t))) : OP P (Instr.box t (.agg cs)) w K :=
 ⟨_, w.alloc (.cells cs t), by simp [Instr.box, newVar, newRow, Value.cells], k⟩
theorem op_build3E {t e : TypeId} {by_ : Nat} {x y z : Int} (ht : P.underlying t = some (.slice e)) (he : tyI P e = some (1, by_, false)) (hz : zeroL P e = some [.int .i64 0])
   (k : K (.slice (some ⟨w.heap.size, 0, none⟩) 3 3) (w.alloc (.cells (vI [x, y, z]).toArray e))) : OP P (Instr.buildSlice t 3 #[(0, .int .i64 x), (1, .int .i64 y), (2, .int .i64 z)]) w K := by
 unfold zeroL at hz
 cases hi : P.info? e with
 | none => simp [hi] at hz
 | some i =>
   simp only [hi] at hz
   obtain ⟨v, hv, hvc⟩ := Option.map_eq_some_iff.1 hz
   refine ⟨_, w.alloc (.cells (vI [x, y, z]).toArray e), ?_, k⟩
   have hvc' : v.cells = #[.int .i64 0] := Array.ext' (by simpa using hvc)
   have e1 : ∀ n : Int, (Value.int .i64 n).cells = #[.int .i64 n] := fun _ => rfl
   simp only [Instr.buildSlice, Sem.run_bind, run_underlying ht, Result.andThen_ok, run_sizeOf' he]
   have e2 : Array.range 3 = #[0, 1, 2] := by decide
   simp [zeroValue, typeInfo, hi, hv, newRow, Instr.fill, hvc', vI, e1, e2]
end
def i3 (a b c : Int) : Array Value := #[.int .i64 a, .int .i64 b, .int .i64 c]
def GrowsTo (w w' : World) : Prop := ∃ q os, w' = Go.Sort.grow (w.drewN q) os
theorem grows_allocs {w : World} (o1 o2 o3 o4 : Obj) : GrowsTo w ((((w.alloc o1).alloc o2).alloc o3).alloc o4) :=
 ⟨0, #[o1] ++ #[o2] ++ #[o3] ++ #[o4], by
   rw [Go.Sort.alloc_eq_grow, Go.Sort.alloc_eq_grow, Go.Sort.alloc_eq_grow, Go.Sort.alloc_eq_grow, Go.Sort.grow_grow, Go.Sort.grow_grow, Go.Sort.grow_grow]; rfl⟩
def raceI (x : DRace) : List Int := [x.g, x.a, x.b]
def cmpR (x y : DRace) : Int := cmpL (raceI x) (raceI y)
theorem compareRaces_ok {w : World} {x y : DRace} : CALL Tryz.prog 170 [.agg (i3 x.g x.a x.b), .agg (i3 y.g y.a y.b)] w fun r w' => r = .int .i64 (cmpR x y) ∧ GrowsTo w w' := by
 refine F170_call ?_
 unfold F170
 refine op_boxE ?_
 have hB1 : Blk w.heap.size 109 (w.alloc (.cells (i3 x.g x.a x.b) 109)) (vI (raceI x)) := heap_alloc_new w _
 refine op_boxE ?_
 generalize hw1 : w.alloc (.cells (i3 x.g x.a x.b) 109) = w1 at *
 have hB2 : Blk w1.heap.size 109 (w1.alloc (.cells (i3 y.g y.a y.b) 109)) (vI (raceI y)) := heap_alloc_new w1 _
 have hx2 := ext_alloc w1 (.cells (i3 y.g y.a y.b) 109)
 generalize hw2 : w1.alloc (.cells (i3 y.g y.a y.b) 109) = w2 at *
 have hB12 := hB1.ext hx2
 refine rd_fld fd109_0 ?_
 refine rd_blkV ty3 hB12 rfl ?_
 refine rd_fld fd109_1 ?_
 refine rd_blkV ty3 hB12 rfl ?_
 refine rd_fld fd109_2 ?_
 refine rd_blkV ty3 hB12 rfl ?_
 refine op_build3E u23 ty3 zlIc ?_
 have hx3 := ext_alloc w2 (.cells (vI [x.g, x.a, x.b]).toArray 3)
 have hB3 : Blk w2.heap.size 3 (w2.alloc (.cells (vI [x.g, x.a, x.b]).toArray 3)) (vI (raceI x)) := heap_alloc_new w2 _
 generalize hw3 : w2.alloc (.cells (vI [x.g, x.a, x.b]).toArray 3) = w3 at *
 have hB23 := hB2.ext hx3
 refine rd_fld fd109_0 ?_
 refine rd_blkV ty3 hB23 rfl ?_
 refine rd_fld fd109_1 ?_
 refine rd_blkV ty3 hB23 rfl ?_
 refine rd_fld fd109_2 ?_
 refine rd_blkV ty3 hB23 rfl ?_
 refine op_build3E u23 ty3 zlIc ?_
 have hx4 := ext_alloc w3 (.cells (vI [y.g, y.a, y.b]).toArray 3)
 have hB4 : Blk w3.heap.size 3 (w3.alloc (.cells (vI [y.g, y.a, y.b]).toArray 3)) (vI (raceI y)) := heap_alloc_new w3 _
 have hg : GrowsTo w (w3.alloc (.cells (vI [y.g, y.a, y.b]).toArray 3)) := by rw [← hw3, ← hw2, ← hw1]; exact grows_allocs _ _ _ _
 refine (compareL_ok (l := raceI x) (m := raceI y) (hB3.ext hx4) hB4 (by simp [raceI]) (by simp [raceI])).mono ?_
 rintro _ _ ⟨rfl, rfl⟩
 exact ⟨rfl, hg⟩
def ltR (x y : DRace) : Prop := x.g < y.g ∨ (x.g = y.g ∧ (x.a < y.a ∨ (x.a = y.a ∧ x.b < y.b)))
theorem cmpI_lt {x y : Int} (h : x < y) : cmpI x y = -1 := by rw [cmpI, if_pos h]
theorem cmpI_gt {x y : Int} (h : y < x) : cmpI x y = 1 := by rw [cmpI, if_neg (by omega), if_pos h]
theorem cmpI_eq {x y : Int} (h : x = y) : cmpI x y = 0 := by rw [cmpI, if_neg (by omega), if_neg (by omega)]
theorem cmpR_lt {x y : DRace} : cmpR x y < 0 ↔ ltR x y := by
 unfold cmpR raceI ltR
 simp only [cmpL]
 rcases Int.lt_trichotomy x.g y.g with h | h | h
 · rw [cmpI_lt h]; simp; omega
 · rw [cmpI_eq h]
   rcases Int.lt_trichotomy x.a y.a with h2 | h2 | h2
   · rw [cmpI_lt h2]; simp; omega
   · rw [cmpI_eq h2]
     rcases Int.lt_trichotomy x.b y.b with h3 | h3 | h3
     · rw [cmpI_lt h3]; simp; omega
     · rw [cmpI_eq h3]; simp; omega
     · rw [cmpI_gt h3]; simp; omega
   · rw [cmpI_gt h2]; simp; omega
 · rw [cmpI_gt h]; simp; omega
def F163 (a0 a1 : Value) (w : World) (R : VW) : Prop :=
 OP tp (Instr.box 177 a0) w fun x2 w =>
 OP tp (Instr.box 177 a1) w fun x3 w =>
 OP tp (Instr.alloc 109 true (.tuple #[])) w fun x4 w =>
 RD tp (Instr.fieldAt 177 x2 1) w fun x5 =>
 RD tp (Instr.loadAt 3 x5) w fun x6 =>
 RD tp (Instr.fieldAt 177 x2 0) w fun x7 =>
 RD tp (Instr.loadAt 3 x7) w fun x8 =>
 RD tp (Instr.fieldAt 177 x3 0) w fun x9 =>
 RD tp (Instr.loadAt 3 x9) w fun x10 =>
 RD tp (Builtin.min_ #[3, 3] 3 [x8, x10].toArray) w fun x11 =>
 RD tp (Instr.fieldAt 177 x2 0) w fun x12 =>
 RD tp (Instr.loadAt 3 x12) w fun x13 =>
 RD tp (Instr.fieldAt 177 x3 0) w fun x14 =>
 RD tp (Instr.loadAt 3 x14) w fun x15 =>
 RD tp (Builtin.max_ #[3, 3] 3 [x13, x15].toArray) w fun x16 =>
 RD tp (Instr.build 109 #[(0, x6), (1, x11), (2, x16)]) w fun x17 =>
 OPU tp (Instr.storeAt 109 x4 x17) w fun w =>
 RD tp (loadRes 109 x4) w fun r4 => R r4 w
def cfg163 : Cfg := ⟨extL, [], [], [], [], [], []⟩
theorem F163_eq (a0 a1 : Value) (w : World) (R : VW) : vcF Tryz.prog cfg163 Tryz.f163 [a0, a1] w R = F163 a0 a1 w R := by kernel_rfl
theorem F163_call {a0 a1 : Value} {w : World} {R : VW} (h : F163 a0 a1 w R) : CALL Tryz.prog 163 [a0, a1] w R :=
 call_of (g := cfg163) ent mixed Tryz.func163 (Nat.le_of_ble_eq_true (by kernel_rfl)) (by kernel_rfl) (F163_eq a0 a1 w R ▸ h)
set_option linter.unusedVariables false
set_option linter.unusedSimpArgs false
def F227 (a0 : Value) (w : World) (R : VW) : Prop :=
 RD tp (bin .geq 3 T0 U0 a0 (Value.int .i64 0)) w fun x4 =>
 BR x4
 (RD tp (bin .leq 3 T0 U0 a0 (Value.int .i64 63)) w fun x7 =>
 R x7 w)
 (R (Value.bool false) w)
def cfg227 : Cfg := ⟨extL, [], [], [], [], [], []⟩
theorem F227_eq (a0 : Value) (w : World) (R : VW) : vcF Tryz.prog cfg227 Tryz.f227 [a0] w R = F227 a0 w R := by kernel_rfl
theorem F227_call {a0 : Value} {w : World} {R : VW} (h : F227 a0 w R) : CALL Tryz.prog 227 [a0] w R :=
 call_of (g := cfg227) ent mixed Tryz.func227 (Nat.le_of_ble_eq_true (by kernel_rfl)) (by kernel_rfl) (F227_eq a0 w R ▸ h)
theorem isSet_ok {w : World} {n : Int}    :
   CALL Tryz.prog 227 [.int .i64 n] w fun r w' => Ext w w' ∧ (r = .bool (decide (0 ≤ n ∧ n ≤ 63))) := by
 refine F227_call ?_
 unfold F227
 refine rd_geq ?_
 refine br (fun c1 => ?_) (fun c1 => ?_)
 · refine rd_leq ?_
   refine ⟨Ext.refl w, ?_⟩
   simp [c1]
 · refine ⟨Ext.refl w, ?_⟩
   simp [c1]
def clashP (a b : DTouch) : Prop := a.global = b.global ∧ (a.write = true ∨ b.write = true) ∧ (0 ≤ a.held ∧ a.held ≤ 63) ∧ (0 ≤ b.held ∧ b.held ≤ 63) ∧ a.held.toNat &&& b.held.toNat = 0
instance (a b : DTouch) : Decidable (clashP a b) := by unfold clashP; infer_instance
def F162 (a0 a1 : Value) (w : World) (R : VW) : Prop :=
 OP tp (Instr.box 177 a0) w fun x2 w =>
 OP tp (Instr.box 177 a1) w fun x3 w =>
 JOIN [] (fun J3 =>
 RD tp (Instr.fieldAt 177 x2 1) w fun x5 =>
 RD tp (Instr.loadAt 3 x5) w fun x6 =>
 RD tp (Instr.fieldAt 177 x3 1) w fun x7 =>
 RD tp (Instr.loadAt 3 x7) w fun x8 =>
 RD tp (bin .neq 3 T0 T0 x6 x8) w fun x9 =>
 BR x9
 (R (Value.bool false) w)
 (RD tp (Instr.fieldAt 177 x2 2) w fun x11 =>
 RD tp (Instr.loadAt 4 x11) w fun x12 =>
 RD tp (Op.unary .not x12) w fun x13 =>
 GBR x13
 (RD tp (Instr.fieldAt 177 x3 2) w fun x15 =>
 RD tp (Instr.loadAt 4 x15) w fun x16 =>
 RD tp (Op.unary .not x16) w fun x17 =>
 BR x17
 (R (Value.bool false) w)
 (J3 [] w))
 (J3 [] w)
 (BR undef
 (BR undef
 (R (Value.bool false) w)
 (J3 [] w))
 (J3 [] w)))) (fun u3 w =>
 RD tp (Instr.fieldAt 177 x2 3) w fun x20 =>
 RD tp (Instr.loadAt 3 x20) w fun x21 =>
 CALL tp 227 [x21] w fun x22 w =>
 BR x22
 (RD tp (Instr.fieldAt 177 x3 3) w fun x24 =>
 RD tp (Instr.loadAt 3 x24) w fun x25 =>
 CALL tp 227 [x25] w fun x26 w =>
 BR x26
 (RD tp (Instr.fieldAt 177 x2 3) w fun x29 =>
 RD tp (Instr.loadAt 3 x29) w fun x30 =>
 RD tp (Instr.fieldAt 177 x3 3) w fun x31 =>
 RD tp (Instr.loadAt 3 x31) w fun x32 =>
 RD tp (bin .and 3 T0 T0 x30 x32) w fun x33 =>
 RD tp (bin .eql 3 T0 U0 x33 (Value.int .i64 0)) w fun x34 =>
 R x34 w)
 (R (Value.bool false) w))
 (R (Value.bool false) w))
def cfg162 : Cfg := ⟨extL, [(3, 1048560, [])], [], [], [], [], []⟩
theorem F162_eq (a0 a1 : Value) (w : World) (R : VW) : vcF Tryz.prog cfg162 Tryz.f162 [a0, a1] w R = F162 a0 a1 w R := by kernel_rfl
theorem F162_call {a0 a1 : Value} {w : World} {R : VW} (h : F162 a0 a1 w R) : CALL Tryz.prog 162 [a0, a1] w R :=
 call_of (g := cfg162) ent mixed Tryz.func162 (Nat.le_of_ble_eq_true (by kernel_rfl)) (by kernel_rfl) (F162_eq a0 a1 w R ▸ h)
theorem clash_ok {w : World} {v0 : Value} {W0 : World} {a : DTouch} {v1 : Value} {W1 : World} {b : DTouch}  (h0 : Is W0 v0 a) (e0 : Ext W0 w) (h1 : Is W1 v1 b) (e1 : Ext W1 w)  :
   CALL Tryz.prog 162 [v0, v1] w fun r w' => Ext w w' ∧ (r = .bool (decide (clashP a b))) := by
 refine F162_call ?_
 unfold F162
 refine op_boxS ty177 rfl h0 e0 fun w1_ hx1_ hA2 hV2 => ?_
 refine op_boxS ty177 rfl h1 (e1.trans hx1_) fun w2_ hx2_ hA3 hV3 => ?_
 refine JOIN.mk (fun us w' => us = [] ∧ Ext w2_ w' ∧ (a.global = b.global ∧ (a.write = true ∨ b.write = true))) ?_ ?_
 · refine rd_fld fd177_1 ?_
   refine rd_loadI ty3 (at_DTouch_1 hA2) hx2_ fun hI6 => ?_
   refine rd_fld fd177_1 ?_
   refine rd_loadI ty3 (at_DTouch_1 hA3) (Ext.refl w2_) fun hI8 => ?_
   refine rd_neq ?_
   refine br (fun c1 => ?_) (fun c1 => ?_)
   · refine ⟨(hx1_.trans hx2_), ?_⟩
     have : ¬ clashP a b := fun h => c1 h.1
     simp only [this, decide_false]
   · refine rd_fld fd177_2 ?_
     refine rd_loadB ty4 (at_DTouch_2 hA2) hx2_ ?_
     refine rd_not ?_
     refine gbr_b (fun c2 => ?_) (fun c2 => ?_)
     · refine rd_fld fd177_2 ?_
       refine rd_loadB ty4 (at_DTouch_2 hA3) (Ext.refl w2_) ?_
       refine rd_not ?_
       refine br_b (fun c3 => ?_) (fun c3 => ?_)
       · refine ⟨(hx1_.trans hx2_), ?_⟩
         have : ¬ clashP a b := fun h => by rcases h.2.1 with h | h <;> simp_all
         simp only [this, decide_false]
       · refine ⟨by simp, Ext.refl w2_, ?_⟩
         exact ⟨by omega, .inr (by simpa using c3)⟩
     · refine ⟨by simp, Ext.refl w2_, ?_⟩
       exact ⟨by omega, .inl (by simpa using c2)⟩
 · rintro uj3 w3_ ⟨hu, hx3_, hgl, hwr⟩
   simp only [List.map_cons, List.map_nil, List.cons.injEq, and_true] at hu
   clear hu
   refine rd_fld fd177_3 ?_
   refine rd_loadI ty3 (at_DTouch_3 hA2) (hx2_.trans hx3_) fun hI21 => ?_
   refine (isSet_ok ).mono ?_
   rintro _ w4_ ⟨hx4_, rfl⟩
   refine br (fun c4 => ?_) (fun c4 => ?_)
   · refine rd_fld fd177_3 ?_
     refine rd_loadI ty3 (at_DTouch_3 hA3) (hx3_.trans hx4_) fun hI25 => ?_
     refine (isSet_ok ).mono ?_
     rintro _ w5_ ⟨hx5_, rfl⟩
     refine br (fun c5 => ?_) (fun c5 => ?_)
     · refine rd_fld fd177_3 ?_
       refine rd_loadI ty3 (at_DTouch_3 hA2) (hx2_.trans (hx3_.trans (hx4_.trans hx5_))) fun hI30 => ?_
       refine rd_fld fd177_3 ?_
       refine rd_loadI ty3 (at_DTouch_3 hA3) (hx3_.trans (hx4_.trans hx5_)) fun hI32 => ?_
       obtain ⟨m, hm⟩ := Int.eq_ofNat_of_zero_le c4.1
       obtain ⟨n, hn⟩ := Int.eq_ofNat_of_zero_le c5.1
       rw [hm, hn]
       refine rd_and (by omega) (by omega) ?_
       refine rd_eql ?_
       refine ⟨(hx1_.trans (hx2_.trans (hx3_.trans (hx4_.trans hx5_)))), ?_⟩
       have : clashP a b ↔ m &&& n = 0 := by
         have e1 : a.held.toNat = m := by omega
         have e2 : b.held.toNat = n := by omega
         unfold clashP
         rw [e1, e2]
         exact ⟨fun h => h.2.2.2.2, fun h => ⟨hgl, hwr, c4, c5, h⟩⟩
       congr 1
       rw [decide_eq_decide, this]
       omega
     · refine ⟨(hx1_.trans (hx2_.trans (hx3_.trans (hx4_.trans hx5_)))), ?_⟩
       have : ¬ clashP a b := fun h => c5 h.2.2.2.1
       simp only [this, decide_false]
   · refine ⟨(hx1_.trans (hx2_.trans (hx3_.trans hx4_))), ?_⟩
     have : ¬ clashP a b := fun h => c4 h.2.2.1
     simp only [this, decide_false]
def raceOf (a b : DTouch) : DRace := ⟨a.global, min a.at_ b.at_, max a.at_ b.at_⟩
theorem raceOf_ok {w W0 W1 : World} {v0 v1 : Value} {a b : DTouch} (h0 : Is W0 v0 a) (e0 : Ext W0 w) (h1 : Is W1 v1 b) (e1 : Ext W1 w) :
   CALL Tryz.prog 163 [v0, v1] w fun r w' => Ext w w' ∧ ∀ lo hi, OwnI lo hi w' r (raceOf a b) := by
 refine F163_call ?_
 unfold F163
 refine op_box h0 e0 fun w1 hx1 hA => ?_
 refine op_box h1 (e1.trans hx1) fun w2 hx2 hB => ?_
 refine op_varZ (α := DRace) zl109 fun w3 hx3 hv => ?_
 have hs1 := hx1.size
 have hs2 := hx2.size
 have hs3 := hx3.size
 have hx23 := hx2.trans hx3
 refine rd_fld fd177_1 ?_
 refine rd_loadI ty3 (at_DTouch_1 hA) hx23 fun hI6 => ?_
 refine rd_fld fd177_0 ?_
 refine rd_loadI ty3 (at_DTouch_0 hA) hx23 fun hI8 => ?_
 refine rd_fld fd177_0 ?_
 refine rd_loadI ty3 (at_DTouch_0 hB) hx3 fun hI10 => ?_
 refine rd_min ?_
 refine rd_fld fd177_0 ?_
 refine rd_loadI ty3 (at_DTouch_0 hA) hx23 fun _ => ?_
 refine rd_fld fd177_0 ?_
 refine rd_loadI ty3 (at_DTouch_0 hB) hx3 fun _ => ?_
 refine rd_max ?_
 have hm : ∀ (w : World) lo hi, OwnI lo hi w (.agg #[.int .i64 a.global, .int .i64 (min a.at_ b.at_), .int .i64 (max a.at_ b.at_)]) (raceOf a b) := fun w lo hi => ⟨[], mine_race (x := raceOf a b) hI6 (by unfold I64 raceOf at *; simp only; omega) (by unfold I64 raceOf at *; simp only; omega), by simp⟩
 refine rd_build (cells := #[.int .i64 a.global, .int .i64 (min a.at_ b.at_), .int .i64 (max a.at_ b.at_)]) (by kernel_rfl) ?_
 have hg := hv.lt
 refine opu_varA (lo := w3.heap.size) (hi := w3.heap.size) ty109 hv (hm w3 _ _) (by omega) fun w4 hc4 hv4 => ?_
 have hs4 := hc4.size
 refine rd_varRI ty109 hv4 (Ext.refl _) fun r hr => ?_
 refine ⟨Ext.chgI (hx1.trans hx23) hc4 (by omega), fun lo hi => ?_⟩
 obtain ⟨F, hM, _⟩ := hr
 obtain ⟨cs, h, _⟩ := hM.own
 have hF := Flat.flat h
 subst hF
 exact ⟨[], hM, by simp⟩
instance (x y : DRace) : Decidable (ltR x y) := by unfold ltR; infer_instance
def F156 (a0 a1 : Value) (w : World) (R : VW) : Prop :=
 OP tp (Instr.box 109 a0) w fun x2 w =>
 OP tp (Instr.box 109 a1) w fun x3 w =>
 RD tp (Instr.fieldAt 109 x2 0) w fun x5 =>
 RD tp (Instr.loadAt 3 x5) w fun x6 =>
 RD tp (Instr.fieldAt 109 x3 0) w fun x7 =>
 RD tp (Instr.loadAt 3 x7) w fun x8 =>
 RD tp (bin .neq 3 T0 T0 x6 x8) w fun x9 =>
 BR x9
 (RD tp (Instr.fieldAt 109 x2 0) w fun x10 =>
 RD tp (Instr.loadAt 3 x10) w fun x11 =>
 RD tp (Instr.fieldAt 109 x3 0) w fun x12 =>
 RD tp (Instr.loadAt 3 x12) w fun x13 =>
 RD tp (bin .lss 3 T0 T0 x11 x13) w fun x14 =>
 R x14 w)
 (RD tp (Instr.fieldAt 109 x2 1) w fun x15 =>
 RD tp (Instr.loadAt 3 x15) w fun x16 =>
 RD tp (Instr.fieldAt 109 x3 1) w fun x17 =>
 RD tp (Instr.loadAt 3 x17) w fun x18 =>
 RD tp (bin .neq 3 T0 T0 x16 x18) w fun x19 =>
 BR x19
 (RD tp (Instr.fieldAt 109 x2 1) w fun x20 =>
 RD tp (Instr.loadAt 3 x20) w fun x21 =>
 RD tp (Instr.fieldAt 109 x3 1) w fun x22 =>
 RD tp (Instr.loadAt 3 x22) w fun x23 =>
 RD tp (bin .lss 3 T0 T0 x21 x23) w fun x24 =>
 R x24 w)
 (RD tp (Instr.fieldAt 109 x2 2) w fun x25 =>
 RD tp (Instr.loadAt 3 x25) w fun x26 =>
 RD tp (Instr.fieldAt 109 x3 2) w fun x27 =>
 RD tp (Instr.loadAt 3 x27) w fun x28 =>
 RD tp (bin .lss 3 T0 T0 x26 x28) w fun x29 =>
 R x29 w))
def cfg156 : Cfg := ⟨extL, [], [], [], [], [], []⟩
theorem F156_eq (a0 a1 : Value) (w : World) (R : VW) : vcF Tryz.prog cfg156 Tryz.f156 [a0, a1] w R = F156 a0 a1 w R := by kernel_rfl
theorem F156_call {a0 a1 : Value} {w : World} {R : VW} (h : F156 a0 a1 w R) : CALL Tryz.prog 156 [a0, a1] w R :=
 call_of (g := cfg156) ent mixed Tryz.func156 (Nat.le_of_ble_eq_true (by kernel_rfl)) (by kernel_rfl) (F156_eq a0 a1 w R ▸ h)
theorem raceLess_ok {w : World} {v0 : Value} {W0 : World} {x : DRace} {v1 : Value} {W1 : World} {y : DRace}  (h0 : Is W0 v0 x) (e0 : Ext W0 w) (h1 : Is W1 v1 y) (e1 : Ext W1 w)  :
   CALL Tryz.prog 156 [v0, v1] w fun r w' => Ext w w' ∧ (r = .bool (decide (ltR x y))) := by
 refine F156_call ?_
 unfold F156
 refine op_boxS ty109 rfl h0 e0 fun w1_ hx1_ hA2 hV2 => ?_
 refine op_boxS ty109 rfl h1 (e1.trans hx1_) fun w2_ hx2_ hA3 hV3 => ?_
 refine rd_fld fd109_0 ?_
 refine rd_loadI ty3 (at_DRace_0 hA2) hx2_ fun hI6 => ?_
 refine rd_fld fd109_0 ?_
 refine rd_loadI ty3 (at_DRace_0 hA3) (Ext.refl w2_) fun hI8 => ?_
 refine rd_neq ?_
 refine br (fun c1 => ?_) (fun c1 => ?_)
 · refine rd_fld fd109_0 ?_
   refine rd_loadI ty3 (at_DRace_0 hA2) hx2_ fun hI11 => ?_
   refine rd_fld fd109_0 ?_
   refine rd_loadI ty3 (at_DRace_0 hA3) (Ext.refl w2_) fun hI13 => ?_
   refine rd_lss ?_
   refine ⟨(hx1_.trans hx2_), ?_⟩
   congr 1
   rw [decide_eq_decide]
   unfold ltR
   omega
 · refine rd_fld fd109_1 ?_
   refine rd_loadI ty3 (at_DRace_1 hA2) hx2_ fun hI16 => ?_
   refine rd_fld fd109_1 ?_
   refine rd_loadI ty3 (at_DRace_1 hA3) (Ext.refl w2_) fun hI18 => ?_
   refine rd_neq ?_
   refine br (fun c2 => ?_) (fun c2 => ?_)
   · refine rd_fld fd109_1 ?_
     refine rd_loadI ty3 (at_DRace_1 hA2) hx2_ fun hI21 => ?_
     refine rd_fld fd109_1 ?_
     refine rd_loadI ty3 (at_DRace_1 hA3) (Ext.refl w2_) fun hI23 => ?_
     refine rd_lss ?_
     refine ⟨(hx1_.trans hx2_), ?_⟩
     congr 1
     rw [decide_eq_decide]
     unfold ltR
     omega
   · refine rd_fld fd109_2 ?_
     refine rd_loadI ty3 (at_DRace_2 hA2) hx2_ fun hI26 => ?_
     refine rd_fld fd109_2 ?_
     refine rd_loadI ty3 (at_DRace_2 hA3) (Ext.refl w2_) fun hI28 => ?_
     refine rd_lss ?_
     refine ⟨(hx1_.trans hx2_), ?_⟩
     congr 1
     rw [decide_eq_decide]
     unfold ltR
     omega
theorem ltR_irrefl (x : DRace) : ¬ ltR x x := by unfold ltR; omega
theorem ltR_trans {x y z : DRace} (h : ltR x y) (k : ltR y z) : ltR x z := by unfold ltR at *; omega
theorem ltR_total {x y : DRace} (h : ¬ ltR x y) (k : ¬ ltR y x) : x = y := by
 unfold ltR at *
 exact DRace.ext_iff.2 ⟨by omega, by omega, by omega⟩
def putR (r : DRace) : List DRace → List DRace
 | [] => [r]
 | x :: l => if ltR x r then x :: putR r l else if x = r then x :: l else r :: x :: l
def ahd (r : DRace) : List DRace → Nat
 | [] => 0
 | x :: l => if ltR x r then ahd r l + 1 else 0
theorem putR_ahd (r : DRace) : ∀ l, putR r l = if h : ahd r l < l.length then (if l[ahd r l] = r then l else l.take (ahd r l) ++ (r :: l.drop (ahd r l))) else l ++ [r]
 | [] => rfl
 | x :: l => by
   rw [putR]
   by_cases h : ltR x r
   · have e : ahd r (x :: l) = ahd r l + 1 := by rw [ahd, if_pos h]
     rw [if_pos h, putR_ahd r l]
     by_cases h2 : ahd r l < l.length
     · rw [dif_pos h2, dif_pos (by rw [e]; simpa using h2)]
       have e2 : (x :: l)[ahd r (x :: l)]'(by rw [e]; simpa using h2) = l[ahd r l] := by simp [e]
       rw [e2]
       split
       · rfl
       · simp [e]
     · rw [dif_neg h2, dif_neg (by rw [e]; simpa using h2)]; rfl
   · have e : ahd r (x :: l) = 0 := by rw [ahd, if_neg h]
     rw [if_neg h, dif_pos (by rw [e]; simp)]
     have e2 : (x :: l)[ahd r (x :: l)]'(by rw [e]; simp) = x := by simp [e]
     rw [e2]
     split
     · rfl
     · simp [e]
theorem ahd_at {r : DRace} : ∀ {l : List DRace} {k : Nat} (hk : k ≤ l.length), (∀ j (h : j < k), ltR (l[j]'(by omega)) r) → (∀ h : k < l.length, ¬ ltR l[k] r) → ahd r l = k
 | [], 0, _, _, _ => rfl
 | x :: l, 0, _, _, h => by
   have h' : ¬ ltR x r := h (by simp)
   rw [ahd, if_neg h']
 | x :: l, k + 1, hk, h1, h2 => by
   have e : ltR x r := h1 0 (by omega)
   rw [ahd, if_pos e, ahd_at (k := k) (by simpa using hk) (fun j hj => h1 (j + 1) (by omega)) fun h => h2 (by simpa using h)]
theorem putR_mem {r x : DRace} : ∀ {l : List DRace}, x ∈ putR r l ↔ x = r ∨ x ∈ l
 | [] => by simp [putR]
 | y :: l => by
   rw [putR]
   split
   · rw [List.mem_cons, putR_mem, List.mem_cons]; exact ⟨fun h => by rcases h with h | h | h <;> simp [h], fun h => by rcases h with h | h | h <;> simp [h]⟩
   · split
     · rename_i h; subst h; simp
     · simp
theorem putR_sorted {r : DRace} : ∀ {l : List DRace}, l.Pairwise ltR → (putR r l).Pairwise ltR
 | [], _ => by simp [putR]
 | y :: l, h => by
   rw [List.pairwise_cons] at h
   rw [putR]
   split
   · rename_i hy
     refine List.pairwise_cons.2 ⟨fun z hz => ?_, putR_sorted h.2⟩
     rcases putR_mem.1 hz with rfl | hz
     · exact hy
     · exact h.1 z hz
   · rename_i hy
     split
     · exact List.pairwise_cons.2 h
     · rename_i hne
       have hry : ltR r y := Decidable.byContradiction fun hc => hne (ltR_total hy hc)
       refine List.pairwise_cons.2 ⟨fun z hz => ?_, List.pairwise_cons.2 h⟩
       rcases List.mem_cons.1 hz with rfl | hz
       · exact hry
       · exact ltR_trans hry (h.1 z hz)
theorem sorted_ext : ∀ {l m : List DRace}, l.Pairwise ltR → m.Pairwise ltR → (∀ x, x ∈ l ↔ x ∈ m) → l = m
 | [], [], _, _, _ => rfl
 | [], y :: m, _, _, h => by have := (h y).2 (by simp); cases this
 | x :: l, [], _, _, h => by have := (h x).1 (by simp); cases this
 | x :: l, y :: m, h1, h2, h => by
   rw [List.pairwise_cons] at h1 h2
   have hxy : x = y := by
     rcases List.mem_cons.1 ((h x).1 (by simp)) with e | hm
     · exact e
     · rcases List.mem_cons.1 ((h y).2 (by simp)) with e | hl
       · exact e.symm
       · exact absurd (ltR_trans (h1.1 y hl) (h2.1 x hm)) (ltR_irrefl x)
   subst hxy
   congr 1
   refine sorted_ext h1.2 h2.2 fun z => ⟨fun hz => ?_, fun hz => ?_⟩
   · rcases List.mem_cons.1 ((h z).1 (by simp [hz])) with rfl | h'
     · exact absurd (h1.1 z hz) (ltR_irrefl z)
     · exact h'
   · rcases List.mem_cons.1 ((h z).2 (by simp [hz])) with rfl | h'
     · exact absurd (h2.1 z hz) (ltR_irrefl z)
     · exact h'
end Go.Proofs.YtjgfldfbljmhhaaGreat
namespace Go.Proofs.YtjgfldfbljmhhaaGreat
open Go Go.Sh Go.Proofs Go.Sort
set_option linter.unusedVariables false
set_option linter.unusedSimpArgs false
open Rep (rep)
instance : Inhabited DRace := ⟨⟨0, 0, 0⟩⟩
def encR (x : DRace) : List Value := [.int .i64 x.g, .int .i64 x.a, .int .i64 x.b]
theorem encR_rep : ∀ {F : List Nat} {w : World} {cs : List Value} {x : DRace}, Rep.rep F w cs x → cs = encR x := by
 intro F w cs x h
 obtain ⟨F1, F2, c1, c2, rfl, rfl, ⟨rfl, rfl, _⟩, ⟨F3, F4, c3, c4, rfl, rfl, ⟨rfl, rfl, _⟩, ⟨rfl, rfl, _⟩⟩⟩ := h
 rfl
theorem ltOf_cmpR {x y : DRace} : ltOf cmpR x y = decide (ltR x y) := by
 unfold ltOf
 rw [decide_eq_decide]
 exact cmpR_lt
theorem ltR_swo : SWO (ltOf cmpR) := by
 refine ⟨fun x => ?_, fun x y z h k => ?_, fun x y z h k => ?_⟩
 · rw [ltOf_cmpR, decide_eq_false_iff_not]; exact ltR_irrefl x
 · rw [ltOf_cmpR, decide_eq_true_eq] at *; exact ltR_trans h k
 · rw [ltOf_cmpR, decide_eq_false_iff_not] at *
   intro hc
   unfold ltR at *
   omega
def srt (l : List DRace) : List DRace := l.mergeSort fun x y => !(ltOf cmpR) y x
theorem srt_perm (l : List DRace) : (srt l).Perm l := List.mergeSort_perm l _
theorem srt_len (l : List DRace) : (srt l).length = l.length := (srt_perm l).length_eq
theorem srt_pw (l : List DRace) : (srt l).Pairwise fun x y => ¬ ltR y x := by
 have := List.pairwise_mergeSort (le := fun x y => !(ltOf cmpR) y x) (fun a b c h1 h2 => by
   simp only [ltOf_cmpR, Bool.not_eq_true', decide_eq_false_iff_not] at *
   unfold ltR at *; omega) (fun a b => by
   simp only [ltOf_cmpR, Bool.or_eq_true, Bool.not_eq_true', decide_eq_false_iff_not]
   unfold ltR; omega) l
 exact this.imp fun h => by simpa [ltOf_cmpR] using h
theorem sortR_ok {w : World} {lo hi : Nat} {v : Value} {l : List DRace} (h : OwnI lo hi w v l) (hn : l.length ≤ 1073741824) :
   CALL Tryz.prog 169 [v, .func (.func 170) #[] #[]] w fun r w' => ChgI lo hi w w' ∧ OwnI lo hi w' v (srt l) := by
 obtain ⟨F, hM, hF⟩ := h
 by_cases hne : l = []
 · subst hne
   obtain ⟨a, cap, hv⟩ : ∃ a cap, v = .slice a 0 cap := by
     obtain ⟨cs, ⟨a, cap, G, xs, h, _⟩, hv⟩ := hM.own
     exact ⟨a, cap, by rw [hv, h]; rfl⟩
   subst hv
   refine ⟨(AnyF.slices_SortFunc_none Tryz.sortRace a cap _ w).mono ?_⟩
   rintro e w' ⟨he, rfl⟩
   refine ⟨_, he, ChgI.refl _, F, ?_, hF⟩
   have : srt [] = [] := List.eq_nil_of_length_eq_zero (by rw [srt_len]; rfl)
   rw [this]; exact hM
 obtain ⟨b, o, cap, xs, rfl, rfl, h1, h2, hcc, hrr, hww⟩ := mine_parts hM hne
 have henc := @encR_rep
 have hk : ∀ x, (encR x).length = Rep.size DRace := fun _ => rfl
 obtain ⟨c, e, hbe⟩ := hww
 have hb : b < w.heap.size := (Array.getElem?_eq_some_iff.1 hbe).1
 have hcmp : CmpLays Tryz.prog 170 #[] encR 3 cmpR b o l.toArray.size w := fun m os dk _ x y => by
   have := compareRaces_ok (w := sortWorldK encR 3 w b o m dk os) (x := x) (y := y)
   obtain ⟨h⟩ := this
   refine h.mono ?_
   rintro e w' ⟨v, he, hv, q, os', hw'⟩
   exact ⟨by rw [he, hv], q, os', hw'⟩
 refine ⟨(AnyQ.slices_SortFunc_total Tryz.sortRace 3 Tryz.isAgg109 Tryz.sizeOf109 encR (fun _ => rfl) (fun x v hv => by
     simp only [encR, List.mem_cons, List.not_mem_nil, or_false] at hv
     rcases hv with rfl | rfl | rfl <;> rfl) cmpR ltR_swo 170 #[] b o cap l.toArray w (run_callFunc (ent 170 (by decide) (by kernel_rfl))) hcmp (holdsK_of henc hk ⟨c, e, hbe⟩ hcc hrr) hb (by simp; omega) (fun x y h k => by
     rw [ltOf_cmpR, decide_eq_false_iff_not] at *; exact ltR_total h k)).mono ?_⟩
 rintro ex w' ⟨he, n, os, hw'⟩
 have hs := sorted_mine henc hk (cap := cap) hw' ⟨c, e, hbe⟩ hcc hrr h1 h2 (by simp) (fun x hx => by simpa [List.mem_mergeSort] using hx)
 refine ⟨_, he, ?_, [b], ?_, hF⟩
 · exact hs.1.toI (fun i hi => hF i hi)
 · exact hs.2
def F92 (a0 a1 : Value) (w : World) (R : VW) : Prop :=
 OP tp (Instr.box 109 a1) w fun x3 w =>
 JOIN [5] (fun J4 =>
 LOOPI [5] [(Value.int .i64 0)] w fun u2 w next2 =>
 (fun w => RD tp (ln 58 3 a0) w fun x9 =>
 RD tp (bin .lss 3 T0 T0 (u2 5) x9) w fun x10 =>
 BR x10
 (RD tp (Instr.indexAt 58 a0 (u2 5)) w fun x14 =>
 RD tp (Instr.loadAt 109 x14) w fun x15 =>
 RD tp (Instr.loadAt 109 x3) w fun x16 =>
 CALL tp 156 [x15, x16] w fun x17 w =>
 BR x17
 (RD tp (bin .add 3 T0 U0 (u2 5) (Value.int .i64 1)) w fun x20 =>
 next2 [x20] w)
 (J4 [(u2 5)] w))
 (J4 [(u2 5)] w)) (World.drew1 w)) (fun u4 w =>
 JOIN [] (fun J6 =>
 (fun w => RD tp (ln 58 3 a0) w fun x23 =>
 RD tp (bin .lss 3 T0 T0 (u4 5) x23) w fun x24 =>
 BR x24
 (RD tp (Instr.indexAt 58 a0 (u4 5)) w fun x28 =>
 RD tp (Instr.loadAt 109 x28) w fun x29 =>
 RD tp (Instr.loadAt 109 x3) w fun x30 =>
 RD tp (bin .eql 109 T0 T0 x29 x30) w fun x31 =>
 BR x31
 (R a0 w)
 (J6 [] w))
 (J6 [] w)) (World.drew1 w)) (fun u6 w =>
 OP tp (Instr.buildSlice 58 0 #[]) w fun x34 w =>
 RD tp (Instr.sliceAt 58 a0 none (some (u4 5)) none) w fun x37 =>
 OP tp (Builtin.append_ #[58, 58] 58 [x34, x37].toArray) w fun x38 w =>
 RD tp (Instr.loadAt 109 x3) w fun x40 =>
 OP tp (Instr.buildSlice 58 1 #[(0, x40)]) w fun x41 w =>
 OP tp (Builtin.append_ #[58, 58] 58 [x38, x41].toArray) w fun x42 w =>
 RD tp (Instr.sliceAt 58 a0 (some (u4 5)) none none) w fun x46 =>
 OP tp (Builtin.append_ #[58, 58] 58 [x42, x46].toArray) w fun x47 w =>
 R x47 w))
def cfg92 : Cfg := ⟨extL, [(4, 2097056, [5]), (6, 17177772048, [])], [(2, 2097056, [5])], [(2, [0, 1, 2, 3, 4, 5, 6, 7, 8, 9, 10, 11], 0), (4, [0, 1, 2, 3, 4, 5, 6, 7, 8, 9, 10, 11], 0)], [], [], []⟩
theorem F92_eq (a0 a1 : Value) (w : World) (R : VW) : vcF Tryz.prog cfg92 Tryz.f92 [a0, a1] w R = F92 a0 a1 w R := by kernel_rfl
theorem F92_call {a0 a1 : Value} {w : World} {R : VW} (h : F92 a0 a1 w R) : CALL Tryz.prog 92 [a0, a1] w R :=
 call_of (g := cfg92) ent mixed Tryz.func92 (Nat.le_of_ble_eq_true (by kernel_rfl)) (by kernel_rfl) (F92_eq a0 a1 w R ▸ h)
set_option linter.unusedVariables false
set_option linter.unusedSimpArgs false
theorem flat_own {α : Type} [Rep α] [Flat α] {w : World} {lo hi : Nat} {v : Value} {x : α} (h : Is w v x) : OwnI lo hi w v x := by
 obtain ⟨F, cs, hr, hv⟩ := h
 have hF := Flat.flat hr
 subst hF
 exact ⟨[], ⟨⟨cs, hr, hv⟩, List.nodup_nil, Wr.nil w⟩, by simp⟩
def F102 (a0 : Value) (w : World) (R : VW) : Prop :=
 CALL tp 168 [a0] w fun x5 w =>
 CALL tp 169 [x5, (Value.func (.func 170) #[] #[])] w fun x7 w =>
 CALL tp 172 [x5] w fun x9 w =>
 CALL tp 171 [x9] w fun x10 w =>
 R x10 w
def cfg102 : Cfg := ⟨extL, [], [], [], [], [], []⟩
theorem F102_eq (a0 : Value) (w : World) (R : VW) : vcF Tryz.prog cfg102 Tryz.f102 [a0] w R = F102 a0 w R := by kernel_rfl
theorem F102_call {a0 : Value} {w : World} {R : VW} (h : F102 a0 w R) : CALL Tryz.prog 102 [a0] w R :=
 call_of (g := cfg102) ent mixed Tryz.func102 (Nat.le_of_ble_eq_true (by kernel_rfl)) (by kernel_rfl) (F102_eq a0 w R ▸ h)
set_option linter.unusedVariables false
set_option linter.unusedSimpArgs false
theorem ddg_mem {z : DRace} : ∀ {l : List DRace} {x : DRace}, z ∈ x :: ddg x l ↔ z ∈ x :: l
 | [], x => Iff.rfl
 | y :: l, x => by
   rw [ddg]
   split
   · rename_i h
     subst h
     rw [ddg_mem (l := l)]
     simp
   · rw [List.mem_cons, ddg_mem (l := l), List.mem_cons (a := z) (b := x)]
theorem ddg_pw : ∀ {l : List DRace} {x : DRace}, (x :: l).Pairwise (fun a b => ¬ ltR b a) → (x :: ddg x l).Pairwise ltR
 | [], x, _ => by simp [ddg]
 | y :: l, x, h => by
   rw [ddg]
   rw [List.pairwise_cons] at h
   have hy := h.2
   rw [List.pairwise_cons] at hy
   split
   · rename_i e
     subst e
     exact ddg_pw h.2
   · rename_i hne
     have ih := ddg_pw h.2
     have hxy : ltR x y := Decidable.byContradiction fun hc => hne (ltR_total (h.1 y (by simp)) hc)
     refine List.pairwise_cons.2 ⟨fun z hz => ?_, ih⟩
     rcases List.mem_cons.1 hz with rfl | hz
     · exact hxy
     · exact ltR_trans hxy ((List.pairwise_cons.1 ih).1 z hz)
theorem ddp_mem {l : List DRace} {z : DRace} : z ∈ ddp l ↔ z ∈ l := by
 cases l with
 | nil => exact Iff.rfl
 | cons x l => exact ddg_mem
theorem ddp_pw {l : List DRace} (h : l.Pairwise (fun a b => ¬ ltR b a)) : (ddp l).Pairwise ltR := by
 cases l with
 | nil => exact List.Pairwise.nil
 | cons x l => exact ddg_pw h
def canon (l : List DRace) : List DRace := l.foldl (fun acc r => putR r acc) []
theorem canon_snoc (l : List DRace) (r : DRace) : canon (l ++ [r]) = putR r (canon l) := by simp [canon]
theorem canonF_mem {x : DRace} : ∀ {l acc : List DRace}, x ∈ l.foldl (fun acc r => putR r acc) acc ↔ x ∈ acc ∨ x ∈ l
 | [], acc => by simp
 | y :: l, acc => by
   rw [List.foldl_cons, canonF_mem, putR_mem, List.mem_cons]
   constructor
   · rintro ((h | h) | h) <;> simp [h]
   · rintro (h | h | h) <;> simp [h]
theorem canon_mem {x : DRace} {l : List DRace} : x ∈ canon l ↔ x ∈ l := by unfold canon; rw [canonF_mem]; simp
theorem canonF_pw : ∀ {l acc : List DRace}, acc.Pairwise ltR → (l.foldl (fun acc r => putR r acc) acc).Pairwise ltR
 | [], acc, h => h
 | y :: l, acc, h => by
   rw [List.foldl_cons]
   exact canonF_pw (putR_sorted h)
theorem canon_pw (l : List DRace) : (canon l).Pairwise ltR := canonF_pw List.Pairwise.nil
theorem putR_len (r : DRace) : ∀ l : List DRace, (putR r l).length ≤ l.length + 1
 | [] => by simp [putR]
 | x :: l => by
   have := putR_len r l
   rw [putR]
   split
   · simpa using this
   · split <;> simp
theorem canonF_len : ∀ (l acc : List DRace), (l.foldl (fun acc r => putR r acc) acc).length ≤ acc.length + l.length
 | [], acc => by simp
 | y :: l, acc => by
   have h1 := canonF_len l (putR y acc)
   have h2 := putR_len y acc
   rw [List.foldl_cons, List.length_cons]; omega
theorem canon_len (l : List DRace) : (canon l).length ≤ l.length := by have := canonF_len l []; simpa [canon] using this
theorem ddp_srt (l : List DRace) : ddp (srt l) = canon l := sorted_ext (ddp_pw (srt_pw l)) (canon_pw l) fun x => by rw [ddp_mem, canon_mem, (srt_perm l).mem_iff]
def clR (a b : DTouch) : List DRace := if clashP a b then [raceOf a b] else []
def gB (a : DTouch) (bs : List DTouch) : List DRace := bs.flatMap (clR a)
def gL (Ls : List (List DTouch)) (a : DTouch) : List DRace := Ls.flatMap (gB a)
def gA (Ls : List (List DTouch)) (xs : List DTouch) : List DRace := xs.flatMap (gL Ls)
def upTo (T : Nat → List DTouch) (t : Nat) : List (List DTouch) := (List.range t).map T
def gT (T : Nat → List DTouch) (n : Nat) : List DRace := (List.range n).flatMap fun t => gA (upTo T t) (T t)
def hA (bs xs : List DTouch) : List DRace := xs.flatMap fun a => gB a bs
def hU (T : Nat → List DTouch) (xs : List DTouch) (t : Nat) : List DRace := (List.range t).flatMap fun u => hA (T u) xs
def hT (T : Nat → List DTouch) (n : Nat) : List DRace := (List.range n).flatMap fun t => hU T (T t) t
theorem flatMap_take {α β : Type} {f : α → List β} {l : List α} {k : Nat} (h : k < l.length) : (l.take (k + 1)).flatMap f = (l.take k).flatMap f ++ f l[k] := by
 rw [List.take_succ_eq_append_getElem h, List.flatMap_append]; simp
def tA (c : DCode) (s : DState) (t : Nat) : List DTouch := if 0 ≤ atOf s t then touchAt c (atOf s t) 0 else []
theorem touchTo_at {c : DCode} {a held : Int} {i : DIns} {x : DTouch} : ∀ {k : Nat}, x ∈ touchTo c a held i k → x.at_ = a ∧ x.held = held
 | 0, h => by simp [touchTo] at h
 | k + 1, h => by
   rw [touchTo, List.mem_append, List.mem_append] at h
   rcases h with (h | h) | h
   · exact touchTo_at h
   · split at h
     · simp only [List.mem_cons, List.not_mem_nil, or_false] at h; subst h; exact ⟨rfl, rfl⟩
     · simp at h
   · split at h
     · simp only [List.mem_cons, List.not_mem_nil, or_false] at h; subst h; exact ⟨rfl, rfl⟩
     · simp at h
theorem touchAt_at {c : DCode} {a held : Int} {x : DTouch} (h : x ∈ touchAt c a held) : x.at_ = a ∧ x.held = held := by
 unfold touchAt at h
 split at h
 · exact touchTo_at h
 · simp at h
def meets (c : DCode) (s : DState) : List DRace := canon (gT (tA c s) s.stacks.length)
def F308 (a0 a1 a2 a3 : Value) (w : World) (R : VW) : Prop :=
 CALL tp 97 [a1] w fun x15 w =>
 RD tp (ln 23 3 x15) w fun x16 =>
 LOOPI [9, 17] [(Value.slice none 0 0), (Value.int .i64 0)] w fun u3 w next3 =>
 RD tp (bin .lss 3 T0 T0 (u3 17) x16) w fun x18 =>
 BR x18
 (RD tp (Instr.indexAt 23 x15 (u3 17)) w fun x19 =>
 RD tp (Instr.loadAt 3 x19) w fun x20 =>
 CALL tp 194 [a0, x20] w fun x23 w =>
 RD tp (ln 23 3 x23) w fun x24 =>
 LOOPI [9, 25] [(u3 9), (Value.int .i64 0)] w fun u6 w next6 =>
 RD tp (bin .lss 3 T0 T0 (u6 25) x24) w fun x26 =>
 BR x26
 (RD tp (Instr.indexAt 23 x23 (u6 25)) w fun x27 =>
 RD tp (Instr.loadAt 3 x27) w fun x28 =>
 NIL a0 <|
 RD tp (Instr.fieldAt 144 a0 0) w fun x31 =>
 RD tp (Instr.fieldAt 35 x31 4) w fun x32 =>
 RD tp (Instr.loadAt 33 x32) w fun x33 =>
 RD tp (Instr.indexAt 33 x33 x28) w fun x35 =>
 RD tp (Instr.fieldAt 136 x35 0) w fun x36 =>
 RD tp (Instr.loadAt 3 x36) w fun x37 =>
 RD tp (bin .eql 3 T0 T0 x37 a2) w fun x39 =>
 BR x39
 (NIL a0 <|
 RD tp (Instr.fieldAt 144 a0 0) w fun x43 =>
 RD tp (Instr.fieldAt 35 x43 4) w fun x44 =>
 RD tp (Instr.loadAt 33 x44) w fun x45 =>
 RD tp (Instr.indexAt 33 x45 x28) w fun x47 =>
 RD tp (Instr.fieldAt 136 x47 1) w fun x48 =>
 RD tp (Instr.loadAt 3 x48) w fun x49 =>
 RD tp (bin .eql 3 T0 T0 x49 a3) w fun x51 =>
 BR x51
 (OP tp (Instr.buildSlice 23 1 #[(0, x28)]) w fun x55 w =>
 OP tp (Builtin.append_ #[23, 23] 23 [(u6 9), x55].toArray) w fun x56 w =>
 RD tp (bin .add 3 T0 U0 (u6 25) (Value.int .i64 1)) w fun x57 =>
 next6 [x56, x57] w)
 (RD tp (bin .add 3 T0 U0 (u6 25) (Value.int .i64 1)) w fun x57 =>
 next6 [(u6 9), x57] w))
 (RD tp (bin .add 3 T0 U0 (u6 25) (Value.int .i64 1)) w fun x57 =>
 next6 [(u6 9), x57] w))
 (RD tp (bin .add 3 T0 U0 (u3 17) (Value.int .i64 1)) w fun x58 =>
 next3 [(u6 9), x58] w))
 (R (u3 9) w)
def cfg308 : Cfg := ⟨extL, [], [(3, 576460752303303168, [9, 17]), (6, 288230376118166016, [9, 25])], [], [], [], []⟩
theorem F308_eq (a0 a1 a2 a3 : Value) (w : World) (R : VW) : vcF Tryz.prog cfg308 Tryz.f308 [a0, a1, a2, a3] w R = F308 a0 a1 a2 a3 w R := by kernel_rfl
theorem F308_call {a0 a1 a2 a3 : Value} {w : World} {R : VW} (h : F308 a0 a1 a2 a3 w R) : CALL Tryz.prog 308 [a0, a1, a2, a3] w R :=
 call_of (g := cfg308) ent mixed Tryz.func308 (Nat.le_of_ble_eq_true (by kernel_rfl)) (by kernel_rfl) (F308_eq a0 a1 a2 a3 w R ▸ h)
def F284 (a0 a1 : Value) (w : World) (R : VW) : Prop :=
 OP tp (Instr.box 35 a0) w fun x2 w =>
 OP tp (Instr.buildSlice 23 0 #[]) w fun x10 w =>
 RD tp (Instr.loadAt 35 x2) w fun x11 =>
 CALL tp 114 [x11] w fun x12 w =>
 LOOPI [5, 7] [x10, (Value.int .i64 0)] w fun u4 w next4 =>
 RD tp (Instr.fieldAt 35 x2 2) w fun x14 =>
 RD tp (Instr.loadAt 22 x14) w fun x15 =>
 RD tp (ln 22 3 x15) w fun x16 =>
 RD tp (bin .lss 3 T0 T0 (u4 7) x16) w fun x17 =>
 BR x17
 (RD tp (Instr.indexAt 72 x12 (u4 7)) w fun x22 =>
 RD tp (Instr.loadAt 4 x22) w fun x23 =>
 RD tp (Op.unary .not x23) w fun x24 =>
 BR x24
 (RD tp (bin .add 3 T0 U0 (u4 7) (Value.int .i64 1)) w fun x19 =>
 next4 [(u4 5), x19] w)
 (RD tp (Instr.loadAt 35 x2) w fun x25 =>
 CALL tp 185 [x25, (u4 7)] w fun x27 w =>
 RD tp (Instr.fieldAt 35 x2 3) w fun x28 =>
 RD tp (Instr.loadAt 23 x28) w fun x29 =>
 RD tp (Instr.indexAt 23 x29 (u4 7)) w fun x31 =>
 RD tp (Instr.loadAt 3 x31) w fun x32 =>
 LOOPI [5, 9] [(u4 5), x32] w fun u9 w next9 =>
 RD tp (Instr.loadAt 35 x2) w fun x34 =>
 CALL tp 116 [x34, (u4 7)] w fun x36 w =>
 RD tp (bin .leq 3 T0 T0 (u9 9) x36) w fun x37 =>
 BR x37
 (RD tp (Instr.indexAt 72 x27 (u9 9)) w fun x42 =>
 RD tp (Instr.loadAt 4 x42) w fun x43 =>
 BR x43
 (RD tp (Instr.fieldAt 35 x2 4) w fun x45 =>
 RD tp (Instr.loadAt 33 x45) w fun x46 =>
 RD tp (Instr.indexAt 33 x46 (u9 9)) w fun x48 =>
 RD tp (Instr.fieldAt 136 x48 0) w fun x49 =>
 RD tp (Instr.loadAt 3 x49) w fun x50 =>
 RD tp (bin .eql 3 T0 U0 x50 (Value.int .i64 5)) w fun x51 =>
 BR x51
 (RD tp (Instr.fieldAt 35 x2 4) w fun x54 =>
 RD tp (Instr.loadAt 33 x54) w fun x55 =>
 RD tp (Instr.indexAt 33 x55 (u9 9)) w fun x57 =>
 RD tp (Instr.fieldAt 136 x57 1) w fun x58 =>
 RD tp (Instr.loadAt 3 x58) w fun x59 =>
 RD tp (bin .eql 3 T0 T0 x59 a1) w fun x61 =>
 BR x61
 (OP tp (Instr.buildSlice 23 1 #[(0, (u9 9))]) w fun x65 w =>
 OP tp (Builtin.append_ #[23, 23] 23 [(u9 5), x65].toArray) w fun x66 w =>
 RD tp (bin .add 3 T0 U0 (u9 9) (Value.int .i64 1)) w fun x39 =>
 next9 [x66, x39] w)
 (RD tp (bin .add 3 T0 U0 (u9 9) (Value.int .i64 1)) w fun x39 =>
 next9 [(u9 5), x39] w))
 (RD tp (bin .add 3 T0 U0 (u9 9) (Value.int .i64 1)) w fun x39 =>
 next9 [(u9 5), x39] w))
 (RD tp (bin .add 3 T0 U0 (u9 9) (Value.int .i64 1)) w fun x39 =>
 next9 [(u9 5), x39] w))
 (RD tp (bin .add 3 T0 U0 (u4 7) (Value.int .i64 1)) w fun x19 =>
 next4 [(u9 5), x19] w)))
 (R (u4 5) w)
def cfg284 : Cfg := ⟨extL, [], [(4, 147573952589676405664, [5, 7]), (9, 147573952581086478880, [5, 9])], [], [], [], []⟩
theorem F284_eq (a0 a1 : Value) (w : World) (R : VW) : vcF Tryz.prog cfg284 Tryz.f284 [a0, a1] w R = F284 a0 a1 w R := by kernel_rfl
theorem F284_call {a0 a1 : Value} {w : World} {R : VW} (h : F284 a0 a1 w R) : CALL Tryz.prog 284 [a0, a1] w R :=
 call_of (g := cfg284) ent mixed Tryz.func284 (Nat.le_of_ble_eq_true (by kernel_rfl)) (by kernel_rfl) (F284_eq a0 a1 w R ▸ h)
set_option linter.unusedVariables false
set_option linter.unusedSimpArgs false
open Rep (rep)
def StP (c : DCode) (r p i : Nat) : Prop := LiveP c p i ∧ (insAt c i).op = 5 ∧ agN c i = r
noncomputable def startL (c : DCode) (r : Nat) : List Nat := (setL c.procs.length (UsedP c)).flatMap fun p => setL c.ins.length (StP c r p)
theorem setL_filter {n : Nat} {p q : Nat → Prop} {f : Nat → Bool} (h : ∀ i, i < n → (f i = true ↔ q i)) : (setL n p).filter f = setL n fun i => p i ∧ q i := by
 induction n with
 | zero => rfl
 | succ n ih =>
   have ih := ih fun i hi => h i (by omega)
   by_cases hp : p n
   · rw [setL_yes hp, List.filter_append, ih]
     by_cases hq : q n
     · rw [setL_yes ⟨hp, hq⟩]; simp [(h n (by omega)).2 hq]
     · rw [setL_no fun e => hq e.2]
       have : f n = false := by
         cases e : f n
         · rfl
         · exact absurd ((h n (by omega)).1 e) hq
       simp [this]
   · rw [setL_no hp, setL_no fun e => hp e.1, ih]
theorem flatLenR {α β : Type} {f : α → List β} {B : Nat} : ∀ {l : List α}, (∀ a ∈ l, (f a).length ≤ B) → (l.flatMap f).length ≤ l.length * B
 | [], _ => by simp
 | a :: l, h => by
   have h1 := h a (by simp)
   have h2 := flatLenR (l := l) fun b hb => h b (by simp [hb])
   simp only [List.flatMap_cons, List.length_append, List.length_cons, Nat.add_mul]
   omega
theorem startL_mem {c : DCode} (hc : CodeR c) {r i : Nat} (h : i ∈ startL c r) : i < c.ins.length := by
 unfold startL at h
 obtain ⟨p, _, h⟩ := List.mem_flatMap.1 h
 exact (mem_setL.1 h).1
theorem sitesIn_ok {w W0 : World} {b r : Nat} {c : DCode} (hW : WAt W0 b c) (e0 : Ext W0 w) (hc : CodeR c) :
   CALL Tryz.prog 308 [.pointer (some ⟨b, 0, none⟩), .int .i64 (usedN c : Nat), .int .i64 5, .int .i64 (r : Int)] w fun v w' => Ext w w' ∧ Own w.heap.size w' v (ints (startL c r)) := by
 refine F308_call ?_
 unfold F308
 have h8 := hc.1.procs8
 have hil := hc.f.ins
 have hu256 : usedN c < 256 := setN_small h8.1
 refine (bitsOf_ok (m := usedN c) (by omega)).mono ?_
 rintro v15 w1 ⟨hx1, ho1⟩
 unfold usedN at ho1
 rw [bitsL_setN (by omega)] at ho1
 have hup : ∀ p ∈ setL c.procs.length (UsedP c), p < c.procs.length := fun p hp => (mem_setL.1 hp).1
 have hul := setL_len (n := c.procs.length) (p := UsedP c)
 unfold startL
 generalize setL c.procs.length (UsedP c) = U at *
 refine rd_len u23 ho1.is ?_
 rw [ints_len]
 have hfl : ∀ k, ((U.take k).flatMap fun p => setL c.ins.length (StP c r p)).length ≤ 20000 := fun k => by
   have := flatLenR (l := U.take k) (f := fun p => setL c.ins.length (StP c r p)) (B := 1500) fun a _ => Nat.le_trans setL_len hil
   have h2 := List.length_take_le' k U
   have : (U.take k).length * 1500 ≤ 8 * 1500 := Nat.mul_le_mul_right _ (by omega)
   omega
 refine loopC U.length (fun k us w' => ∃ out, us = [out, .int .i64 (k : Int)] ∧ k ≤ U.length ∧ Ext w1 w' ∧ RowI w1.heap.size w'.heap.size 3 w' out (ints ((U.take k).flatMap fun p => setL c.ins.length (StP c r p)))) 0 (Nat.zero_le _) ⟨_, rfl, Nat.zero_le _, Ext.refl _, rowI_nil _ _ _ _⟩ ?_
 rintro k mk u w2 hkm ⟨out, hu, hkl, hx2, hr2⟩
 simp only [List.map_cons, List.map_nil, List.cons.injEq, and_true] at hu
 obtain ⟨hu1, hu2⟩ := hu
 rw [hu1, hu2]
 refine rd_lss ?_
 refine br (fun hlt => ?_) (fun hge => ?_)
 case refine_2 =>
   have hke : k = U.length := by omega
   rw [hke, List.take_length] at hr2
   exact ⟨hx1.trans hx2, hr2.own.own.mono (by have := hx1.size; omega)⟩
 have hk : k < U.length := by omega
 have hp := hup U[k] (List.getElem_mem _)
 have hfs := flatMap_take (f := fun p => setL c.ins.length (StP c r p)) hk
 refine rd_indexN u23 ty3 (i := k) ho1.is (by rw [ints_len]; exact hk) fun b3 o3 hA3 => ?_
 rw [ints_get] at hA3
 generalize U[k] = p at *
 refine rd_loadI ty3 hA3 hx2 fun _ => ?_
 refine (liveOf_ok hW.wl (e0.trans (hx1.trans hx2)) hc hp).mono ?_
 rintro v23 w3 ⟨hx3, ho3⟩
 have hLin : ∀ i ∈ setL c.ins.length (LiveP c p), i < c.ins.length := fun i hi => (mem_setL.1 hi).1
 have hLf : (setL c.ins.length (LiveP c p)).filter (fun i => decide ((insAt c i).op = 5 ∧ agN c i = r)) = setL c.ins.length (StP c r p) := setL_filter fun i hi => by rw [decide_eq_true_eq]
 have hLl := setL_len (n := c.ins.length) (p := LiveP c p)
 rw [← hLf] at hfs
 have hfk := hfl k
 generalize setL c.ins.length (LiveP c p) = L at *
 generalize (U.take k).flatMap (fun p => setL c.ins.length (StP c r p)) = Op at *
 refine rd_len u23 ho3.is ?_
 rw [ints_len]
 have hs3 := hx3.size
 have hs2 := hx2.size
 obtain ⟨F3, hM3, hF3⟩ := ho3
 refine loopC L.length (fun j us w' => ∃ out lo hi, us = [out, .int .i64 (j : Int)] ∧ j ≤ L.length ∧ Ext w1 w' ∧ Mine F3 w' v23 (ints L) ∧ w1.heap.size ≤ lo ∧ hi ≤ w'.heap.size ∧ RowI lo hi 3 w' out (ints (Op ++ (L.take j).filter (fun i => decide ((insAt c i).op = 5 ∧ agN c i = r)))) ∧ ∀ b ∈ F3, b < lo ∨ hi ≤ b) 0 (Nat.zero_le _) ⟨out, w1.heap.size, w2.heap.size, rfl, Nat.zero_le _, hx2.trans hx3, hM3, Nat.le_refl _, hs3, by simpa using hr2.ext hx3, fun b hb => .inr (hF3 b hb)⟩ ?_
 rintro j mj u6 w6 hjm ⟨out6, lo, hi, hu6, hjl, hx6, hM6, hlo, hhi, hr6, hd⟩
 simp only [List.map_cons, List.map_nil, List.cons.injEq, and_true] at hu6
 obtain ⟨hu61, hu62⟩ := hu6
 rw [hu61, hu62]
 refine rd_lss ?_
 refine br (fun hlt6 => ?_) (fun hge6 => ?_)
 case refine_2 =>
   refine rd_inc (by omega) ?_
   refine ⟨mk - 1, by omega, k + 1, by omega, out6, rfl, by omega, hx6, ?_⟩
   rw [List.take_of_length_le (by omega)] at hr6
   rw [hfs]
   exact hr6.mono hlo hhi
 have hj : j < L.length := by omega
 have hi' := hLin L[j] (List.getElem_mem _)
 have htk : L.take (j + 1) = L.take j ++ [L[j]] := List.take_succ_eq_append_getElem hj
 refine rd_indexN u23 ty3 (i := j) hM6.is (by rw [ints_len]; exact hj) fun b4 o4 hA4 => ?_
 rw [ints_get] at hA4
 have hlen : (Op ++ (L.take j).filter (fun i => decide ((insAt c i).op = 5 ∧ agN c i = r))).length ≤ 100000 := by
   have := List.length_filter_le (fun i => decide ((insAt c i).op = 5 ∧ agN c i = r)) (L.take j)
   have h2 := List.length_take_le' j L
   rw [List.length_append]; omega
 generalize L[j] = i at *
 refine rd_loadI ty3 hA4 (Ext.refl _) fun _ => ?_
 have ex6 := e0.trans (hx1.trans hx6)
 have hno : ¬ ((insAt c i).op = 5 ∧ agN c i = r) → (L.take (j + 1)).filter (fun i => decide ((insAt c i).op = 5 ∧ agN c i = r)) = (L.take j).filter (fun i => decide ((insAt c i).op = 5 ∧ agN c i = r)) := fun h => by
   rw [htk, List.filter_append]; simp [h]
 have hyes : ((insAt c i).op = 5 ∧ agN c i = r) → (L.take (j + 1)).filter (fun i => decide ((insAt c i).op = 5 ∧ agN c i = r)) = (L.take j).filter (fun i => decide ((insAt c i).op = 5 ∧ agN c i = r)) ++ [i] := fun h => by
   rw [htk, List.filter_append]; simp [h]
 refine NIL.mk rfl ?_
 refine rd_fld fd144_0 ?_
 refine rd_fld fd35_4 ?_
 refine rd_load ty33 (at_DCode_4 hW.wl.code) ex6 fun v33 h33 => ?_
 refine rd_indexN u33 ty136 (i := i) h33 hi' fun b5 o5 hA5 => ?_
 rw [insAt_get] at hA5
 refine rd_fld fd136_0 ?_
 refine rd_loadI ty3 (at_DIns_0 hA5) ex6 fun _ => ?_
 refine rd_eql ?_
 refine br (fun h5 => ?_) (fun h5 => ?_)
 case refine_2 =>
   refine rd_inc (by omega) ?_
   exact ⟨mj - 1, by omega, j + 1, by omega, out6, lo, hi, rfl, by omega, hx6, hM6, hlo, hhi, by rw [hno fun h => h5 h.1]; exact hr6, hd⟩
 obtain ⟨hag, _⟩ := ag_proc hc hi' (.inr h5)
 refine NIL.mk rfl ?_
 refine rd_fld fd144_0 ?_
 refine rd_fld fd35_4 ?_
 refine rd_load ty33 (at_DCode_4 hW.wl.code) ex6 fun v45 h45 => ?_
 refine rd_indexN u33 ty136 (i := i) h45 hi' fun b7 o7 hA7 => ?_
 rw [insAt_get] at hA7
 refine rd_fld fd136_1 ?_
 refine rd_loadI ty3 (at_DIns_1 hA7) ex6 fun _ => ?_
 refine rd_eql ?_
 refine br (fun ha => ?_) (fun ha => ?_)
 case refine_2 =>
   refine rd_inc (by omega) ?_
   exact ⟨mj - 1, by omega, j + 1, by omega, out6, lo, hi, rfl, by omega, hx6, hM6, hlo, hhi, by rw [hno fun h => ha (by rw [hag, h.2])]; exact hr6, hd⟩
 refine op_pushD1 (x := (i : Int)) u23 ty3 z3 zc3 (by decide) hr6 (lo2 := 0) (hi2 := 0) (ownI_int _ _ (by unfold I64; omega)) (by rw [maxLen_eq, ints_len]; omega) (by rw [ints_len]; omega) fun v' w' lo' hi2 hc7 hr' hd7 => ?_
 have hs7 := hc7.size
 have hs6 := hx6.size
 refine rd_inc (by omega) ?_
 refine ⟨mj - 1, by omega, j + 1, by omega, v', lo', hi2, rfl, by omega, hx6.chgI hc7 hlo, hM6.keep fun b hb => hc7.block b (hM6.lt b hb) (hd b hb), by omega, by omega, ?_, fun b hb => ?_⟩
 · rw [hyes ⟨h5, by omega⟩, ← List.append_assoc, ints_append]
   exact hr'
 · have := hd b hb
   have := hM6.lt b hb
   omega
theorem l14Starts_ok {w W0 : World} {v0 : Value} {r : Nat} {c : DCode} (h0 : Is W0 v0 c) (e0 : Ext W0 w) (hc : CodeR c) :
   CALL Tryz.prog 284 [v0, .int .i64 (r : Int)] w fun v w' => Ext w w' ∧ Own w.heap.size w' v (ints (startL c r)) := by
 refine F284_call ?_
 unfold F284
 have h8 := hc.1.procs8
 have hil := hc.f.ins
 have he := hc.2.1.1
 refine op_box h0 e0 fun w1 hx1 hA => ?_
 refine op_build0I (α := Int) u23 ty3 fun a10 w2 hx2 hr2 => ?_
 refine rd_load ty35 hA hx2 fun v11 h11 => ?_
 refine (l14Used_ok h11 hx2 hc).mono ?_
 rintro v12 w3 ⟨hx3, ho3⟩
 have hx13 := hx2.trans hx3
 have hs1 := hx1.size
 have hs13 := hx13.size
 have hfl : ∀ k, k ≤ 8 → ((setL k (UsedP c)).flatMap fun p => setL c.ins.length (StP c r p)).length ≤ 20000 := fun k hk => by
   have h1 := flatLenR (l := setL k (UsedP c)) (f := fun p => setL c.ins.length (StP c r p)) (B := 1500) fun a _ => Nat.le_trans setL_len hil
   have h2 := setL_len (n := k) (p := UsedP c)
   have : (setL k (UsedP c)).length * 1500 ≤ 8 * 1500 := Nat.mul_le_mul_right _ (by omega)
   omega
 refine loopC c.procs.length (fun k us w' => ∃ out, us = [out, .int .i64 (k : Int)] ∧ k ≤ c.procs.length ∧ Ext w3 w' ∧ RowI w3.heap.size w'.heap.size 3 w' out (ints ((setL k (UsedP c)).flatMap fun p => setL c.ins.length (StP c r p)))) 0 (Nat.zero_le _) ⟨_, rfl, Nat.zero_le _, Ext.refl _, rowI_zcap _ _ _ _ _⟩ ?_
 rintro p mk u w4 hkm ⟨out, hu, hkl, hx4, hr4⟩
 simp only [List.map_cons, List.map_nil, List.cons.injEq, and_true] at hu
 obtain ⟨hu1, hu2⟩ := hu
 rw [hu1, hu2]
 have hx14 := hx13.trans hx4
 refine rd_fld fd35_2 ?_
 refine rd_load ty22 (at_DCode_2 hA) hx14 fun v15 h15 => ?_
 refine rd_len u22 h15 ?_
 refine rd_lss ?_
 refine br (fun hlt => ?_) (fun hge => ?_)
 case refine_2 =>
   have hke : p = c.procs.length := by omega
   rw [hke] at hr4
   exact ⟨hx1.trans hx14, hr4.own.own.mono (by omega)⟩
 have hp : p < c.procs.length := by omega
 have hmk := mkd_setB (n := c.procs.length) (p := UsedP c) (i := p)
 rw [mkd_get (by rw [setB_len]; exact hp)] at hmk
 refine rd_indexN u72 ty4 (i := p) ho3.is (by rw [setB_len]; exact hp) fun b3 o3 hA3 => ?_
 refine rd_loadB ty4 hA3 hx4 ?_
 refine rd_not ?_
 refine br_b (fun hf => ?_) (fun hf => ?_)
 · have hnu : ¬ UsedP c p := fun h => by rw [hmk.2 ⟨hp, h⟩] at hf; cases hf
   refine rd_inc (by omega) ?_
   exact ⟨mk - 1, by omega, p + 1, by omega, out, rfl, by omega, hx4, by rw [setL_no hnu]; exact hr4⟩
 have hU : UsedP c p := (hmk.1 (by simpa using hf)).2
 have hfs : (setL (p + 1) (UsedP c)).flatMap (fun p => setL c.ins.length (StP c r p)) = (setL p (UsedP c)).flatMap (fun p => setL c.ins.length (StP c r p)) ++ setL c.ins.length (StP c r p) := by
   rw [setL_yes hU, List.flatMap_append]; simp
 have hfk := hfl p (by omega)
 refine rd_load ty35 hA hx14 fun v25 h25 => ?_
 refine (l09Live_ok h25 hx14 hc (by rw [he]; exact hp)).mono ?_
 rintro v27 w5 ⟨hx5, ho5⟩
 have hx15 := hx14.trans hx5
 obtain ⟨hen, heN, _⟩ := eN_eq hc (p := p) (by rw [he]; exact hp)
 obtain ⟨hzB, hzO, hzN⟩ := zN_end hc hp
 have hze := (zN_eq hc (p := p) (by rw [he]; exact hp)).2.1
 have hlv : ∀ i, LiveP c p i → eN c p ≤ i ∧ i ≤ zN c p := fun i hi => by
   have h1 := live_lt hc (by rw [he]; exact hp) hi
   obtain ⟨q, hq, h3, h4⟩ := procOf_ex hc h1.1
   have : q = p := by have := h1.2; omega
   subst this; exact h4
 have hz0 : setL (eN c p) (StP c r p) = [] := by
   rw [setL_more (n := 0) (Nat.zero_le _) fun i _ h2 hs => by have := hlv i hs.1; omega]; rfl
 have hzz : setL c.ins.length (StP c r p) = setL (zN c p + 1) (StP c r p) := setL_more (by omega) fun i h1 _ hs => by have := hlv i hs.1; omega
 rw [hzz] at hfs
 refine rd_fld fd35_3 ?_
 refine rd_load ty23 (at_DCode_3 hA) hx15 fun v29 h29 => ?_
 refine rd_indexN u23 ty3 (i := p) h29 (by rw [he]; exact hp) fun b6 o6 hA6 => ?_
 refine rd_loadI ty3 hA6 hx15 fun _ => ?_
 rw [en_get, hen]
 generalize hOp : (setL p (UsedP c)).flatMap (fun p => setL c.ins.length (StP c r p)) = Op at *
 obtain ⟨F5, hM5, hF5⟩ := ho5
 have hs45 := hx5.size
 have hs34 := hx4.size
 have hr5 : RowI w3.heap.size w4.heap.size 3 w5 out (ints (Op ++ setL (eN c p) (StP c r p))) := by rw [hz0]; simpa using hr4.ext hx5
 refine loopC (zN c p + 1) (fun j us w' => ∃ out lo hi, us = [out, .int .i64 (j : Int)] ∧ eN c p ≤ j ∧ j ≤ zN c p + 1 ∧ Ext w3 w' ∧ Mine F5 w' v27 (setB c.ins.length (LiveP c p)) ∧ w3.heap.size ≤ lo ∧ hi ≤ w'.heap.size ∧ RowI lo hi 3 w' out (ints (Op ++ setL j (StP c r p))) ∧ ∀ b ∈ F5, b < lo ∨ hi ≤ b) (eN c p) (by omega) ⟨out, w3.heap.size, w4.heap.size, rfl, Nat.le_refl _, by omega, hx4.trans hx5, hM5, Nat.le_refl _, hs45, hr5, fun b hb => .inr (hF5 b hb)⟩ ?_
 rintro i mj u6 w6 hjm ⟨out6, lo, hi, hu6, hie, hjl, hx6, hM6, hlo, hhi, hr6, hd⟩
 simp only [List.map_cons, List.map_nil, List.cons.injEq, and_true] at hu6
 obtain ⟨hu61, hu62⟩ := hu6
 rw [hu61, hu62]
 have hx16 := hx13.trans hx6
 refine rd_load ty35 hA hx16 fun v34 h34 => ?_
 refine (l08End_ok h34 hx16 (p := (p : Int)) (by omega) (by omega) hc.2.1.nonneg).mono ?_
 rintro _ w7 ⟨hx7, rfl⟩
 rw [hzO]
 have hx17 := hx16.trans hx7
 have hx37 := hx6.trans hx7
 have hM7 := hM6.ext hx7
 have hr7 := hr6.ext hx7
 have hs67 := hx7.size
 refine rd_leq ?_
 refine br (fun hlt6 => ?_) (fun hge6 => ?_)
 case refine_2 =>
   have hie : i = zN c p + 1 := by omega
   refine rd_inc (by omega) ?_
   refine ⟨mk - 1, by omega, p + 1, by omega, out6, rfl, by omega, hx37, ?_⟩
   rw [hfs, ← hie]
   exact hr7.mono hlo (by omega)
 have hi' : i < c.ins.length := by omega
 have hlen : (Op ++ setL i (StP c r p)).length ≤ 100000 := by
   have := setL_len (n := i) (p := StP c r p)
   rw [List.length_append]; omega
 have hml := mkd_setB (n := c.ins.length) (p := LiveP c p) (i := i)
 rw [mkd_get (by rw [setB_len]; exact hi')] at hml
 have hskip : ¬ StP c r p i → ∃ m', m' < mj ∧ ∃ k', k' + m' = zN c p + 1 ∧ ∃ out lo hi, [out6, Value.int .i64 ((i + 1 : Nat) : Int)] = [out, .int .i64 (k' : Int)] ∧ eN c p ≤ k' ∧ k' ≤ zN c p + 1 ∧ Ext w3 w7 ∧ Mine F5 w7 v27 (setB c.ins.length (LiveP c p)) ∧ w3.heap.size ≤ lo ∧ hi ≤ w7.heap.size ∧ RowI lo hi 3 w7 out (ints (Op ++ setL k' (StP c r p))) ∧ ∀ b ∈ F5, b < lo ∨ hi ≤ b := fun hn =>
   ⟨mj - 1, by omega, i + 1, by omega, out6, lo, hi, rfl, by omega, by omega, hx37, hM7, hlo, by omega, by rw [setL_no hn]; exact hr7, hd⟩
 refine rd_indexN u72 ty4 (i := i) hM7.is (by rw [setB_len]; exact hi') fun b8 o8 hA8 => ?_
 refine rd_loadB ty4 hA8 (Ext.refl _) ?_
 refine br_b (fun hf => ?_) (fun hf => ?_)
 case refine_2 =>
   refine rd_inc (by omega) ?_
   exact hskip fun h => by rw [hml.2 ⟨hi', h.1⟩] at hf; cases hf
 have hL := (hml.1 hf).2
 refine rd_fld fd35_4 ?_
 refine rd_load ty33 (at_DCode_4 hA) hx17 fun v46 h46 => ?_
 refine rd_indexN u33 ty136 (i := i) h46 hi' fun b9 o9 hA9 => ?_
 rw [insAt_get] at hA9
 refine rd_fld fd136_0 ?_
 refine rd_loadI ty3 (at_DIns_0 hA9) hx17 fun _ => ?_
 refine rd_eql ?_
 refine br (fun h5 => ?_) (fun h5 => ?_)
 case refine_2 =>
   refine rd_inc (by omega) ?_
   exact hskip fun h => h5 h.2.1
 obtain ⟨hag, _⟩ := ag_proc hc hi' (.inr h5)
 refine rd_fld fd35_4 ?_
 refine rd_load ty33 (at_DCode_4 hA) hx17 fun v55 h55 => ?_
 refine rd_indexN u33 ty136 (i := i) h55 hi' fun b10 o10 hA10 => ?_
 rw [insAt_get] at hA10
 refine rd_fld fd136_1 ?_
 refine rd_loadI ty3 (at_DIns_1 hA10) hx17 fun _ => ?_
 refine rd_eql ?_
 refine br (fun ha => ?_) (fun ha => ?_)
 case refine_2 =>
   refine rd_inc (by omega) ?_
   exact hskip fun h => ha (by rw [hag, h.2.2])
 refine op_pushD1 (x := (i : Int)) u23 ty3 z3 zc3 (by decide) hr7 (lo2 := 0) (hi2 := 0) (ownI_int _ _ (by unfold I64; omega)) (by rw [maxLen_eq, ints_len]; omega) (by rw [ints_len]; omega) fun v' w' lo' hi2 hc8 hr' hd8 => ?_
 have hs8 := hc8.size
 have hs37 := hx37.size
 refine rd_inc (by omega) ?_
 refine ⟨mj - 1, by omega, i + 1, by omega, v', lo', hi2, rfl, by omega, by omega, hx37.chgI hc8 hlo, hM7.keep fun b hb => hc8.block b (hM7.lt b hb) (hd b hb), by omega, by omega, ?_, fun b hb => ?_⟩
 · rw [setL_yes (⟨hL, h5, by omega⟩ : StP c r p i), ← List.append_assoc, ints_append]
   exact hr'
 · have := hd b hb
   have := hM7.lt b hb
   omega
theorem mem_take_succ {l : List Int} {k : Nat} {y : Int} (hk : k < l.length) (h : y ∉ l.take k) (c : ¬ l[k] = y) : y ∉ l.take (k + 1) := by
 rw [List.take_succ_eq_append_getElem hk]
 simp only [List.mem_append, List.mem_cons, List.not_mem_nil, or_false, not_or]
 exact ⟨h, fun e => c e.symm⟩
def F179 (a0 a1 : Value) (w : World) (R : VW) : Prop :=
 LOOPI [5] [(Value.int .i64 0)] w fun u2 w next2 =>
 RD tp (ln 23 3 a0) w fun x8 =>
 RD tp (bin .lss 3 T0 T0 (u2 5) x8) w fun x9 =>
 BR x9
 (RD tp (Instr.indexAt 23 a0 (u2 5)) w fun x14 =>
 RD tp (Instr.loadAt 3 x14) w fun x15 =>
 RD tp (bin .eql 3 T0 T0 x15 a1) w fun x17 =>
 BR x17
 (R (Value.bool true) w)
 (RD tp (bin .add 3 T0 U0 (u2 5) (Value.int .i64 1)) w fun x11 =>
 next2 [x11] w))
 (R (Value.bool false) w)
def cfg179 : Cfg := ⟨extL, [], [(2, 262128, [5])], [], [], [], []⟩
theorem F179_eq (a0 a1 : Value) (w : World) (R : VW) : vcF Tryz.prog cfg179 Tryz.f179 [a0, a1] w R = F179 a0 a1 w R := by kernel_rfl
theorem F179_call {a0 a1 : Value} {w : World} {R : VW} (h : F179 a0 a1 w R) : CALL Tryz.prog 179 [a0, a1] w R :=
 call_of (g := cfg179) ent mixed Tryz.func179 (Nat.le_of_ble_eq_true (by kernel_rfl)) (by kernel_rfl) (F179_eq a0 a1 w R ▸ h)
theorem l09Has_ok {w : World} {v0 : Value} {W0 : World} {l : (List Int)} {y : Int}  (h0 : Is W0 v0 l) (e0 : Ext W0 w)  :
   CALL Tryz.prog 179 [v0, .int .i64 y] w fun r w' => Ext w w' ∧ (r = .bool (decide (y ∈ l))) := by
 refine F179_call ?_
 unfold F179
 refine loopC (l.length) (fun k us w' => us = [.int .i64 (k : Int)] ∧ Ext w w' ∧ (y ∉ l.take k)) (0) (by omega) ⟨by simp, Ext.refl w, by simp⟩ ?_
 rintro k m2 uu2 w1_ hk2 ⟨hu, hx1_, hinv⟩
 simp only [List.map_cons, List.map_nil, List.cons.injEq, and_true] at hu
 try rw [hu]
 try clear hu
 have hln8 := is_len h0
 refine rd_len u23 h0 ?_
 refine rd_lss ?_
 refine br (fun c1 => ?_) (fun c1 => ?_)
 · refine rd_indexN u23 ty3 h0 (by omega) fun b14 o14 h14 => ?_
   refine rd_loadI ty3 h14 (e0.trans hx1_) fun hI15 => ?_
   refine rd_eql ?_
   refine br (fun c2 => ?_) (fun c2 => ?_)
   · refine ⟨hx1_, ?_⟩
     have : y ∈ l := c2 ▸ List.getElem_mem _
     simp [this]
   · refine rd_inc (by omega) ?_
     refine ⟨m2 - 1, by omega, k + 1, by omega, by simp, hx1_, ?_⟩
     exact mem_take_succ (by omega) hinv c2
 · refine ⟨hx1_, ?_⟩
   rw [List.take_of_length_le (by omega)] at hinv
   simp [hinv]
def F309 (a0 a1 : Value) (w : World) (R : VW) : Prop :=
 NIL a0 <|
 RD tp (Instr.fieldAt 144 a0 0) w fun x8 =>
 RD tp (Instr.fieldAt 35 x8 4) w fun x9 =>
 RD tp (Instr.loadAt 33 x9) w fun x10 =>
 RD tp (ln 33 3 x10) w fun x11 =>
 OP tp (Instr.makeSlice 72 x11 x11) w fun x12 w =>
 CALL tp 126 [a0, x12, a1] w fun x16 w =>
 R x12 w
def cfg309 : Cfg := ⟨extL, [], [], [], [], [], []⟩
theorem F309_eq (a0 a1 : Value) (w : World) (R : VW) : vcF Tryz.prog cfg309 Tryz.f309 [a0, a1] w R = F309 a0 a1 w R := by kernel_rfl
theorem F309_call {a0 a1 : Value} {w : World} {R : VW} (h : F309 a0 a1 w R) : CALL Tryz.prog 309 [a0, a1] w R :=
 call_of (g := cfg309) ent mixed Tryz.func309 (Nat.le_of_ble_eq_true (by kernel_rfl)) (by kernel_rfl) (F309_eq a0 a1 w R ▸ h)
def F307 (a0 a1 : Value) (w : World) (R : VW) : Prop :=
 RD tp (bin .geq 3 T0 U0 a1 (Value.int .i64 0)) w fun x6 =>
 BR x6
 (NIL a0 <|
 RD tp (Instr.fieldAt 144 a0 0) w fun x11 =>
 RD tp (Instr.fieldAt 35 x11 2) w fun x12 =>
 RD tp (Instr.loadAt 22 x12) w fun x13 =>
 RD tp (ln 22 3 x13) w fun x14 =>
 RD tp (bin .lss 3 T0 T0 a1 x14) w fun x15 =>
 R x15 w)
 (R (Value.bool false) w)
def cfg307 : Cfg := ⟨extL, [], [], [], [], [], []⟩
theorem F307_eq (a0 a1 : Value) (w : World) (R : VW) : vcF Tryz.prog cfg307 Tryz.f307 [a0, a1] w R = F307 a0 a1 w R := by kernel_rfl
theorem F307_call {a0 a1 : Value} {w : World} {R : VW} (h : F307 a0 a1 w R) : CALL Tryz.prog 307 [a0, a1] w R :=
 call_of (g := cfg307) ent mixed Tryz.func307 (Nat.le_of_ble_eq_true (by kernel_rfl)) (by kernel_rfl) (F307_eq a0 a1 w R ▸ h)
def F285 (a0 a1 : Value) (w : World) (R : VW) : Prop :=
 CALL tp 307 [a0, a1] w fun x9 w =>
 RD tp (Op.unary .not x9) w fun x10 =>
 BR x10
 (R (Value.bool false) w)
 (NIL a0 <|
 RD tp (Instr.fieldAt 144 a0 5) w fun x14 =>
 RD tp (Instr.loadAt 3 x14) w fun x15 =>
 CALL tp 164 [x15, a1] w fun x17 w =>
 RD tp (Op.unary .not x17) w fun x18 =>
 BR x18
 (R (Value.bool false) w)
 (CALL tp 196 [a0] w fun x21 w =>
 NIL a0 <|
 RD tp (Instr.fieldAt 144 a0 6) w fun x25 =>
 RD tp (Instr.loadAt 3 x25) w fun x26 =>
 CALL tp 308 [a0, x26, (Value.int .i64 5), a1] w fun x28 w =>
 RD tp (bin .eql 3 T0 T0 a1 x21) w fun x31 =>
 BR x31
 (RD tp (ln 23 3 x28) w fun x33 =>
 RD tp (bin .eql 3 T0 U0 x33 (Value.int .i64 0)) w fun x34 =>
 R x34 w)
 ((fun w => RD tp (ln 23 3 x28) w fun x36 =>
 RD tp (bin .neq 3 T0 U0 x36 (Value.int .i64 1)) w fun x37 =>
 BR x37
 (R (Value.bool false) w)
 (NIL a0 <|
 RD tp (Instr.fieldAt 144 a0 0) w fun x41 =>
 RD tp (Instr.loadAt 35 x41) w fun x42 =>
 RD tp (Instr.indexAt 23 x28 (Value.int .i64 0)) w fun x44 =>
 RD tp (Instr.loadAt 3 x44) w fun x45 =>
 (fun w_ => CALL tp 197 [x42, x45] w_ fun x46 w =>
 Ext w_ w ∧
 RD tp (bin .neq 3 T0 T0 x46 x21) w fun x48 =>
 BR x48
 (R (Value.bool false) w)
 (RD tp (Instr.indexAt 23 x28 (Value.int .i64 0)) w fun x53 =>
 RD tp (Instr.loadAt 3 x53) w fun x54 =>
 RD tp (Instr.indexAt 23 x28 (Value.int .i64 0)) w fun x57 =>
 RD tp (Instr.loadAt 3 x57) w fun x58 =>
 (fun w_ => CALL tp 309 [a0, x54] w_ fun x55 w =>
 Ext w_ w ∧
 RD tp (Instr.indexAt 72 x55 x58) w fun x59 =>
 RD tp (Instr.loadAt 4 x59) w fun x60 =>
 BR x60
 (R (Value.bool false) w)
 ((fun w => CALL tp 285 [a0, x21] w fun x64 w =>
 BR x64
 (NIL a0 <|
 RD tp (Instr.fieldAt 144 a0 2) w fun x68 =>
 RD tp (Instr.loadAt 23 x68) w fun x69 =>
 NIL a0 <|
 RD tp (Instr.fieldAt 144 a0 6) w fun x72 =>
 RD tp (Instr.loadAt 3 x72) w fun x73 =>
 (fun w_ => CALL tp 195 [x69, x73] w_ fun x74 w =>
 Ext w_ w ∧
 CALL tp 164 [x74, x21] w fun x76 w =>
 RD tp (Op.unary .not x76) w fun x77 =>
 R x77 w) w)
 (R (Value.bool false) w)) (World.drew1 w))) w)) w)) (World.drew1 w))))
def cfg285 : Cfg := ⟨extL, [], [], [(7, [0, 1, 2, 3, 4, 5, 6, 7, 8, 9, 10, 12, 11, 13, 14, 15, 16, 17, 18, 19, 21, 22, 23, 20, 24, 25, 26], 1050624), (9, [0, 1, 2, 3, 4, 5, 6, 7, 8, 9, 10, 11, 13, 12, 14, 15, 16, 17], 4096)], [], [], []⟩
theorem F285_eq (a0 a1 : Value) (w : World) (R : VW) : vcF Tryz.prog cfg285 Tryz.f285 [a0, a1] w R = F285 a0 a1 w R := by kernel_rfl
theorem F285_call {a0 a1 : Value} {w : World} {R : VW} (h : F285 a0 a1 w R) : CALL Tryz.prog 285 [a0, a1] w R :=
 call_of (g := cfg285) ent mixed Tryz.func285 (Nat.le_of_ble_eq_true (by kernel_rfl)) (by kernel_rfl) (F285_eq a0 a1 w R ▸ h)
set_option linter.unusedVariables false
set_option linter.unusedSimpArgs false
open Rep (rep)
theorem kAt_of {W0 w : World} {b : Nat} {c : DCode} (h : At W0 b 0 c) (hx : Ext W0 w) : KAt W0 w b c := by
 obtain ⟨F, cs, hr, hc⟩ := h
 have hl := Rep.len hr
 have hp : 0 < cs.length := by rw [hl]; exact Rep.pos
 have hc' := rangeAt_ext hc hx
 refine ⟨F, cs, hr, hc', Decidable.byContradiction fun hn => ?_⟩
 have := hc' 0 cs[0] (List.getElem?_eq_getElem hp)
 simp only [World.cell?] at this
 rw [Array.getElem?_eq_none (by omega)] at this
 cases this
theorem reach_ok {w W0 : World} {b a : Nat} {c : DCode} (hW : WAt W0 b c) (e0 : Ext W0 w) (hc : CodeR c) (ha : a < c.ins.length) :
   CALL Tryz.prog 309 [.pointer (some ⟨b, 0, none⟩), .int .i64 (a : Int)] w fun v w' => Ext w w' ∧ Own w.heap.size w' v (setB c.ins.length (RP (nextN c) a)) := by
 refine F309_call ?_
 unfold F309
 have hil := hc.f.ins
 refine NIL.mk rfl ?_
 refine rd_fld fd144_0 ?_
 refine rd_fld fd35_4 ?_
 refine rd_load ty33 (at_DCode_4 hW.wl.code) e0 fun v10 h10 => ?_
 refine rd_len u33 h10 ?_
 have hk0 := kAt_of hW.wl.code e0
 have hbl := hk0.lt
 refine op_makeB (by omega) (by omega) fun w1 hx1 hM1 => ?_
 have hs1 := hx1.size
 have e0s := e0.size
 refine (spread_ok (kAt_of hW.wl.code (e0.trans hx1)) (e0.trans hx1) hc rfl ha hM1 (by simp) (by omega) (by omega) fun i hi => absurd hi mkd_replicate).mono ?_
 rintro _ w2 ⟨rfl, hc2, hM2⟩
 refine ⟨hx1.chgI hc2 (Nat.le_refl _), [w.heap.size], ?_, fun b hb => by simp at hb; omega⟩
 have : (setB c.ins.length fun i => mkd (List.replicate c.ins.length false) i ∨ RP (nextN c) a i) = setB c.ins.length (RP (nextN c) a) := setB_congr fun i _ => ⟨fun h => h.resolve_left mkd_replicate, .inr⟩
 rw [← this]; exact hM2
theorem isProc_ok {w W0 : World} {b r : Nat} {c : DCode} (hW : WAt W0 b c) (e0 : Ext W0 w) (hr : r < c.procs.length) :
   CALL Tryz.prog 307 [.pointer (some ⟨b, 0, none⟩), .int .i64 (r : Int)] w fun v w' => Ext w w' ∧ v = .bool true := by
 refine F307_call ?_
 unfold F307
 refine rd_geq ?_
 refine br (fun _ => ?_) (fun h => by omega)
 refine NIL.mk rfl ?_
 refine rd_fld fd144_0 ?_
 refine rd_fld fd35_2 ?_
 refine rd_load ty22 (at_DCode_2 hW.wl.code) e0 fun v10 h10 => ?_
 refine rd_len u22 h10 ?_
 refine rd_lss ?_
 exact ⟨Ext.refl _, by simp; omega⟩
def OnceP (c : DCode) (r a : Nat) : Prop := startL c r = [a] ∧ procOf c a = (mainN c : Int) ∧ ¬ RP (nextN c) a a ∧ startL c (mainN c) = [] ∧ ¬ ∃ p, UsedP c p ∧ OpsP c p 4 (mainN c)
def SingP (c : DCode) (r : Nat) : Prop := (r = mainN c ∧ startL c r = []) ∨ (r ≠ mainN c ∧ ∃ a, OnceP c r a)
noncomputable instance (c : DCode) (r : Nat) : Decidable (SingP c r) := Classical.propDecidable _
theorem sing_main {c : DCode} : SingP c (mainN c) ↔ startL c (mainN c) = [] :=
 ⟨fun h => h.elim (·.2) fun h => absurd rfl h.1, fun h => .inl ⟨rfl, h⟩⟩
theorem sing_not {c : DCode} {r : Nat} (hr : r ≠ mainN c) : SingP c r ↔ ∃ a, OnceP c r a :=
 ⟨fun h => h.elim (fun h => absurd h.1 hr) (·.2), fun h => .inr ⟨hr, h⟩⟩
theorem len_ints0 {l : List Nat} : ((l.length : Int) = 0) ↔ l = [] := by
 rw [← List.length_eq_zero_iff]; omega
theorem usedN_bit {c : DCode} {p : Nat} : (usedN c).testBit p = true ↔ p < c.procs.length ∧ UsedP c p := setN_bit
theorem rootsN_bit {c : DCode} {p : Nat} : (rootsN c).testBit p = true ↔ p < c.procs.length ∧ RootP c p := setN_bit
theorem used_lt {c : DCode} (hc : CodeR c) {p : Nat} (h : UsedP c p) : p < c.procs.length := by
 obtain ⟨r, hr, hf⟩ := h
 exact hf.lt (hr.lt hc)
theorem called_bit {c : DCode} (hc : CodeR c) {q : Nat} (hq : q < c.procs.length) : (orL (cls c 4) (bitsL (usedN c))).testBit q = true ↔ ∃ p, UsedP c p ∧ OpsP c p 4 q := by
 have h8 := hc.1.procs8
 rw [orL_mask (m := usedN c) (n := c.procs.length) setN_lt (by omega)]
 constructor
 · rintro ⟨i, h1, h2, h3⟩
   exact ⟨i, (usedN_bit.1 h2).2, ((cls_bit h1).1 h3).2⟩
 · rintro ⟨i, h1, h2⟩
   have hi := used_lt hc h1
   exact ⟨i, hi, usedN_bit.2 ⟨hi, h1⟩, (cls_bit hi).2 ⟨hq, h2⟩⟩
theorem singleM_ok {w W0 : World} {b : Nat} {c : DCode} (hW : WAt W0 b c) (e0 : Ext W0 w) (hc : CodeR c) :
   CALL Tryz.prog 285 [.pointer (some ⟨b, 0, none⟩), .int .i64 (mainN c : Nat)] w fun v w' => Ext w w' ∧ v = .bool (decide (SingP c (mainN c))) := by
 refine F285_call ?_
 unfold F285
 have h8 := hc.1.procs8
 have hml := (main_lt' hc).2
 have hr256 : rootsN c < 256 := setN_small h8.1
 refine (isProc_ok hW e0 hml).mono ?_
 rintro _ w1 ⟨hx1, rfl⟩
 refine rd_not ?_
 refine br_b (fun h => by cases h) (fun _ => ?_)
 refine NIL.mk rfl ?_
 refine rd_fld fd144_5 ?_
 refine rd_loadI ty3 hW.roots (e0.trans hx1) fun _ => ?_
 refine (hasBit_ok (m := rootsN c) (i := mainN c) (by omega) (by omega)).mono ?_
 rintro _ w2 ⟨hx2, rfl⟩
 rw [rootsN_bit.2 ⟨hml, .main⟩]
 refine rd_not ?_
 refine br_b (fun h => by cases h) (fun _ => ?_)
 have hx12 := hx1.trans hx2
 refine (mainProc_ok (hW.wl.code.ext (e0.trans hx12)) hc).mono ?_
 rintro _ w3 ⟨hx3, rfl⟩
 have hx13 := hx12.trans hx3
 refine NIL.mk rfl ?_
 refine rd_fld fd144_6 ?_
 refine rd_loadI ty3 hW.used (e0.trans hx13) fun _ => ?_
 refine (sitesIn_ok (r := mainN c) hW (e0.trans hx13) hc).mono ?_
 rintro v28 w4 ⟨hx4, ho4⟩
 refine rd_eql ?_
 refine br (fun _ => ?_) (fun h => absurd rfl h)
 refine rd_len u23 ho4.is ?_
 refine rd_eql ?_
 rw [ints_len]
 exact ⟨hx13.trans hx4, by congr 1; rw [decide_eq_decide, sing_main, len_ints0]⟩
theorem single_ok {w W0 : World} {b r : Nat} {c : DCode} (hW : WAt W0 b c) (e0 : Ext W0 w) (hc : CodeR c) (hr : RootP c r) :
   CALL Tryz.prog 285 [.pointer (some ⟨b, 0, none⟩), .int .i64 (r : Int)] w fun v w' => Ext w w' ∧ v = .bool (decide (SingP c r)) := by
 by_cases hm : r = mainN c
 · subst hm; exact singleM_ok hW e0 hc
 refine F285_call ?_
 unfold F285
 have h8 := hc.1.procs8
 have hml := (main_lt' hc).2
 have hrl := hr.lt hc
 have hr256 : rootsN c < 256 := setN_small h8.1
 have hu256 : usedN c < 2 ^ c.procs.length := setN_lt
 refine (isProc_ok hW e0 hrl).mono ?_
 rintro _ w1 ⟨hx1, rfl⟩
 refine rd_not ?_
 refine br_b (fun h => by cases h) (fun _ => ?_)
 refine NIL.mk rfl ?_
 refine rd_fld fd144_5 ?_
 refine rd_loadI ty3 hW.roots (e0.trans hx1) fun _ => ?_
 refine (hasBit_ok (m := rootsN c) (i := r) (by omega) (by omega)).mono ?_
 rintro _ w2 ⟨hx2, rfl⟩
 rw [rootsN_bit.2 ⟨hrl, hr⟩]
 refine rd_not ?_
 refine br_b (fun h => by cases h) (fun _ => ?_)
 have hx12 := hx1.trans hx2
 refine (mainProc_ok (hW.wl.code.ext (e0.trans hx12)) hc).mono ?_
 rintro _ w3 ⟨hx3, rfl⟩
 have hx13 := hx12.trans hx3
 refine NIL.mk rfl ?_
 refine rd_fld fd144_6 ?_
 refine rd_loadI ty3 hW.used (e0.trans hx13) fun _ => ?_
 refine (sitesIn_ok (r := r) hW (e0.trans hx13) hc).mono ?_
 rintro v28 w4' ⟨hx4, ho4⟩
 refine rd_eql ?_
 refine br (fun h => absurd (by omega) hm) (fun _ => ?_)
 have hxd := ext_drew w4'
 have hx14 := hx13.trans (hx4.trans hxd)
 have hS4 := ho4.is.ext hxd
 generalize World.drew1 w4' = w4 at *
 have hsm := fun a (ha : a ∈ startL c r) => startL_mem hc ha
 have hnot : (¬ ∃ a, OnceP c r a) → Value.bool false = .bool (decide (SingP c r)) := fun h => by rw [decide_eq_false fun h2 => h ((sing_not hm).1 h2)]
 refine rd_len u23 hS4 ?_
 refine rd_neq ?_
 rw [ints_len]
 refine br (fun hne => ?_) (fun heq => ?_)
 · exact ⟨hx14, hnot fun ⟨a, h⟩ => hne (by rw [h.1]; rfl)⟩
 have hl1 : (startL c r).length = 1 := by have := Decidable.not_not.1 heq; omega
 obtain ⟨a, ha⟩ : ∃ a, startL c r = [a] := List.length_eq_one_iff.1 hl1
 have hal : a < c.ins.length := hsm a (by rw [ha]; simp)
 rw [ha] at hS4
 have hget : ∀ {w : World} {K : Value → Prop}, Ext w4 w → (K (.int .i64 (a : Int))) → RD Tryz.prog (Instr.indexAt 23 v28 (.int .i64 0)) w fun x => RD Tryz.prog (Instr.loadAt 3 x) w K := fun hx kk => by
   refine rd_indexN u23 ty3 (i := 0) hS4 (by simp [ints]) fun b3 o3 hA3 => ?_
   rw [show (ints [a])[0]'(by simp [ints]) = (a : Int) from rfl] at hA3
   exact rd_loadI ty3 hA3 hx fun _ => kk
 have hone : ∀ a', OnceP c r a' → a' = a := fun a' h => by have := h.1; rw [ha] at this; simpa using this.symm
 refine NIL.mk rfl ?_
 refine rd_fld fd144_0 ?_
 refine rd_load ty35 hW.wl.code (e0.trans hx14) fun v42 h42 => ?_
 refine hget (Ext.refl _) ?_
 refine (procIn_ok (a := (a : Int)) h42 (e0.trans hx14) hc (by omega) (by omega)).mono ?_
 rintro _ w5 ⟨hx5, rfl⟩
 refine ⟨hx5, ?_⟩
 have hx15 := hx14.trans hx5
 refine rd_neq ?_
 refine br (fun hne => ?_) (fun heq2 => ?_)
 · exact ⟨hx15, hnot fun ⟨a', h⟩ => hne (by have := hone a' h; subst this; exact h.2.1)⟩
 refine hget hx5 ?_
 refine hget hx5 ?_
 refine (reach_ok (a := a) hW (e0.trans hx15) hc hal).mono ?_
 rintro v55 w6 ⟨hx6, ho6⟩
 refine ⟨hx6, ?_⟩
 have hx16 := hx15.trans hx6
 have hmk := mkd_setB (n := c.ins.length) (p := RP (nextN c) a) (i := a)
 rw [mkd_get (by rw [setB_len]; exact hal)] at hmk
 refine rd_indexN u72 ty4 (i := a) ho6.is (by rw [setB_len]; exact hal) fun b8 o8 hA8 => ?_
 refine rd_loadB ty4 hA8 (Ext.refl _) ?_
 refine br_b (fun hrp => ?_) (fun hrp => ?_)
 · exact ⟨hx16, hnot fun ⟨a', h⟩ => by have := hone a' h; subst this; exact h.2.2.1 (hmk.1 hrp).2⟩
 have hnr : ¬ RP (nextN c) a a := fun h => by rw [hmk.2 ⟨hal, h⟩] at hrp; cases hrp
 have hxd6 := ext_drew w6
 have hx17 := hx16.trans hxd6
 generalize World.drew1 w6 = w7 at *
 refine (singleM_ok hW (e0.trans hx17) hc).mono ?_
 rintro _ w8 ⟨hx8, rfl⟩
 have hx18 := hx17.trans hx8
 refine br (fun hsm => ?_) (fun hsm => ?_)
 case refine_2 => exact ⟨hx18, hnot fun ⟨a', h⟩ => hsm (sing_main.2 h.2.2.2.1)⟩
 refine NIL.mk rfl ?_
 refine rd_fld fd144_2 ?_
 refine rd_load ty23 hW.calls (e0.trans hx18) fun v69 h69 => ?_
 refine NIL.mk rfl ?_
 refine rd_fld fd144_6 ?_
 refine rd_loadI ty3 hW.used (e0.trans hx18) fun _ => ?_
 have hcl : ∀ x ∈ cls c 4, x < 256 := fun x hx => by
   obtain ⟨p, _, rfl⟩ := List.mem_map.1 hx
   exact setN_small h8.1
 refine (unionOf_ok (m := usedN c) h69 (e0.trans hx18) hcl (by rw [cls_len]; omega) (by rw [cls_len]; exact hu256)).mono ?_
 rintro _ w9 ⟨hx9, rfl⟩
 refine ⟨hx9, ?_⟩
 have ho256 := orL_lt hcl (bitsL (usedN c))
 refine (hasBit_ok (m := orL (cls c 4) (bitsL (usedN c))) (i := mainN c) (by omega) (by omega)).mono ?_
 rintro _ w10 ⟨hx10, rfl⟩
 refine rd_not ?_
 refine ⟨hx18.trans (hx9.trans hx10), ?_⟩
 have hcb := called_bit hc hml
 have : SingP c r ↔ ¬ (orL (cls c 4) (bitsL (usedN c))).testBit (mainN c) = true := by
   rw [sing_not hm, hcb]
   constructor
   · rintro ⟨a', h⟩; exact h.2.2.2.2
   · intro h; exact ⟨a, ha, Decidable.not_not.1 heq2, hnr, sing_main.1 hsm, h⟩
 congr 1
 cases hb : (orL (cls c 4) (bitsL (usedN c))).testBit (mainN c)
 · rw [decide_eq_true (this.2 (by rw [hb]; simp))]; rfl
 · rw [decide_eq_false (fun h => this.1 h hb)]; rfl
def F229 (a0 a1 : Value) (w : World) (R : VW) : Prop :=
 OP tp (Instr.box 35 a0) w fun x2 w =>
 RD tp (Instr.loadAt 35 x2) w fun x9 =>
 CALL tp 188 [x9] w fun x10 w =>
 RD tp (Instr.loadAt 35 x2) w fun x11 =>
 CALL tp 284 [x11, a1] w fun x13 w =>
 RD tp (bin .eql 3 T0 T0 a1 x10) w fun x16 =>
 BR x16
 (RD tp (ln 23 3 x13) w fun x18 =>
 RD tp (bin .eql 3 T0 U0 x18 (Value.int .i64 0)) w fun x19 =>
 R x19 w)
 ((fun w => RD tp (ln 23 3 x13) w fun x21 =>
 RD tp (bin .neq 3 T0 U0 x21 (Value.int .i64 1)) w fun x22 =>
 BR x22
 (R (Value.bool false) w)
 (RD tp (Instr.loadAt 35 x2) w fun x24 =>
 RD tp (Instr.indexAt 23 x13 (Value.int .i64 0)) w fun x26 =>
 RD tp (Instr.loadAt 3 x26) w fun x27 =>
 (fun w_ => CALL tp 175 [x24, x27] w_ fun x28 w =>
 Ext w_ w ∧
 RD tp (bin .neq 3 T0 T0 x28 x10) w fun x30 =>
 BR x30
 (R (Value.bool false) w)
 (RD tp (Instr.loadAt 35 x2) w fun x33 =>
 RD tp (Instr.indexAt 23 x13 (Value.int .i64 0)) w fun x35 =>
 RD tp (Instr.loadAt 3 x35) w fun x36 =>
 RD tp (Instr.indexAt 23 x13 (Value.int .i64 0)) w fun x39 =>
 RD tp (Instr.loadAt 3 x39) w fun x40 =>
 (fun w_ => CALL tp 235 [x33, x36] w_ fun x37 w =>
 Ext w_ w ∧
 RD tp (Instr.indexAt 72 x37 x40) w fun x41 =>
 RD tp (Instr.loadAt 4 x41) w fun x42 =>
 BR x42
 (R (Value.bool false) w)
 (RD tp (Instr.loadAt 35 x2) w fun x45 =>
 CALL tp 229 [x45, x10] w fun x47 w =>
 RD tp (Op.unary .not x47) w fun x48 =>
 BR x48
 (R (Value.bool false) w)
 (RD tp (Instr.loadAt 35 x2) w fun x50 =>
 CALL tp 114 [x50] w fun x51 w =>
 LOOPI [8] [(Value.int .i64 0)] w fun u9 w next9 =>
 RD tp (Instr.fieldAt 35 x2 2) w fun x53 =>
 RD tp (Instr.loadAt 22 x53) w fun x54 =>
 RD tp (ln 22 3 x54) w fun x55 =>
 RD tp (bin .lss 3 T0 T0 (u9 8) x55) w fun x56 =>
 BR x56
 (RD tp (Instr.indexAt 72 x51 (u9 8)) w fun x61 =>
 RD tp (Instr.loadAt 4 x61) w fun x62 =>
 BR x62
 (RD tp (Instr.loadAt 35 x2) w fun x64 =>
 CALL tp 189 [x64, (u9 8), (Value.int .i64 4)] w fun x66 w =>
 CALL tp 179 [x66, x10] w fun x68 w =>
 BR x68
 (R (Value.bool false) w)
 (RD tp (bin .add 3 T0 U0 (u9 8) (Value.int .i64 1)) w fun x58 =>
 next9 [x58] w))
 (RD tp (bin .add 3 T0 U0 (u9 8) (Value.int .i64 1)) w fun x58 =>
 next9 [x58] w))
 (R (Value.bool true) w)))) w)) w)) (World.drew1 w))
def cfg229 : Cfg := ⟨extL, [], [(9, 1180587117117783933200, [8])], [(5, [0, 1, 2, 3, 4, 5, 6, 7, 9, 8, 10, 11, 12, 13, 14, 15, 16, 18, 19, 20, 17, 21, 22, 23, 24, 25, 26, 27, 28, 29], 131328)], [], [], []⟩
theorem F229_eq (a0 a1 : Value) (w : World) (R : VW) : vcF Tryz.prog cfg229 Tryz.f229 [a0, a1] w R = F229 a0 a1 w R := by kernel_rfl
theorem F229_call {a0 a1 : Value} {w : World} {R : VW} (h : F229 a0 a1 w R) : CALL Tryz.prog 229 [a0, a1] w R :=
 call_of (g := cfg229) ent mixed Tryz.func229 (Nat.le_of_ble_eq_true (by kernel_rfl)) (by kernel_rfl) (F229_eq a0 a1 w R ▸ h)
def F231 (a0 : Value) (w : World) (R : VW) : Prop :=
 NIL a0 <|
 RD tp (Instr.fieldAt 144 a0 5) w fun x8 =>
 RD tp (Instr.loadAt 3 x8) w fun x9 =>
 CALL tp 97 [x9] w fun x10 w =>
 RD tp (ln 23 3 x10) w fun x11 =>
 LOOPI [3, 12] [(Value.int .i64 0), (Value.int .i64 0)] w fun u3 w next3 =>
 RD tp (bin .lss 3 T0 T0 (u3 12) x11) w fun x13 =>
 BR x13
 (RD tp (Instr.indexAt 23 x10 (u3 12)) w fun x14 =>
 RD tp (Instr.loadAt 3 x14) w fun x15 =>
 CALL tp 285 [a0, x15] w fun x18 w =>
 BR x18
 (RD tp (convert 3 77 x15) w fun x21 =>
 RD tp (bin .shl 3 U0 T0 (Value.int .i64 1) x21) w fun x22 =>
 RD tp (bin .or 3 T0 T0 (u3 3) x22) w fun x23 =>
 RD tp (bin .add 3 T0 U0 (u3 12) (Value.int .i64 1)) w fun x24 =>
 next3 [x23, x24] w)
 (RD tp (bin .add 3 T0 U0 (u3 12) (Value.int .i64 1)) w fun x24 =>
 next3 [(u3 3), x24] w))
 (R (u3 3) w)
def cfg231 : Cfg := ⟨extL, [], [(3, 33550376, [3, 12])], [], [], [], []⟩
theorem F231_eq (a0 : Value) (w : World) (R : VW) : vcF Tryz.prog cfg231 Tryz.f231 [a0] w R = F231 a0 w R := by kernel_rfl
theorem F231_call {a0 : Value} {w : World} {R : VW} (h : F231 a0 w R) : CALL Tryz.prog 231 [a0] w R :=
 call_of (g := cfg231) ent mixed Tryz.func231 (Nat.le_of_ble_eq_true (by kernel_rfl)) (by kernel_rfl) (F231_eq a0 w R ▸ h)
def F230 (a0 a1 : Value) (w : World) (R : VW) : Prop :=
 NIL a0 <|
 RD tp (Instr.fieldAt 144 a0 0) w fun x10 =>
 RD tp (Instr.loadAt 35 x10) w fun x11 =>
 CALL tp 160 [x11, a1] w fun x13 w =>
 RD tp (Op.unary .not x13) w fun x14 =>
 BR x14
 (R (Value.int .i64 0) w)
 (NIL a0 <|
 RD tp (Instr.fieldAt 144 a0 1) w fun x18 =>
 RD tp (Instr.loadAt 72 x18) w fun x19 =>
 RD tp (Instr.indexAt 72 x19 a1) w fun x21 =>
 RD tp (Instr.loadAt 4 x21) w fun x22 =>
 RD tp (Op.unary .not x22) w fun x23 =>
 BR x23
 (R (Value.int .i64 0) w)
 (NIL a0 <|
 RD tp (Instr.fieldAt 144 a0 5) w fun x27 =>
 RD tp (Instr.loadAt 3 x27) w fun x28 =>
 CALL tp 97 [x28] w fun x29 w =>
 RD tp (ln 23 3 x29) w fun x30 =>
 LOOPI [5, 31] [(Value.int .i64 0), (Value.int .i64 0)] w fun u5 w next5 =>
 RD tp (bin .lss 3 T0 T0 (u5 31) x30) w fun x32 =>
 BR x32
 (RD tp (Instr.indexAt 23 x29 (u5 31)) w fun x33 =>
 RD tp (Instr.loadAt 3 x33) w fun x34 =>
 (fun w => NIL a0 <|
 RD tp (Instr.fieldAt 144 a0 4) w fun x37 =>
 RD tp (Instr.loadAt 23 x37) w fun x38 =>
 RD tp (Instr.indexAt 23 x38 x34) w fun x40 =>
 RD tp (Instr.loadAt 3 x40) w fun x41 =>
 NIL a0 <|
 RD tp (Instr.fieldAt 144 a0 0) w fun x44 =>
 RD tp (Instr.loadAt 35 x44) w fun x45 =>
 (fun w_ => CALL tp 197 [x45, a1] w_ fun x47 w =>
 Ext w_ w ∧
 CALL tp 164 [x41, x47] w fun x48 w =>
 BR x48
 (RD tp (convert 3 77 x34) w fun x51 =>
 RD tp (bin .shl 3 U0 T0 (Value.int .i64 1) x51) w fun x52 =>
 RD tp (bin .or 3 T0 T0 (u5 5) x52) w fun x53 =>
 RD tp (bin .add 3 T0 U0 (u5 31) (Value.int .i64 1)) w fun x54 =>
 next5 [x53, x54] w)
 (RD tp (bin .add 3 T0 U0 (u5 31) (Value.int .i64 1)) w fun x54 =>
 next5 [(u5 5), x54] w)) w) (World.drew1 w))
 (R (u5 5) w)))
def cfg230 : Cfg := ⟨extL, [], [(5, 36028794871480480, [5, 31])], [(7, [0, 1, 2, 3, 4, 5, 6, 7, 8, 9, 10, 11, 12, 13], 4096)], [], [], []⟩
theorem F230_eq (a0 a1 : Value) (w : World) (R : VW) : vcF Tryz.prog cfg230 Tryz.f230 [a0, a1] w R = F230 a0 a1 w R := by kernel_rfl
theorem F230_call {a0 a1 : Value} {w : World} {R : VW} (h : F230 a0 a1 w R) : CALL Tryz.prog 230 [a0, a1] w R :=
 call_of (g := cfg230) ent mixed Tryz.func230 (Nat.le_of_ble_eq_true (by kernel_rfl)) (by kernel_rfl) (F230_eq a0 a1 w R ▸ h)
set_option linter.unusedVariables false
set_option linter.unusedSimpArgs false
open Rep (rep)
theorem l14SingleM_ok {w W0 : World} {v0 : Value} {c : DCode} (h0 : Is W0 v0 c) (e0 : Ext W0 w) (hc : CodeR c) :
   CALL Tryz.prog 229 [v0, .int .i64 (mainN c : Nat)] w fun v w' => Ext w w' ∧ v = .bool (decide (SingP c (mainN c))) := by
 refine F229_call ?_
 unfold F229
 have hml := main_lt' hc
 refine op_box h0 e0 fun w1 hx1 hA => ?_
 refine rd_load ty35 hA (Ext.refl _) fun v9 h9 => ?_
 refine (l14Main_ok h9 (Ext.refl _)).mono ?_
 rintro _ w2 ⟨hx2, rfl⟩
 rw [hml.1]
 refine rd_load ty35 hA hx2 fun v11 h11 => ?_
 refine (l14Starts_ok (r := mainN c) h11 hx2 hc).mono ?_
 rintro v13 w3 ⟨hx3, ho3⟩
 refine rd_eql ?_
 refine br (fun _ => ?_) (fun h => absurd rfl h)
 refine rd_len u23 ho3.is ?_
 refine rd_eql ?_
 rw [ints_len]
 exact ⟨hx1.trans (hx2.trans hx3), by congr 1; rw [decide_eq_decide, sing_main, len_ints0]⟩
theorem l14Single_ok {w W0 : World} {v0 : Value} {r : Nat} {c : DCode} (h0 : Is W0 v0 c) (e0 : Ext W0 w) (hc : CodeR c) :
   CALL Tryz.prog 229 [v0, .int .i64 (r : Int)] w fun v w' => Ext w w' ∧ v = .bool (decide (SingP c r)) := by
 by_cases hm : r = mainN c
 · subst hm; exact l14SingleM_ok h0 e0 hc
 refine F229_call ?_
 unfold F229
 have h8 := hc.1.procs8
 have he := hc.2.1.1
 have hml := main_lt' hc
 refine op_box h0 e0 fun w1 hx1 hA => ?_
 refine rd_load ty35 hA (Ext.refl _) fun v9 h9 => ?_
 refine (l14Main_ok h9 (Ext.refl _)).mono ?_
 rintro _ w2 ⟨hx2, rfl⟩
 rw [hml.1]
 refine rd_load ty35 hA hx2 fun v11 h11 => ?_
 refine (l14Starts_ok (r := r) h11 hx2 hc).mono ?_
 rintro v28 w3 ⟨hx3, ho3⟩
 refine rd_eql ?_
 refine br (fun h => absurd (by omega) hm) (fun _ => ?_)
 have hxd := ext_drew w3
 have hx14 := hx2.trans (hx3.trans hxd)
 have hS4 := ho3.is.ext hxd
 generalize World.drew1 w3 = w4 at *
 have hsm := fun a (ha : a ∈ startL c r) => startL_mem hc ha
 have hnot : (¬ ∃ a, OnceP c r a) → Value.bool false = .bool (decide (SingP c r)) := fun h => by rw [decide_eq_false fun h2 => h ((sing_not hm).1 h2)]
 refine rd_len u23 hS4 ?_
 refine rd_neq ?_
 rw [ints_len]
 refine br (fun hne => ?_) (fun heq => ?_)
 · exact ⟨hx1.trans hx14, hnot fun ⟨a, h⟩ => hne (by rw [h.1]; rfl)⟩
 have hl1 : (startL c r).length = 1 := by have := Decidable.not_not.1 heq; omega
 obtain ⟨a, ha⟩ : ∃ a, startL c r = [a] := List.length_eq_one_iff.1 hl1
 have hal : a < c.ins.length := hsm a (by rw [ha]; simp)
 rw [ha] at hS4
 have hget : ∀ {w : World} {K : Value → Prop}, Ext w4 w → (K (.int .i64 (a : Int))) → RD Tryz.prog (Instr.indexAt 23 v28 (.int .i64 0)) w fun x => RD Tryz.prog (Instr.loadAt 3 x) w K := fun hx kk => by
   refine rd_indexN u23 ty3 (i := 0) hS4 (by simp [ints]) fun b3 o3 hA3 => ?_
   rw [show (ints [a])[0]'(by simp [ints]) = (a : Int) from rfl] at hA3
   exact rd_loadI ty3 hA3 hx fun _ => kk
 have hone : ∀ a', OnceP c r a' → a' = a := fun a' h => by have := h.1; rw [ha] at this; simpa using this.symm
 refine rd_load ty35 hA hx14 fun v24 h24 => ?_
 refine hget (Ext.refl _) ?_
 refine (l08Proc_ok (a := (a : Int)) h24 hx14).mono ?_
 rintro _ w5 ⟨hx5, rfl⟩
 refine ⟨hx5, ?_⟩
 have hx15 := hx14.trans hx5
 refine rd_neq ?_
 refine br (fun hne => ?_) (fun heq2 => ?_)
 · exact ⟨hx1.trans hx15, hnot fun ⟨a', h⟩ => hne (by have := hone a' h; subst this; exact h.2.1)⟩
 refine rd_load ty35 hA hx15 fun v33 h33 => ?_
 refine hget hx5 ?_
 refine hget hx5 ?_
 refine (l09Reach_ok (a := a) h33 hx15 hc hal).mono ?_
 rintro v55 w6 ⟨hx6, ho6⟩
 refine ⟨hx6, ?_⟩
 have hx16 := hx15.trans hx6
 have hmk := mkd_setB (n := c.ins.length) (p := RP (nextN c) a) (i := a)
 rw [mkd_get (by rw [setB_len]; exact hal)] at hmk
 refine rd_indexN u72 ty4 (i := a) ho6.is (by rw [setB_len]; exact hal) fun b8 o8 hA8 => ?_
 refine rd_loadB ty4 hA8 (Ext.refl _) ?_
 refine br_b (fun hrp => ?_) (fun hrp => ?_)
 · exact ⟨hx1.trans hx16, hnot fun ⟨a', h⟩ => by have := hone a' h; subst this; exact h.2.2.1 (hmk.1 hrp).2⟩
 have hnr : ¬ RP (nextN c) a a := fun h => by rw [hmk.2 ⟨hal, h⟩] at hrp; cases hrp
 refine rd_load ty35 hA hx16 fun v45 h45 => ?_
 refine (l14SingleM_ok h45 hx16 hc).mono ?_
 rintro _ w8 ⟨hx8, rfl⟩
 have hx18 := hx16.trans hx8
 refine rd_nodec ?_
 refine br (fun hsm => ?_) (fun hsm => ?_)
 · exact ⟨hx1.trans hx18, hnot fun ⟨a', h⟩ => hsm (sing_main.2 h.2.2.2.1)⟩
 have hsm' := Decidable.not_not.1 hsm
 refine rd_load ty35 hA hx18 fun v50 h50 => ?_
 refine (l14Used_ok h50 hx18 hc).mono ?_
 rintro v51 w9 ⟨hx9, ho9⟩
 have hx19 := hx18.trans hx9
 refine loopC c.procs.length (fun k us w' => us = [.int .i64 (k : Int)] ∧ k ≤ c.procs.length ∧ Ext w9 w' ∧ ∀ p, p < k → UsedP c p → ¬ OpsP c p 4 (mainN c)) 0 (Nat.zero_le _) ⟨rfl, Nat.zero_le _, Ext.refl _, fun p h => by omega⟩ ?_
 rintro p mk u w10 hkm ⟨hu, hkl, hx10, hD⟩
 simp only [List.map_cons, List.map_nil, List.cons.injEq, and_true] at hu
 rw [hu]
 have hx110 := hx19.trans hx10
 refine rd_fld fd35_2 ?_
 refine rd_load ty22 (at_DCode_2 hA) hx110 fun v54 h54 => ?_
 refine rd_len u22 h54 ?_
 refine rd_lss ?_
 refine br (fun hlt => ?_) (fun hge => ?_)
 case refine_2 =>
   have : SingP c r := (sing_not hm).2 ⟨a, ha, Decidable.not_not.1 heq2, hnr, sing_main.1 hsm', fun ⟨p, h1, h2⟩ => hD p (by have := used_lt hc h1; omega) h1 h2⟩
   exact ⟨hx1.trans hx110, by rw [decide_eq_true this]⟩
 have hp : p < c.procs.length := by omega
 have hnext : (UsedP c p → ¬ OpsP c p 4 (mainN c)) → ∀ q, q < p + 1 → UsedP c q → ¬ OpsP c q 4 (mainN c) := fun h q hq => by
   by_cases e : q = p
   · subst e; exact h
   · exact hD q (by omega)
 have hmu := mkd_setB (n := c.procs.length) (p := UsedP c) (i := p)
 rw [mkd_get (by rw [setB_len]; exact hp)] at hmu
 refine rd_indexN u72 ty4 (i := p) ho9.is (by rw [setB_len]; exact hp) fun b11 o11 hA11 => ?_
 refine rd_loadB ty4 hA11 hx10 ?_
 refine br_b (fun hf => ?_) (fun hf => ?_)
 case refine_2 =>
   refine rd_inc (by omega) ?_
   exact ⟨mk - 1, by omega, p + 1, by omega, rfl, by omega, hx10, hnext fun h => by rw [hmu.2 ⟨hp, h⟩] at hf; cases hf⟩
 have hU := (hmu.1 hf).2
 refine rd_load ty35 hA hx110 fun v64 h64 => ?_
 refine (l10Ops_ok (p := p) h64 hx110 hc (by rw [he]; exact hp) (.inl rfl)).mono ?_
 rintro v66 w11 ⟨hx11, ho11⟩
 refine (l09Has_ok (y := (mainN c : Nat)) ho11.is (Ext.refl _)).mono ?_
 rintro _ w12 ⟨hx12, rfl⟩
 have hx112 := hx110.trans (hx11.trans hx12)
 have hin : ((mainN c : Nat) : Int) ∈ ints (setL c.procs.length (OpsP c p 4)) ↔ OpsP c p 4 (mainN c) := by
   unfold ints
   rw [List.mem_map]
   constructor
   · rintro ⟨x, hx, e⟩
     have : x = mainN c := by omega
     subst this; exact (mem_setL.1 hx).2
   · intro h; exact ⟨_, mem_setL.2 ⟨hml.2, h⟩, rfl⟩
 refine br (fun hy => ?_) (fun hno => ?_)
 · exact ⟨hx1.trans hx112, hnot fun ⟨a', h⟩ => h.2.2.2.2 ⟨p, hU, hin.1 hy⟩⟩
 refine rd_inc (by omega) ?_
 exact ⟨mk - 1, by omega, p + 1, by omega, rfl, by omega, hx10.trans (hx11.trans hx12), hnext fun _ h => hno (hin.2 h)⟩
noncomputable def singN (c : DCode) : Nat := setN (fun r => RootP c r ∧ SingP c r) c.procs.length
def RtP (c : DCode) (i r : Nat) : Prop := AllLive c i ∧ RootP c r ∧ FromP c r (procOf c i).toNat
noncomputable def rtN (c : DCode) (i : Nat) : Nat := setN (RtP c i) c.procs.length
theorem rtN_lt {c : DCode} (hc : CodeR c) (i : Nat) : rtN c i < 256 := setN_small hc.1.procs8.1
theorem singN_lt {c : DCode} (hc : CodeR c) : singN c < 256 := setN_small hc.1.procs8.1
def AccB (U : List Nat) (P : Nat → Prop) (k m : Nat) : Prop := m < 256 ∧ ∀ r, m.testBit r = true ↔ r ∈ U.take k ∧ P r
theorem AccB.yes {U : List Nat} {P : Nat → Prop} {k m : Nat} (h : AccB U P k m) (hk : k < U.length) (h8 : U[k] < 8) (hp : P U[k]) : AccB U P (k + 1) (m ||| 2 ^ U[k]) := by
 refine ⟨Nat.or_lt_two_pow (n := 8) h.1 (Nat.pow_lt_pow_right (by omega) h8), fun r => ?_⟩
 rw [Nat.testBit_or, Bool.or_eq_true, h.2, mem_take_iff hk, Nat.testBit_two_pow, decide_eq_true_eq]
 constructor
 · rintro (⟨h1, h2⟩ | rfl)
   · exact ⟨.inl h1, h2⟩
   · exact ⟨.inr rfl, hp⟩
 · rintro ⟨h1 | rfl, h2⟩
   · exact .inl ⟨h1, h2⟩
   · exact .inr rfl
theorem AccB.no {U : List Nat} {P : Nat → Prop} {k m : Nat} (h : AccB U P k m) (hk : k < U.length) (hp : ¬ P U[k]) : AccB U P (k + 1) m := by
 refine ⟨h.1, fun r => ?_⟩
 rw [h.2, mem_take_iff hk]
 constructor
 · rintro ⟨h1, h2⟩; exact ⟨.inl h1, h2⟩
 · rintro ⟨h1 | rfl, h2⟩
   · exact ⟨h1, h2⟩
   · exact absurd h2 hp
theorem AccB.fin {n : Nat} {Q P : Nat → Prop} {k m : Nat} (h : AccB (setL n Q) P k m) (hk : (setL n Q).length ≤ k) : m = setN (fun r => Q r ∧ P r) n := by
 refine eq_setN fun r => ?_
 rw [h.2, List.take_of_length_le hk, mem_setL]
 exact ⟨fun ⟨⟨a, b⟩, d⟩ => ⟨a, b, d⟩, fun ⟨a, b, d⟩ => ⟨⟨a, b⟩, d⟩⟩
theorem AccB.start (U : List Nat) (P : Nat → Prop) : AccB U P 0 0 := ⟨by omega, fun r => by simp⟩
theorem singles_ok {w W0 : World} {b : Nat} {c : DCode} (hW : WAt W0 b c) (e0 : Ext W0 w) (hc : CodeR c) :
   CALL Tryz.prog 231 [.pointer (some ⟨b, 0, none⟩)] w fun v w' => Ext w w' ∧ v = .int .i64 (singN c : Nat) := by
 refine F231_call ?_
 unfold F231
 have h8 := hc.1.procs8
 have hr256 : rootsN c < 256 := setN_small h8.1
 refine NIL.mk rfl ?_
 refine rd_fld fd144_5 ?_
 refine rd_loadI ty3 hW.roots e0 fun _ => ?_
 refine (bitsOf_ok (m := rootsN c) (by omega)).mono ?_
 rintro v10 w1 ⟨hx1, ho1⟩
 unfold rootsN at ho1
 rw [bitsL_setN (by omega)] at ho1
 refine rd_len u23 ho1.is ?_
 rw [ints_len]
 have hUl := setL_len (n := c.procs.length) (p := RootP c)
 have hUm : ∀ r ∈ setL c.procs.length (RootP c), r < c.procs.length ∧ RootP c r := fun r hr => mem_setL.1 hr
 have hfin : ∀ {k m}, AccB (setL c.procs.length (RootP c)) (SingP c) k m → (setL c.procs.length (RootP c)).length ≤ k → m = singN c := fun h hk => h.fin hk
 generalize setL c.procs.length (RootP c) = U at *
 refine loopC U.length (fun k us w' => ∃ m : Nat, us = [.int .i64 (m : Int), .int .i64 (k : Int)] ∧ k ≤ U.length ∧ Ext w1 w' ∧ AccB U (SingP c) k m) 0 (Nat.zero_le _) ⟨0, rfl, Nat.zero_le _, Ext.refl _, AccB.start _ _⟩ ?_
 rintro k mk u w2 hkm ⟨m, hu, hkl, hx2, hB⟩
 simp only [List.map_cons, List.map_nil, List.cons.injEq, and_true] at hu
 obtain ⟨hu1, hu2⟩ := hu
 rw [hu1, hu2]
 refine rd_lss ?_
 refine br (fun hlt => ?_) (fun hge => ?_)
 case refine_2 =>
   rw [hfin hB (by omega)]
   exact ⟨hx1.trans hx2, rfl⟩
 have hk : k < U.length := by omega
 obtain ⟨hrl, hrR⟩ := hUm U[k] (List.getElem_mem _)
 refine rd_indexN u23 ty3 (i := k) ho1.is (by rw [ints_len]; exact hk) fun b3 o3 hA3 => ?_
 rw [ints_get] at hA3
 have hyes := fun hp => hB.yes hk (by omega) hp
 have hno := fun hp => hB.no hk hp
 generalize U[k] = r at *
 refine rd_loadI ty3 hA3 hx2 fun _ => ?_
 have hm256 := hB.1
 refine (single_ok (r := r) hW (e0.trans (hx1.trans hx2)) hc hrR).mono ?_
 rintro _ w3 ⟨hx3, rfl⟩
 refine br (fun hs => ?_) (fun hs => ?_)
 · refine rd_uint (by kernel_rfl) u77 (by omega) ?_
   refine rd_shl1 (by omega) ?_
   have : 2 ^ r < 256 := Nat.pow_lt_pow_right (m := r) (n := 8) (by omega) (by omega)
   refine rd_or (by omega) (by omega) ?_
   refine rd_inc (by omega) ?_
   exact ⟨mk - 1, by omega, k + 1, by omega, m ||| 2 ^ r, rfl, by omega, hx2.trans hx3, hyes hs⟩
 · refine rd_inc (by omega) ?_
   exact ⟨mk - 1, by omega, k + 1, by omega, m, rfl, by omega, hx2.trans hx3, hno hs⟩
theorem rootsAt_ok {w W0 : World} {b i : Nat} {c : DCode} (hW : WAt W0 b c) (e0 : Ext W0 w) (hc : CodeR c) (hi : i < c.ins.length) :
   CALL Tryz.prog 230 [.pointer (some ⟨b, 0, none⟩), .int .i64 (i : Int)] w fun v w' => Ext w w' ∧ v = .int .i64 (rtN c i : Nat) := by
 refine F230_call ?_
 unfold F230
 have h8 := hc.1.procs8
 have hr256 : rootsN c < 256 := setN_small h8.1
 obtain ⟨q, hq, hpq, _⟩ := procOf_ex hc hi
 refine NIL.mk rfl ?_
 refine rd_fld fd144_0 ?_
 refine rd_load ty35 hW.wl.code e0 fun v11 h11 => ?_
 refine (isPlace_ok (a := (i : Int)) h11 e0).mono ?_
 rintro _ w1 ⟨hx1, rfl⟩
 refine rd_nodec ?_
 refine br (fun h => absurd ⟨by omega, by omega⟩ h) (fun _ => ?_)
 refine NIL.mk rfl ?_
 refine rd_fld fd144_1 ?_
 refine rd_load ty72 hW.wl.live (e0.trans hx1) fun v19 h19 => ?_
 have hmk := mkd_setB (n := c.ins.length) (p := AllLive c) (i := i)
 rw [mkd_get (by rw [setB_len]; exact hi)] at hmk
 refine rd_indexN u72 ty4 (i := i) h19 (by rw [setB_len]; exact hi) fun b2 o2 hA2 => ?_
 refine rd_loadB ty4 hA2 (e0.trans hx1) ?_
 refine rd_not ?_
 refine br_b (fun hf => ?_) (fun hf => ?_)
 · have hnl : ¬ AllLive c i := fun h => by rw [hmk.2 ⟨hi, h⟩] at hf; cases hf
   have : rtN c i = 0 := (eq_setN (m := 0) fun r => by simp; exact fun _ h => hnl h.1).symm
   rw [this]
   exact ⟨hx1, rfl⟩
 have hL : AllLive c i := (hmk.1 (by simpa using hf)).2
 refine NIL.mk rfl ?_
 refine rd_fld fd144_5 ?_
 refine rd_loadI ty3 hW.roots (e0.trans hx1) fun _ => ?_
 refine (bitsOf_ok (m := rootsN c) (by omega)).mono ?_
 rintro v29 w2 ⟨hx2, ho2⟩
 unfold rootsN at ho2
 rw [bitsL_setN (by omega)] at ho2
 refine rd_len u23 ho2.is ?_
 rw [ints_len]
 have hUl := setL_len (n := c.procs.length) (p := RootP c)
 have hUm : ∀ r ∈ setL c.procs.length (RootP c), r < c.procs.length ∧ RootP c r := fun r hr => mem_setL.1 hr
 have hfin : ∀ {k m}, AccB (setL c.procs.length (RootP c)) (fun r => FromP c r q) k m → (setL c.procs.length (RootP c)).length ≤ k → m = rtN c i := fun h hk => by
   rw [h.fin hk]
   unfold rtN
   refine setN_congr fun r _ => ?_
   unfold RtP
   rw [hpq]
   exact ⟨fun h => ⟨hL, h.1, h.2⟩, fun h => h.2⟩
 generalize setL c.procs.length (RootP c) = U at *
 have hx02 := hx1.trans hx2
 refine loopC U.length (fun k us w' => ∃ m : Nat, us = [.int .i64 (m : Int), .int .i64 (k : Int)] ∧ k ≤ U.length ∧ Ext w2 w' ∧ AccB U (fun r => FromP c r q) k m) 0 (Nat.zero_le _) ⟨0, rfl, Nat.zero_le _, Ext.refl _, AccB.start _ _⟩ ?_
 rintro k mk u w3 hkm ⟨m, hu, hkl, hx3, hB⟩
 simp only [List.map_cons, List.map_nil, List.cons.injEq, and_true] at hu
 obtain ⟨hu1, hu2⟩ := hu
 rw [hu1, hu2]
 refine rd_lss ?_
 refine br (fun hlt => ?_) (fun hge => ?_)
 case refine_2 =>
   rw [hfin hB (by omega)]
   exact ⟨hx02.trans hx3, rfl⟩
 have hk : k < U.length := by omega
 obtain ⟨hrl, hrR⟩ := hUm U[k] (List.getElem_mem _)
 refine rd_indexN u23 ty3 (i := k) ho2.is (by rw [ints_len]; exact hk) fun b4 o4 hA4 => ?_
 rw [ints_get] at hA4
 have hyes := fun hp => hB.yes hk (by omega) hp
 have hno := fun hp => hB.no hk hp
 generalize U[k] = r at *
 refine rd_loadI ty3 hA4 hx3 fun _ => ?_
 have hm256 := hB.1
 have hxd := ext_drew w3
 have hx23 := hx3.trans hxd
 generalize World.drew1 w3 = w4 at *
 have e4 := e0.trans (hx02.trans hx23)
 refine NIL.mk rfl ?_
 refine rd_fld fd144_4 ?_
 refine rd_load ty23 hW.frm e4 fun v38 h38 => ?_
 refine rd_indexN u23 ty3 (i := r) h38 (by rw [ints_len, frs_len]; exact hrl) fun b5 o5 hA5 => ?_
 rw [ints_nat0] at hA5
 refine rd_loadI ty3 hA5 e4 fun _ => ?_
 refine NIL.mk rfl ?_
 refine rd_fld fd144_0 ?_
 refine rd_load ty35 hW.wl.code e4 fun v45 h45 => ?_
 refine (procIn_ok (a := (i : Int)) h45 e4 hc (by omega) (by omega)).mono ?_
 rintro _ w5 ⟨hx5, rfl⟩
 refine ⟨hx5, ?_⟩
 rw [hpq]
 have hfb := frs_bit (c := c) (r := q) hrl
 have hf256 : nat0 (frs c) r < 256 := by rw [frs_at hrl]; exact setN_small h8.1
 refine (hasBit_ok (m := nat0 (frs c) r) (i := q) (by omega) (by omega)).mono ?_
 rintro _ w6 ⟨hx6, rfl⟩
 have hx26 := hx23.trans (hx5.trans hx6)
 refine br_b (fun hs => ?_) (fun hs => ?_)
 · refine rd_uint (by kernel_rfl) u77 (by omega) ?_
   refine rd_shl1 (by omega) ?_
   have : 2 ^ r < 256 := Nat.pow_lt_pow_right (m := r) (n := 8) (by omega) (by omega)
   refine rd_or (by omega) (by omega) ?_
   refine rd_inc (by omega) ?_
   exact ⟨mk - 1, by omega, k + 1, by omega, m ||| 2 ^ r, rfl, by omega, hx26, hyes (hfb.1 hs).2⟩
 · refine rd_inc (by omega) ?_
   exact ⟨mk - 1, by omega, k + 1, by omega, m, rfl, by omega, hx26, hno fun h => by rw [hfb.2 ⟨hq, h⟩] at hs; cases hs⟩
end Go.Proofs.YtjgfldfbljmhhaaGreat
namespace Go.Proofs.YtjgfldfbljmhhaaGreat
open Go Go.Sh Go.Proofs Go.Sort
set_option linter.unusedVariables false
set_option linter.unusedSimpArgs false
open Rep (rep)
structure DOrder where
 fr : Int
 to : Int
 at_ : Int
theorem DOrder.ext_iff {x y : DOrder} : x = y ↔ (x.fr = y.fr ∧ x.to = y.to ∧ x.at_ = y.at_) := ⟨fun h => by rw [h]; exact ⟨rfl, rfl, rfl⟩, fun h => by obtain ⟨h0, h1, h2⟩ := h; cases x; cases y; simp only at h0 h1 h2; simp only [h0, h1, h2]⟩
instance : DecidableEq DOrder := fun x y => decidable_of_iff (x.fr = y.fr ∧ x.to = y.to ∧ x.at_ = y.at_) DOrder.ext_iff.symm
instance : Rep DOrder := Rep.via fun x => (x.fr, x.to, x.at_)
instance : RepZ DOrder := ⟨⟨(RepZ.zv : Int), (RepZ.zv : Int), (RepZ.zv : Int)⟩, RepZ.zc (Int × Int × Int), fun w => RepZ.zr (α := Int × Int × Int) w⟩
instance : Flat DOrder := ⟨fun h => Flat.flat (α := Int × Int × Int) h⟩
def ltO (x y : DOrder) : Prop := x.fr < y.fr ∨ (x.fr = y.fr ∧ (x.to < y.to ∨ (x.to = y.to ∧ x.at_ < y.at_)))
instance (x y : DOrder) : Decidable (ltO x y) := by unfold ltO; infer_instance
instance : Inhabited DOrder := ⟨⟨0, 0, 0⟩⟩
theorem MayP.locks {c : DCode} (hc : CodeR c) {i l : Nat} (h : MayP c i l) : l < c.locks.length := by
 induction h with
 | lock hm ho ha hj => subst ha; exact (ag_lock hc (hm.lt hc) (.inl ho)).2.1
 | pass _ _ _ _ _ ih => exact ih
 | call _ _ _ ih => exact ih
 | back _ _ _ _ _ ih => exact ih
open Classical in
open Classical in
def F79 (a0 : Value) (w : World) (R : VW) : Prop :=
 RD tp (ln 72 3 a0) w fun x7 =>
 LOOPI [3, 8] [(Value.slice none 0 0), (Value.int .i64 0)] w fun u3 w next3 =>
 RD tp (bin .lss 3 T0 T0 (u3 8) x7) w fun x9 =>
 BR x9
 (RD tp (Instr.indexAt 72 a0 (u3 8)) w fun x11 =>
 RD tp (Instr.loadAt 4 x11) w fun x12 =>
 BR x12
 (OP tp (Instr.buildSlice 23 1 #[(0, (u3 8))]) w fun x16 w =>
 OP tp (Builtin.append_ #[23, 23] 23 [(u3 3), x16].toArray) w fun x17 w =>
 RD tp (bin .add 3 T0 U0 (u3 8) (Value.int .i64 1)) w fun x18 =>
 next3 [x17, x18] w)
 (RD tp (bin .add 3 T0 U0 (u3 8) (Value.int .i64 1)) w fun x18 =>
 next3 [(u3 3), x18] w))
 (R (u3 3) w)
def cfg79 : Cfg := ⟨extL, [], [(3, 524088, [3, 8])], [], [], [], []⟩
theorem F79_eq (a0 : Value) (w : World) (R : VW) : vcF Tryz.prog cfg79 Tryz.f79 [a0] w R = F79 a0 w R := by kernel_rfl
theorem F79_call {a0 : Value} {w : World} {R : VW} (h : F79 a0 w R) : CALL Tryz.prog 79 [a0] w R :=
 call_of (g := cfg79) ent mixed Tryz.func79 (Nat.le_of_ble_eq_true (by kernel_rfl)) (by kernel_rfl) (F79_eq a0 w R ▸ h)
def F20 (a0 a1 : Value) (w : World) (R : VW) : Prop :=
 OP tp (Instr.box 35 a0) w fun x2 w =>
 RD tp (Instr.loadAt 35 x2) w fun x9 =>
 CALL tp 73 [x9] w fun x10 w =>
 RD tp (Op.unary .not x10) w fun x11 =>
 BR x11
 (OP tp (Instr.buildSlice 23 0 #[]) w fun x12 w =>
 R x12 w)
 (RD tp (Instr.fieldAt 35 x2 4) w fun x13 =>
 RD tp (Instr.loadAt 33 x13) w fun x14 =>
 RD tp (ln 33 3 x14) w fun x15 =>
 OP tp (Instr.makeSlice 72 x15 x15) w fun x16 w =>
 RD tp (Instr.loadAt 35 x2) w fun x17 =>
 CALL tp 74 [x17] w fun x18 w =>
 CALL tp 75 [a1] w fun x20 w =>
 LOOPI [8] [(Value.int .i64 0)] w fun u7 w next7 =>
 RD tp (ln 48 3 x18) w fun x23 =>
 RD tp (bin .lss 3 T0 T0 (u7 8) x23) w fun x24 =>
 BR x24
 (RD tp (Instr.indexAt 48 x18 (u7 8)) w fun x30 =>
 RD tp (Instr.fieldAt 93 x30 0) w fun x31 =>
 RD tp (Instr.loadAt 3 x31) w fun x32 =>
 CALL tp 76 [x20, x32] w fun x33 w =>
 BR x33
 (RD tp (Instr.indexAt 48 x18 (u7 8)) w fun x38 =>
 RD tp (Instr.fieldAt 93 x38 1) w fun x39 =>
 RD tp (Instr.loadAt 3 x39) w fun x40 =>
 CALL tp 76 [x20, x40] w fun x41 w =>
 BR x41
 (RD tp (Instr.indexAt 48 x18 (u7 8)) w fun x46 =>
 RD tp (Instr.fieldAt 93 x46 2) w fun x47 =>
 RD tp (Instr.loadAt 3 x47) w fun x48 =>
 RD tp (Instr.indexAt 72 x16 x48) w fun x49 =>
 OPU tp (Instr.storeAt 4 x49 (Value.bool true)) w fun w =>
 RD tp (bin .add 3 T0 U0 (u7 8) (Value.int .i64 1)) w fun x26 =>
 next7 [x26] w)
 (RD tp (bin .add 3 T0 U0 (u7 8) (Value.int .i64 1)) w fun x26 =>
 next7 [x26] w))
 (RD tp (bin .add 3 T0 U0 (u7 8) (Value.int .i64 1)) w fun x26 =>
 next7 [x26] w))
 (CALL tp 77 [x16] w fun x51 w =>
 R x51 w))
set_option linter.unusedVariables false
set_option linter.unusedSimpArgs false
open Rep (rep)
theorem marked_ok {w W0 : World} {v0 : Value} {ms : List Bool} (h0 : Is W0 v0 ms) (e0 : Ext W0 w) (hn : ms.length ≤ 2000000) :
   CALL Tryz.prog 79 [v0] w fun r w' => Ext w w' ∧ Own w.heap.size w' r (ints (idxM ms ms.length)) := by
 refine F79_call ?_
 unfold F79
 refine rd_len u72 h0 ?_
 refine loopC ms.length (fun k us w' => ∃ (v : Value), us = [v, .int .i64 (k : Int)] ∧ k ≤ ms.length ∧ Ext w w' ∧ RowI w.heap.size w'.heap.size 3 w' v (ints (idxM ms k))) 0 (Nat.zero_le _) ⟨_, rfl, Nat.zero_le _, Ext.refl _, rowI_nil _ _ _ _⟩ ?_
 rintro k mk u w2 hkm ⟨v, hu, hkl, hx2, hr2⟩
 simp only [List.map_cons, List.map_nil, List.cons.injEq, and_true] at hu
 obtain ⟨hu1, hu2⟩ := hu
 rw [hu1, hu2]
 refine rd_lss ?_
 refine br (fun hlt => ?_) (fun hge => ?_)
 case refine_2 =>
   have : k = ms.length := by omega
   rw [this] at hr2
   exact ⟨hx2, hr2.own.own⟩
 have hk : k < ms.length := by omega
 have hs2 := hx2.size
 have hg : ms.getD k false = ms[k] := by rw [List.getD_eq_getElem?_getD, List.getElem?_eq_getElem hk]; rfl
 have hil := idxM_len ms k
 refine rd_indexN u72 ty4 h0 hk fun b2 o2 hA2 => ?_
 refine rd_loadB ty4 hA2 (e0.trans hx2) ?_
 refine br_b (fun hf => ?_) (fun hf => ?_)
 · refine op_push (lo2 := w2.heap.size) (hi2 := w2.heap.size) (x := (k : Int)) u23 ty3 z3 zc3 (by decide) hr2 hs2 (ownI_int _ _ (by unfold I64; omega)) (Nat.le_refl _) hs2 (by rw [maxLen_eq, ints_len]; omega) (by rw [ints_len]; omega) fun v54 w9 hc9 hr9 => ?_
   refine rd_inc (by omega) ?_
   refine ⟨mk - 1, by omega, k + 1, by omega, v54, rfl, by omega, hx2.chgI hc9 (Nat.le_refl _), ?_⟩
   rw [idxM_succ, hg, hf, if_pos rfl, ints_append]
   exact hr9
 · refine rd_inc (by omega) ?_
   refine ⟨mk - 1, by omega, k + 1, by omega, v, rfl, by omega, hx2, ?_⟩
   rw [idxM_succ, hg, hf]
   simpa using hr2
def F178 (a0 a1 a2 : Value) (w : World) (R : VW) : Prop :=
 RD tp (bin .eql 3 T0 U0 a0 (Value.int .i64 0)) w fun x8 =>
 BR x8
 (R (Value.bool false) w)
 (RD tp (bin .eql 3 T0 U0 a1 (Value.int .i64 0)) w fun x11 =>
 BR x11
 (R (Value.bool false) w)
 (RD tp (bin .and 3 T0 T0 a0 a1) w fun x15 =>
 RD tp (bin .andNot 3 T0 T0 x15 a2) w fun x17 =>
 RD tp (bin .neq 3 T0 U0 x17 (Value.int .i64 0)) w fun x18 =>
 BR x18
 (R (Value.bool true) w)
 (RD tp (bin .neq 3 T0 T0 a0 a1) w fun x22 =>
 BR x22
 (R (Value.bool true) w)
 (RD tp (bin .sub 3 T0 U0 a0 (Value.int .i64 1)) w fun x27 =>
 RD tp (bin .and 3 T0 T0 a0 x27) w fun x28 =>
 RD tp (bin .neq 3 T0 U0 x28 (Value.int .i64 0)) w fun x29 =>
 R x29 w))))
def cfg178 : Cfg := ⟨extL, [], [], [], [], [], []⟩
theorem F178_eq (a0 a1 a2 : Value) (w : World) (R : VW) : vcF Tryz.prog cfg178 Tryz.f178 [a0, a1, a2] w R = F178 a0 a1 a2 w R := by kernel_rfl
theorem F178_call {a0 a1 a2 : Value} {w : World} {R : VW} (h : F178 a0 a1 a2 w R) : CALL Tryz.prog 178 [a0, a1, a2] w R :=
 call_of (g := cfg178) ent mixed Tryz.func178 (Nat.le_of_ble_eq_true (by kernel_rfl)) (by kernel_rfl) (F178_eq a0 a1 a2 w R ▸ h)
def F177 (a0 : Value) (w : World) (R : VW) : Prop :=
 NIL a0 <|
 RD tp (Instr.fieldAt 144 a0 0) w fun x8 =>
 RD tp (Instr.fieldAt 35 x8 4) w fun x9 =>
 RD tp (Instr.loadAt 33 x9) w fun x10 =>
 RD tp (ln 33 3 x10) w fun x11 =>
 OP tp (Instr.makeSlice 23 x11 x11) w fun x12 w =>
 RD tp (ln 23 3 x12) w fun x14 =>
 LOOPI [15] [(Value.int .i64 0)] w fun u3 w next3 =>
 RD tp (bin .lss 3 T0 T0 (u3 15) x14) w fun x16 =>
 BR x16
 (CALL tp 230 [a0, (u3 15)] w fun x22 w =>
 RD tp (Instr.indexAt 23 x12 (u3 15)) w fun x23 =>
 OPU tp (Instr.storeAt 3 x23 x22) w fun w =>
 RD tp (bin .add 3 T0 U0 (u3 15) (Value.int .i64 1)) w fun x24 =>
 next3 [x24] w)
 (CALL tp 231 [a0] w fun x27 w =>
 R (Value.tuple #[x12, x27]) w)
def cfg177 : Cfg := ⟨extL, [], [(3, 33521696, [15])], [], [], [], []⟩
theorem F177_eq (a0 : Value) (w : World) (R : VW) : vcF Tryz.prog cfg177 Tryz.f177 [a0] w R = F177 a0 w R := by kernel_rfl
theorem F177_call {a0 : Value} {w : World} {R : VW} (h : F177 a0 w R) : CALL Tryz.prog 177 [a0] w R :=
 call_of (g := cfg177) ent mixed Tryz.func177 (Nat.le_of_ble_eq_true (by kernel_rfl)) (by kernel_rfl) (F177_eq a0 w R ▸ h)
def F176 (a0 : Value) (w : World) (R : VW) : Prop :=
 CALL tp 66 [a0] w fun x8 w =>
 CALL tp 68 [a0] w fun x10 w =>
 CALL tp 79 [x10] w fun x11 w =>
 RD tp (ln 23 3 x11) w fun x12 =>
 LOOPI [4, 13] [(Value.slice none 0 0), (Value.int .i64 0)] w fun u4 w next4 =>
 RD tp (bin .lss 3 T0 T0 (u4 13) x12) w fun x14 =>
 BR x14
 (RD tp (Instr.indexAt 23 x11 (u4 13)) w fun x15 =>
 RD tp (Instr.loadAt 3 x15) w fun x16 =>
 (fun w => NIL a0 <|
 RD tp (Instr.fieldAt 144 a0 0) w fun x20 =>
 RD tp (Instr.loadAt 35 x20) w fun x21 =>
 RD tp (Instr.indexAt 23 x8 x16) w fun x25 =>
 RD tp (Instr.loadAt 3 x25) w fun x26 =>
 (fun w_ => CALL tp 161 [x21, x16, x26] w_ fun x27 w =>
 Ext w_ w ∧
 OP tp (Builtin.append_ #[174, 174] 174 [(u4 4), x27].toArray) w fun x28 w =>
 RD tp (bin .add 3 T0 U0 (u4 13) (Value.int .i64 1)) w fun x29 =>
 next4 [x28, x29] w) w) (World.drew1 w))
 (R (u4 4) w)
def cfg176 : Cfg := ⟨extL, [], [(4, 1073733712, [4, 13])], [(6, [0, 1, 2, 3, 4, 5, 6, 7, 8, 9, 10, 11, 12], 1024)], [], [], []⟩
theorem F176_eq (a0 : Value) (w : World) (R : VW) : vcF Tryz.prog cfg176 Tryz.f176 [a0] w R = F176 a0 w R := by kernel_rfl
theorem F176_call {a0 : Value} {w : World} {R : VW} (h : F176 a0 w R) : CALL Tryz.prog 176 [a0] w R :=
 call_of (g := cfg176) ent mixed Tryz.func176 (Nat.le_of_ble_eq_true (by kernel_rfl)) (by kernel_rfl) (F176_eq a0 w R ▸ h)
def F173 (a0 : Value) (w : World) (R : VW) : Prop :=
 OP tp (Instr.box 35 a0) w fun x1 w =>
 OP tp (Instr.buildSlice 174 0 #[]) w fun x7 w =>
 RD tp (Instr.loadAt 35 x1) w fun x8 =>
 CALL tp 56 [x8] w fun x9 w =>
 RD tp (Instr.loadAt 35 x1) w fun x10 =>
 CALL tp 57 [x10] w fun x11 w =>
 NIL x11 <|
 RD tp (Instr.fieldAt 74 x11 1) w fun x13 =>
 RD tp (Instr.loadAt 72 x13) w fun x14 =>
 LOOPI [3, 6] [x7, (Value.int .i64 0)] w fun u5 w next5 =>
 RD tp (Instr.fieldAt 35 x1 4) w fun x16 =>
 RD tp (Instr.loadAt 33 x16) w fun x17 =>
 RD tp (ln 33 3 x17) w fun x18 =>
 RD tp (bin .lss 3 T0 T0 (u5 6) x18) w fun x19 =>
 BR x19
 (RD tp (Instr.indexAt 72 x14 (u5 6)) w fun x24 =>
 RD tp (Instr.loadAt 4 x24) w fun x25 =>
 BR x25
 ((fun w => RD tp (Instr.loadAt 35 x1) w fun x27 =>
 RD tp (Instr.indexAt 23 x9 (u5 6)) w fun x31 =>
 RD tp (Instr.loadAt 3 x31) w fun x32 =>
 (fun w_ => CALL tp 155 [x27, (u5 6), x32] w_ fun x33 w =>
 Ext w_ w ∧
 OP tp (Builtin.append_ #[174, 174] 174 [(u5 3), x33].toArray) w fun x34 w =>
 RD tp (bin .add 3 T0 U0 (u5 6) (Value.int .i64 1)) w fun x21 =>
 next5 [x34, x21] w) w) (World.drew1 w))
 (RD tp (bin .add 3 T0 U0 (u5 6) (Value.int .i64 1)) w fun x21 =>
 next5 [(u5 3), x21] w))
 (R (u5 3) w)
def cfg173 : Cfg := ⟨extL, [], [(5, 34359705672, [3, 6])], [(8, [0, 1, 2, 3, 4, 5, 6, 7, 8, 9], 128)], [], [], []⟩
theorem F173_eq (a0 : Value) (w : World) (R : VW) : vcF Tryz.prog cfg173 Tryz.f173 [a0] w R = F173 a0 w R := by kernel_rfl
theorem F173_call {a0 : Value} {w : World} {R : VW} (h : F173 a0 w R) : CALL Tryz.prog 173 [a0] w R :=
 call_of (g := cfg173) ent mixed Tryz.func173 (Nat.le_of_ble_eq_true (by kernel_rfl)) (by kernel_rfl) (F173_eq a0 w R ▸ h)
set_option linter.unusedVariables false
set_option linter.unusedSimpArgs false
open Rep (rep)
def ApartP (a b s : Nat) : Prop := ∃ r t, a.testBit r = true ∧ b.testBit t = true ∧ (r ≠ t ∨ s.testBit r = false)
theorem two_bits : ∀ a, a < 256 → a &&& (a - 1) ≠ 0 → ∃ r, r < 8 ∧ ∃ t, t < 8 ∧ r ≠ t ∧ a.testBit r = true ∧ a.testBit t = true := by decide +kernel
theorem one_bit : ∀ a, a < 256 → ∀ r, r < 8 → ∀ t, t < 8 → (a &&& (a - 1) = 0 ∧ a.testBit r = true ∧ a.testBit t = true → r = t) := by decide +kernel
theorem bit_lt8 {m l : Nat} (h : m < 256) (hb : m.testBit l = true) : l < 8 := Decidable.byContradiction fun hc => by
 have := Nat.testBit_lt_two_pow (Nat.lt_of_lt_of_le (show m < 2 ^ 8 from h) (Nat.pow_le_pow_right (by omega) (by omega : 8 ≤ l)))
 rw [this] at hb; cases hb
theorem some_bit {m : Nat} (h : m ≠ 0) : ∃ i, m.testBit i = true := Nat.exists_testBit_of_ne_zero h
theorem no_bit {m : Nat} (h : m = 0) (i : Nat) : ¬ m.testBit i = true := by rw [h]; simp
theorem apart_ok {w : World} {a b s : Nat} (ha : a < 256) (hb : b < 256) (hs : s < 256) :
   CALL Tryz.prog 178 [.int .i64 (a : Int), .int .i64 (b : Int), .int .i64 (s : Int)] w fun v w' => Ext w w' ∧ ∃ x : Bool, v = .bool x ∧ (x = true ↔ ApartP a b s) := by
 refine F178_call ?_
 unfold F178
 refine rd_eql ?_
 refine br (fun h => ?_) (fun hna => ?_)
 · exact ⟨Ext.refl _, false, rfl, ⟨fun e => (by cases e), fun ⟨r, t, h1, _⟩ => absurd h1 (no_bit (by omega) r)⟩⟩
 refine rd_eql ?_
 refine br (fun h => ?_) (fun hnb => ?_)
 · exact ⟨Ext.refl _, false, rfl, ⟨fun e => (by cases e), fun ⟨r, t, _, h1, _⟩ => absurd h1 (no_bit (by omega) t)⟩⟩
 have hle := Nat.and_le_left (n := a) (m := b)
 refine rd_and (m := a) (n := b) (by omega) (by omega) ?_
 refine rd_andNot (m := a &&& b) (n := s) (by omega) (by omega) ?_
 refine rd_neq ?_
 refine br (fun h => ?_) (fun h => ?_)
 · obtain ⟨i, hi⟩ := some_bit (m := andN (a &&& b) s) (by omega)
   rw [andN_bit, Nat.testBit_and] at hi
   simp only [Bool.and_eq_true, Bool.not_eq_true'] at hi
   exact ⟨Ext.refl _, true, rfl, ⟨fun _ => ⟨i, i, hi.1.1, hi.1.2, .inr hi.2⟩, fun _ => rfl⟩⟩
 have hz : andN (a &&& b) s = 0 := by have := Decidable.not_not.1 h; omega
 refine rd_neq ?_
 refine br (fun hne => ?_) (fun heq => ?_)
 · refine ⟨Ext.refl _, true, rfl, ⟨fun _ => ?_, fun _ => rfl⟩⟩
   refine Classical.byContradiction fun hn => ?_
   have hall : ∀ r t, a.testBit r = true → b.testBit t = true → r = t := fun r t h1 h2 => Classical.byContradiction fun e => hn ⟨r, t, h1, h2, .inl e⟩
   obtain ⟨r, hr⟩ := some_bit (m := a) (by omega)
   obtain ⟨t, ht⟩ := some_bit (m := b) (by omega)
   have hrt := hall r t hr ht
   subst hrt
   have : a = b := Nat.eq_of_testBit_eq fun i => by
     cases e1 : a.testBit i <;> cases e2 : b.testBit i
     · rfl
     · have := hall r i hr e2; subst this; rw [hr] at e1; cases e1
     · have := hall i r e1 ht; subst this; rw [ht] at e2; cases e2
     · rfl
   exact hne (by rw [this])
 have hab : a = b := by have := Decidable.not_not.1 heq; omega
 subst hab
 refine rd_sub (by unfold I64; omega) ?_
 rw [show (a : Int) - 1 = ((a - 1 : Nat) : Int) by omega]
 refine rd_and (m := a) (n := a - 1) (by omega) (by omega) ?_
 refine rd_neq ?_
 refine ⟨Ext.refl _, _, rfl, ?_⟩
 rw [decide_eq_true_eq]
 constructor
 · intro h
   obtain ⟨r, _, t, _, h1, h2, h3⟩ := two_bits a ha (by omega)
   exact ⟨r, t, h2, h3, .inl h1⟩
 · rintro ⟨r, t, h1, h2, h3⟩ hc
   have := one_bit a ha r (bit_lt8 ha h1) t (bit_lt8 ha h2) ⟨by omega, h1, h2⟩
   subst this
   have hb := no_bit hz r
   rw [andN_bit, Nat.testBit_and, h1] at hb
   rcases h3 with h3 | h3
   · exact h3 rfl
   · rw [h3] at hb; simp at hb
theorem besides_ok {w W0 : World} {b : Nat} {c : DCode} (hW : WAt W0 b c) (e0 : Ext W0 w) (hc : CodeR c) :
   CALL Tryz.prog 177 [.pointer (some ⟨b, 0, none⟩)] w fun v w' => Ext w w' ∧ ∃ u, v = .tuple #[u, .int .i64 (singN c : Nat)] ∧ Own w.heap.size w' u (ints ((List.range c.ins.length).map (rtN c))) := by
 refine F177_call ?_
 unfold F177
 have hil := hc.f.ins
 have hin0 : 0 < c.ins.length := by
   have := hc.1.procs8
   have := (zN_end hc this.2).2.2
   omega
 refine NIL.mk rfl ?_
 refine rd_fld fd144_0 ?_
 refine rd_fld fd35_4 ?_
 refine rd_load ty33 (at_DCode_4 hW.wl.code) e0 fun v10 h10 => ?_
 refine rd_len u33 h10 ?_
 have hn : c.ins.length = c.ins.length := rfl
 generalize hnn : c.ins.length = n at hn
 rw [hnn] at hil hin0
 refine op_makeI hin0 (by omega) fun w1 hx1 hM1 => ?_
 refine rd_lenX u23 ?_
 generalize hg : w.heap.size = g at *
 have hg1 := hM1.lt g (by simp)
 have hM0 : Mine [g] w1 (.slice (some ⟨g, 0, none⟩) n n) (ints ((List.range n).map fun i => if i < 0 then rtN c i else 0)) := by
   have : (List.replicate n 0) = ((List.range n).map fun i => if i < 0 then rtN c i else 0) := by
     apply List.ext_getElem
     · simp
     · intro i h1 h2; simp
   rw [← this]; exact hM1
 refine loopC n (fun k us w' => us = [.int .i64 (k : Int)] ∧ k ≤ n ∧ ChgI g (g + 1) w1 w' ∧ Mine [g] w' (.slice (some ⟨g, 0, none⟩) n n) (ints ((List.range n).map fun i => if i < k then rtN c i else 0))) 0 (Nat.zero_le _) ⟨rfl, Nat.zero_le _, ChgI.refl _, hM0⟩ ?_
 rintro k mk u w2 hkm ⟨hu, hkl, hc2, hM2⟩
 simp only [List.map_cons, List.map_nil, List.cons.injEq, and_true] at hu
 rw [hu]
 have hx2 : Ext w w2 := hx1.chgI hc2 (by omega)
 refine rd_lss ?_
 refine br (fun hlt => ?_) (fun hge => ?_)
 case refine_2 =>
   have hke : k = n := by omega
   refine (singles_ok hW (e0.trans hx2) hc).mono ?_
   rintro _ w3 ⟨hx3, rfl⟩
   refine ⟨hx2.trans hx3, _, rfl, [g], ?_, fun b hb => by simp at hb; omega⟩
   have : ((List.range n).map fun i => if i < k then rtN c i else 0) = (List.range n).map (rtN c) := List.map_congr_left fun i hi => by
     have := List.mem_range.1 hi
     rw [if_pos (by omega)]
   rw [this] at hM2
   exact hM2.ext hx3
 have hk : k < n := by omega
 refine (rootsAt_ok (i := k) hW (e0.trans hx2) hc (by omega)).mono ?_
 rintro _ w3 ⟨hx3, rfl⟩
 have hrt := rtN_lt hc k
 refine rd_elt (α := Int) (i := k) rfl u23 ty3 hk ?_
 refine opu_elt (α := Int) rfl ty3 (hM2.ext hx3) (by simp [ints]) hk (mine_nat (v := rtN c k) (by omega)) fun w4 hc4 hM4 => ?_
 have hc4' : ChgI g (g + 1) w3 w4 := chg_one hc4
 refine rd_inc (by omega) ?_
 refine ⟨mk - 1, by omega, k + 1, by omega, rfl, by omega, (hc2.trans hx3.toI).trans hc4', ?_⟩
 have : (ints ((List.range n).map fun i => if i < k then rtN c i else 0)).set k (rtN c k : Nat) = ints ((List.range n).map fun i => if i < k + 1 then rtN c i else 0) := by
   unfold ints
   apply List.ext_getElem
   · simp
   · intro i h1 h2
     simp only [List.length_map, List.length_range] at h2
     rw [List.getElem_set]
     by_cases e : k = i
     · subst e; simp
     · rw [if_neg e]
       simp only [List.getElem_map, List.getElem_range]
       by_cases h : i < k
       · rw [if_pos h, if_pos (by omega)]
       · rw [if_neg h, if_neg (by omega)]
 rw [← this]; exact hM4
noncomputable def tchI (c : DCode) (i : Nat) : List DTouch := touchAt c (i : Int) ((nat0 (mustN c) i : Nat) : Int)
noncomputable def tchL (c : DCode) : List DTouch := (setL c.ins.length (MetP c)).flatMap (tchI c)
theorem touchAt_len12 {c : DCode} (hc : CodeR c) (a h : Int) : (touchAt c a h).length ≤ 12 := by
 have h1 := touchAt_len c a h
 have h2 := hc.1.1
 simp only [Bool.and_eq_true, decide_eq_true_eq] at h2
 omega
theorem tchLk_len {c : DCode} (hc : CodeR c) (U : List Nat) (hU : U.length ≤ 1500) : (U.flatMap (tchI c)).length ≤ 18000 := by
 have h1 := flatLenR (l := U) (f := tchI c) (B := 12) fun i _ => touchAt_len12 hc _ _
 omega
theorem touches_ok {w W0 : World} {b : Nat} {c : DCode} (hW : WAt W0 b c) (e0 : Ext W0 w) (hc : CodeR c) :
   CALL Tryz.prog 176 [.pointer (some ⟨b, 0, none⟩)] w fun v w' => Ext w w' ∧ Own w.heap.size w' v (tchL c) := by
 refine F176_call ?_
 unfold F176
 have hil := hc.f.ins
 refine (must_ok hW e0 hc).mono ?_
 rintro v8 w1 ⟨hx1, ho1⟩
 refine (met_ok hW (e0.trans hx1) hc).mono ?_
 rintro v10 w2 ⟨hx2, ho2⟩
 have hml : (metN c).length = c.ins.length := by unfold metN; rw [setB_len]
 refine (marked_ok ho2.is (Ext.refl _) (by rw [hml]; omega)).mono ?_
 rintro v11 w3 ⟨hx3, ho3⟩
 have hx13 := hx1.trans (hx2.trans hx3)
 rw [hml] at ho3
 unfold metN at ho3
 rw [idxM_setB] at ho3
 have hMu := ho1.is.ext (hx2.trans hx3)
 have hUl := setL_len (n := c.ins.length) (p := MetP c)
 have hUm : ∀ i ∈ setL c.ins.length (MetP c), i < c.ins.length := fun i hi => (mem_setL.1 hi).1
 unfold tchL
 generalize setL c.ins.length (MetP c) = U at *
 refine rd_len u23 ho3.is ?_
 rw [ints_len]
 have hs13 := hx13.size
 refine loopC U.length (fun k us w' => ∃ out, us = [out, .int .i64 (k : Int)] ∧ k ≤ U.length ∧ Ext w3 w' ∧ RowI w3.heap.size w'.heap.size 177 w' out ((U.take k).flatMap (tchI c))) 0 (Nat.zero_le _) ⟨_, rfl, Nat.zero_le _, Ext.refl _, rowI_nil _ _ _ _⟩ ?_
 rintro k mk u w4 hkm ⟨out, hu, hkl, hx4, hr4⟩
 simp only [List.map_cons, List.map_nil, List.cons.injEq, and_true] at hu
 obtain ⟨hu1, hu2⟩ := hu
 rw [hu1, hu2]
 refine rd_lss ?_
 refine br (fun hlt => ?_) (fun hge => ?_)
 case refine_2 =>
   have hke : k = U.length := by omega
   rw [hke, List.take_length] at hr4
   exact ⟨hx13.trans hx4, hr4.own.own.mono (by omega)⟩
 have hk : k < U.length := by omega
 have hi := hUm U[k] (List.getElem_mem _)
 have hfs := flatMap_take (f := tchI c) hk
 have hlk := tchLk_len hc (U.take k) (by rw [List.length_take]; omega)
 refine rd_indexN u23 ty3 (i := k) ho3.is (by rw [ints_len]; exact hk) fun b5 o5 hA5 => ?_
 rw [ints_get] at hA5
 generalize U[k] = i at *
 refine rd_loadI ty3 hA5 hx4 fun _ => ?_
 have hxd := ext_drew w4
 have hx35 := hx4.trans hxd
 have hr5 := hr4.ext hxd
 have hsd := hxd.size
 generalize World.drew1 w4 = w5 at *
 have e5 := e0.trans (hx13.trans hx35)
 refine NIL.mk rfl ?_
 refine rd_fld fd144_0 ?_
 refine rd_load ty35 hW.wl.code e5 fun v21 h21 => ?_
 refine rd_indexN u23 ty3 (i := i) hMu (by rw [ints_len, mustN_len]; exact hi) fun b6 o6 hA6 => ?_
 rw [ints_nat0] at hA6
 refine rd_loadI ty3 hA6 hx35 fun _ => ?_
 have hm64 := nat0_lt (mustN_lt c) i
 refine (touchesIn_ok (a := (i : Int)) (held := (nat0 (mustN c) i : Nat)) h21 e5 hc (by omega) (by omega) (by unfold I64; omega)).mono ?_
 rintro v27 w6 ⟨hx6, ho6⟩
 refine ⟨hx6, ?_⟩
 have h12 : (tchI c i).length ≤ 12 := touchAt_len12 hc (i : Int) (nat0 (mustN c) i : Nat)
 have hs34 := hx4.size
 have hs56 := hx6.size
 refine op_appendI (m := tchI c i) u174 ty177 zc177 (hr5.ext hx6) (by omega) ho6.is (Ext.refl _) (by rw [maxLen_eq]; omega) (by omega) fun v28 w7 hc7 hr7 => ?_
 refine rd_inc (by omega) ?_
 refine ⟨mk - 1, by omega, k + 1, by omega, v28, rfl, by omega, (hx35.trans hx6).chgI hc7 (Nat.le_refl _), ?_⟩
 rw [hfs]; exact hr7
theorem l17All_ok {w W0 : World} {v0 : Value} {c : DCode} (h0 : Is W0 v0 c) (e0 : Ext W0 w) (hc : CodeR c) :
   CALL Tryz.prog 173 [v0] w fun v w' => Ext w w' ∧ Own w.heap.size w' v (tchL c) := by
 refine F173_call ?_
 unfold F173
 have hil := hc.f.ins
 refine op_box h0 e0 fun w1 hx1 hA => ?_
 refine op_build0I (α := DTouch) u174 ty177 fun a7 w2 hx2 hr2 => ?_
 refine rd_load ty35 hA hx2 fun v8 h8 => ?_
 refine (l15Must_ok h8 hx2 hc).mono ?_
 rintro v9 w3 ⟨hx3, ho3⟩
 have hx13 := hx2.trans hx3
 refine rd_load ty35 hA hx13 fun v10 h10 => ?_
 refine (l16All_ok h10 hx13 hc).mono ?_
 rintro _ w4 ⟨hx4, gw, rfl, hmet, hmay⟩
 have hx14 := hx13.trans hx4
 have hMu := ho3.is.ext hx4
 refine NIL.mk rfl ?_
 refine rd_fld fd74_1 ?_
 refine rd_load ty72 hmet (Ext.refl _) fun v14 hMe => ?_
 have hml : (metN c).length = c.ins.length := by unfold metN; rw [setB_len]
 have hs1 := hx1.size
 have hs14 := hx14.size
 refine loopC c.ins.length (fun k us w' => ∃ out, us = [out, .int .i64 (k : Int)] ∧ k ≤ c.ins.length ∧ Ext w4 w' ∧ RowI w4.heap.size w'.heap.size 177 w' out ((setL k (MetP c)).flatMap (tchI c))) 0 (Nat.zero_le _) ⟨_, rfl, Nat.zero_le _, Ext.refl _, rowI_zcap _ _ _ _ _⟩ ?_
 rintro i mk u w5 hkm ⟨out, hu, hkl, hx5, hr5⟩
 simp only [List.map_cons, List.map_nil, List.cons.injEq, and_true] at hu
 obtain ⟨hu1, hu2⟩ := hu
 rw [hu1, hu2]
 have hx15 := hx14.trans hx5
 refine rd_fld fd35_4 ?_
 refine rd_load ty33 (at_DCode_4 hA) hx15 fun v17 h17 => ?_
 refine rd_len u33 h17 ?_
 refine rd_lss ?_
 refine br (fun hlt => ?_) (fun hge => ?_)
 case refine_2 =>
   have hke : i = c.ins.length := by omega
   rw [hke] at hr5
   exact ⟨hx1.trans hx15, hr5.own.own.mono (by omega)⟩
 have hi : i < c.ins.length := by omega
 have hmk := mkd_get (ms := metN c) (i := i) (by rw [hml]; exact hi)
 have hiff : (metN c)[i] = true ↔ MetP c i := by
   rw [← hmk]; unfold metN; rw [mkd_setB]; exact ⟨fun h => h.2, fun h => ⟨hi, h⟩⟩
 refine rd_indexN u72 ty4 (i := i) hMe (by rw [hml]; exact hi) fun b6 o6 hA6 => ?_
 refine rd_loadB ty4 hA6 hx5 ?_
 refine br_b (fun ht => ?_) (fun hf => ?_)
 case refine_2 =>
   have hnm : ¬ MetP c i := fun h => by rw [hiff.2 h] at hf; cases hf
   refine rd_inc (by omega) ?_
   exact ⟨mk - 1, by omega, i + 1, by omega, out, rfl, by omega, hx5, by rw [setL_no hnm]; exact hr5⟩
 have hM := hiff.1 ht
 have hfs : (setL (i + 1) (MetP c)).flatMap (tchI c) = (setL i (MetP c)).flatMap (tchI c) ++ tchI c i := by
   rw [setL_yes hM, List.flatMap_append]; simp
 have hlk := tchLk_len hc (setL i (MetP c)) (by have := setL_len (n := i) (p := MetP c); omega)
 have hxd := ext_drew w5
 have hx46 := hx5.trans hxd
 have hr6 := hr5.ext hxd
 have hsd := hxd.size
 generalize World.drew1 w5 = w6 at *
 refine rd_load ty35 hA (hx14.trans hx46) fun v27 h27 => ?_
 refine rd_indexN u23 ty3 (i := i) hMu (by rw [ints_len, mustN_len]; exact hi) fun b7 o7 hA7 => ?_
 rw [ints_nat0] at hA7
 refine rd_loadI ty3 hA7 hx46 fun _ => ?_
 have hm64 := nat0_lt (mustN_lt c) i
 refine (l17At_ok (a := (i : Int)) (held := (nat0 (mustN c) i : Nat)) h27 (hx14.trans hx46) hc (by omega) (by omega) (by unfold I64; omega)).mono ?_
 rintro v33 w7 ⟨hx7, ho7⟩
 refine ⟨hx7, ?_⟩
 have h12 : (tchI c i).length ≤ 12 := touchAt_len12 hc (i : Int) (nat0 (mustN c) i : Nat)
 have hs45 := hx5.size
 have hs67 := hx7.size
 refine op_appendI (m := tchI c i) u174 ty177 zc177 (hr6.ext hx7) (by omega) ho7.is (Ext.refl _) (by rw [maxLen_eq]; omega) (by omega) fun v34 w8 hc8 hr8 => ?_
 refine rd_inc (by omega) ?_
 refine ⟨mk - 1, by omega, i + 1, by omega, v34, rfl, by omega, (hx46.trans hx7).chgI hc8 (Nat.le_refl _), ?_⟩
 rw [hfs]; exact hr8
end Go.Proofs.YtjgfldfbljmhhaaGreat
