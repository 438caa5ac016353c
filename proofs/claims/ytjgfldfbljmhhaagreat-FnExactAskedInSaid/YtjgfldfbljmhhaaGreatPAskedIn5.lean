/-
  Parts of the proof, put together by program.
-/
import Derived.Test.YtjgfldfbljmhhaaGreatPAskedIn4
namespace Go.Sh
set_option linter.unusedVariables false
open Rep (rep)
theorem ChgI.one {w w' : World} {g : Nat} (h : ChgI g (g + 1) w w') : Chg [g] w w' := ⟨h.os, h.tape, h.output, h.size, fun b hb hn => h.block b hb (by simp at hn; omega)⟩
theorem OwnI.chgF {α : Type} [Rep α] {w w' : World} {lo hi : Nat} {v : Value} {x : α} {F : List Nat} (h : OwnI lo hi w v x) (hc : Chg F w w') (hd : ∀ b ∈ F, b < lo ∨ hi ≤ b) : OwnI lo hi w' v x := by
  obtain ⟨G, hm, hG⟩ := h
  exact ⟨G, hm.keep fun b hb => hc.block b (hm.lt b hb) fun hF => by have := hG b hb; have := hd b hF; omega, hG⟩
theorem Blk.chgF {w w' : World} {g e : Nat} {cs : List Value} {F : List Nat} (h : Blk g e w cs) (hc : Chg F w w') (hd : g ∉ F) : Blk g e w' cs := h.keep (hc.block g h.lt hd)
theorem Ext.chgF {w0 w w' : World} {F : List Nat} (h : Ext w0 w) (hc : Chg F w w') (hd : ∀ b ∈ F, w0.heap.size ≤ b) : Ext w0 w' :=
  ⟨hc.os.trans h.os, hc.tape.trans h.tape, hc.output.trans h.output, Nat.le_trans h.size hc.size, fun b hb => (hc.block b (Nat.lt_of_lt_of_le hb h.size) fun hF => by have := hd b hF; omega).trans (h.block b hb)⟩
end Go.Sh
namespace Go.Proofs.YtjgfldfbljmhhaaGreat
open Go Go.Sh Go.Proofs
set_option linter.unusedVariables false
/-- (*impl.world).met$1 -/
def F136 (a0 a1 a2 : Value) (w : World) (R : Value → World → Prop) : Prop :=
  RD Tryz.prog (Instr.loadAt 72 a1) w fun x4 =>
  RD Tryz.prog (Instr.indexAt 72 x4 a0) w fun x6 =>
  RD Tryz.prog (Instr.loadAt 4 x6) w fun x7 =>
  RD Tryz.prog (Op.unary .not x7) w fun x8 =>
  BR x8
   (RD Tryz.prog (Instr.loadAt 72 a1) w fun x9 =>
   RD Tryz.prog (Instr.indexAt 72 x9 a0) w fun x11 =>
   OPU Tryz.prog (Instr.storeAt 4 x11 (Value.bool true)) w fun w =>
   OPU Tryz.prog (Instr.storeAt 4 a2 (Value.bool true)) w fun w =>
   R (Value.tuple #[]) w)
   (R (Value.tuple #[]) w)
def cfg136 : Cfg := { ext := extL, joins := [], loops := [], draws := [], pars := [] }
theorem F136_eq (a0 a1 a2 : Value) (w : World) (R : Value → World → Prop) : vcF Tryz.prog cfg136 Tryz.f136 [a0, a1, a2] w R = F136 a0 a1 a2 w R := by kernel_rfl
theorem F136_call {a0 a1 a2 : Value} {w : World} {R : Value → World → Prop} (h : F136 a0 a1 a2 w R) : CALL Tryz.prog 136 [a0, a1, a2] w R :=
  call_of (g := cfg136) ent mixed Tryz.func136 (Nat.le_of_ble_eq_true (by kernel_rfl)) (by kernel_rfl) (F136_eq a0 a1 a2 w R ▸ h)
/-- (*impl.world).met -/
def F68 (a0 : Value) (w : World) (R : Value → World → Prop) : Prop :=
  NIL a0 <|
  RD Tryz.prog (Instr.fieldAt 144 a0 0) w fun x14 =>
  RD Tryz.prog (Instr.fieldAt 35 x14 4) w fun x15 =>
  RD Tryz.prog (Instr.loadAt 33 x15) w fun x16 =>
  RD Tryz.prog (Builtin.len_ #[33] 3 [x16].toArray) w fun x17 =>
  OP Tryz.prog (Instr.makeSlice 72 x17 x17) w fun x18 w =>
  OP Tryz.prog (Instr.alloc 72 true (.tuple #[])) w fun x3 w =>
  OPU Tryz.prog (Instr.storeAt 72 x3 x18) w fun w =>
  NIL a0 <|
  RD Tryz.prog (Instr.fieldAt 144 a0 5) w fun x21 =>
  RD Tryz.prog (Instr.loadAt 3 x21) w fun x22 =>
  CALL Tryz.prog 97 [x22] w fun x23 w =>
  RD Tryz.prog (Builtin.len_ #[23] 3 [x23].toArray) w fun x24 =>
  LOOPI [25] [(Value.int .i64 0)] w fun u3 w next3 =>
   RD Tryz.prog (bin .lss 3 (.tmp 0) (.tmp 0) (u3 25) x24) w fun x26 =>
   BR x26
    (RD Tryz.prog (Instr.indexAt 23 x23 (u3 25)) w fun x27 =>
    RD Tryz.prog (Instr.loadAt 3 x27) w fun x28 =>
    (fun w => RD Tryz.prog (Instr.loadAt 72 x3) w fun x29 =>
    NIL a0 <|
    RD Tryz.prog (Instr.fieldAt 144 a0 0) w fun x32 =>
    RD Tryz.prog (Instr.fieldAt 35 x32 3) w fun x33 =>
    RD Tryz.prog (Instr.loadAt 23 x33) w fun x34 =>
    RD Tryz.prog (Instr.indexAt 23 x34 x28) w fun x36 =>
    RD Tryz.prog (Instr.loadAt 3 x36) w fun x37 =>
    RD Tryz.prog (Instr.indexAt 72 x29 x37) w fun x38 =>
    OPU Tryz.prog (Instr.storeAt 4 x38 (Value.bool true)) w fun w =>
    RD Tryz.prog (bin .add 3 (.tmp 0) (.const undef) (u3 25) (Value.int .i64 1)) w fun x39 =>
    next3 [x39] w) (World.drew1 w))
    (OP Tryz.prog (Instr.alloc 4 true (.tuple #[])) w fun x6 w =>
    OPU Tryz.prog (Instr.storeAt 4 x6 (Value.bool true)) w fun w =>
    LOOPI [6] [x6] w fun u8 w next8 =>
     RD Tryz.prog (Instr.loadAt 4 (u8 6)) w fun x40 =>
     BR x40
      (OPU Tryz.prog (Instr.storeAt 4 (u8 6) (Value.bool false)) w fun w =>
      RD Tryz.prog (Instr.makeFunc (Go.Fn.func 136) [].toArray [x3, (u8 6)].toArray) w fun x41 =>
      NIL a0 <|
      RD Tryz.prog (Instr.fieldAt 144 a0 0) w fun x44 =>
      RD Tryz.prog (Instr.fieldAt 35 x44 4) w fun x45 =>
      RD Tryz.prog (Instr.loadAt 33 x45) w fun x46 =>
      RD Tryz.prog (Builtin.len_ #[33] 3 [x46].toArray) w fun x47 =>
      LOOPI [48] [(Value.int .i64 0)] w fun u12 w next12 =>
       RD Tryz.prog (bin .lss 3 (.tmp 0) (.tmp 0) (u12 48) x47) w fun x49 =>
       BR x49
        (RD Tryz.prog (Instr.indexAt 33 x46 (u12 48)) w fun x51 =>
        RD Tryz.prog (Instr.loadAt 136 x51) w fun x52 =>
        OP Tryz.prog (Instr.alloc 136 true (.tuple #[])) w fun x9 w =>
        OPU Tryz.prog (Instr.storeAt 136 x9 x52) w fun w =>
        RD Tryz.prog (Instr.loadAt 72 x3) w fun x53 =>
        RD Tryz.prog (Instr.indexAt 72 x53 (u12 48)) w fun x55 =>
        RD Tryz.prog (Instr.loadAt 4 x55) w fun x56 =>
        RD Tryz.prog (Op.unary .not x56) w fun x57 =>
        BR x57
         (RD Tryz.prog (bin .add 3 (.tmp 0) (.const undef) (u12 48) (Value.int .i64 1)) w fun x96 =>
         next12 [x96] w)
         (JOIN [] (fun J18 =>
          RD Tryz.prog (Instr.fieldAt 136 x9 0) w fun x58 =>
          RD Tryz.prog (Instr.loadAt 3 x58) w fun x59 =>
          RD Tryz.prog (bin .eql 3 (.tmp 0) (.const undef) x59 (Value.int .i64 4)) w fun x60 =>
          BR x60
           ((fun w => NIL a0 <|
           RD Tryz.prog (Instr.fieldAt 144 a0 0) w fun x64 =>
           RD Tryz.prog (Instr.fieldAt 35 x64 3) w fun x65 =>
           RD Tryz.prog (Instr.loadAt 23 x65) w fun x66 =>
           RD Tryz.prog (Instr.fieldAt 136 x9 1) w fun x67 =>
           RD Tryz.prog (Instr.loadAt 3 x67) w fun x68 =>
           RD Tryz.prog (Instr.indexAt 23 x66 x68) w fun x69 =>
           RD Tryz.prog (Instr.loadAt 3 x69) w fun x70 =>
           OPN Tryz.prog (callV x41 [x70]) w fun x71 w =>
           (fun w => RD Tryz.prog (Instr.loadAt 72 x3) w fun x72 =>
           NIL a0 <|
           RD Tryz.prog (Instr.fieldAt 144 a0 0) w fun x75 =>
           RD Tryz.prog (Instr.loadAt 35 x75) w fun x76 =>
           RD Tryz.prog (Instr.fieldAt 136 x9 1) w fun x77 =>
           RD Tryz.prog (Instr.loadAt 3 x77) w fun x78 =>
           (fun w_ => CALL Tryz.prog 133 [x76, x78] w_ fun x79 w =>
           Ext w_ w ∧
           RD Tryz.prog (bin .sub 3 (.tmp 0) (.const undef) x79 (Value.int .i64 1)) w fun x80 =>
           RD Tryz.prog (Instr.indexAt 72 x72 x80) w fun x81 =>
           RD Tryz.prog (Instr.loadAt 4 x81) w fun x82 =>
           RD Tryz.prog (Op.unary .not x82) w fun x83 =>
           BR x83
            (RD Tryz.prog (bin .add 3 (.tmp 0) (.const undef) (u12 48) (Value.int .i64 1)) w fun x96 =>
            next12 [x96] w)
            (J18 [] w)) w) (World.drew1 w)) (World.drew1 w))
           (J18 [] w)) (fun u18 w =>
          CALL Tryz.prog 135 [a0, (u12 48)] w fun x86 w =>
          RD Tryz.prog (Builtin.len_ #[23] 3 [x86].toArray) w fun x87 =>
          LOOPI [88] [(Value.int .i64 0)] w fun u19 w next19 =>
           RD Tryz.prog (bin .lss 3 (.tmp 0) (.tmp 0) (u19 88) x87) w fun x89 =>
           BR x89
            (RD Tryz.prog (Instr.indexAt 23 x86 (u19 88)) w fun x90 =>
            RD Tryz.prog (Instr.loadAt 3 x90) w fun x91 =>
            OPN Tryz.prog (callV x41 [x91]) w fun x94 w =>
            RD Tryz.prog (bin .add 3 (.tmp 0) (.const undef) (u19 88) (Value.int .i64 1)) w fun x95 =>
            next19 [x95] w)
            (RD Tryz.prog (bin .add 3 (.tmp 0) (.const undef) (u12 48) (Value.int .i64 1)) w fun x96 =>
            next12 [x96] w))))
        (RD Tryz.prog (Instr.loadAt 4 (u8 6)) w fun x97 =>
        OP Tryz.prog (Instr.alloc 4 true (.tuple #[])) w fun x6 w =>
        OPU Tryz.prog (Instr.storeAt 4 x6 x97) w fun w =>
        next8 [x6] w))
      (RD Tryz.prog (Instr.loadAt 72 x3) w fun x98 =>
      R x98 w))
def cfg68 : Cfg := { ext := extL, joins := [(18, 19342812825603690643587072, [])], loops := [(3, 1099478073376, [25]), (8, 316912650057057349274664176576, [6]), (12, 158456325028528393712111192832, [48]), (19, 78918677504442992524819171328, [88])], draws := [(5, [0, 1, 2, 3, 4, 5, 6, 7, 8, 9, 10], 0), (16, [0, 1, 2, 3, 4, 5, 6, 7, 8, 9, 10], 0), (17, [0, 1, 2, 3, 4, 5, 6, 7, 8, 9, 10, 11], 128)], pars := [] }
theorem F68_eq (a0 : Value) (w : World) (R : Value → World → Prop) : vcF Tryz.prog cfg68 Tryz.f68 [a0] w R = F68 a0 w R := by kernel_rfl
theorem F68_call {a0 : Value} {w : World} {R : Value → World → Prop} (h : F68 a0 w R) : CALL Tryz.prog 68 [a0] w R :=
  call_of (g := cfg68) ent mixed Tryz.func68 (Nat.le_of_ble_eq_true (by kernel_rfl)) (by kernel_rfl) (F68_eq a0 w R ▸ h)
set_option linter.unusedVariables false
set_option linter.unusedSimpArgs false
open Rep (rep)
theorem opn_cl {P : Program} {f : Nat} {args caps : List Value} {w : World} {K : Value → World → Prop} (hE : enters P f = true) (h : CALL P f (args ++ caps) w K) : OPN P (callV (.func (.func f) #[] caps.toArray) args) w K := by
  obtain ⟨h⟩ := h
  refine .enter f (args ++ caps).toArray w ?_ h
  simp [callV, Deferred.ofValue, invoke, run_callFunc hE]
theorem entMet : enters Tryz.prog 136 = true := by kernel_rfl
theorem entMay : enters Tryz.prog 134 = true := by kernel_rfl
theorem zlBS : zeroL Tryz.prog 72 = some [.slice none 0 0] := by kernel_rfl
theorem zlIS : zeroL Tryz.prog 23 = some [.slice none 0 0] := by kernel_rfl
theorem ownI_raw {w : World} {lo hi : Nat} {u : Value} (h : u.oneCell' = true) : OwnI lo hi w u (⟨u⟩ : Raw) := ⟨[], ⟨⟨[u], ⟨rfl, rfl, h⟩, rfl⟩, List.nodup_nil, Wr.nil _⟩, by simp⟩
/-- a variable of one cell -/
theorem op_cell {t by_ : Nat} {z u : Value} {w : World} {K : Value → World → Prop} (hz : zeroL Tryz.prog t = some [z]) (ht : tyI Tryz.prog t = some (1, by_, false)) (hu : u.oneCell' = true) (k : ∀ w', Ext w w' → Blk w.heap.size t w' [u] → K (.pointer (some ⟨w.heap.size, 0, none⟩)) w') :
    OP Tryz.prog (Instr.alloc t true (.tuple #[])) w fun p w1 => OPU Tryz.prog (Instr.storeAt t p u) w1 fun w2 => K p w2 := by
  refine op_alloc hz fun w1 hx1 hB1 => ?_
  refine opu_blkC (α := Raw) (lo := 0) (hi := 0) ht rfl rfl hB1 (by simp) (ownI_raw hu) fun w2 hc2 hB2 => ?_
  exact k w2 (hx1.chgI hc2 (Nat.le_refl _)) hB2
/-- the program's marks, found by a closure -/
structure MW (w1 w : World) (gv g ga n : Nat) (ms : List Bool) (ag : Bool) : Prop where
  ext : Ext w1 w
  var : Blk gv 72 w [.slice (some ⟨g, 0, none⟩) n n]
  mks : Mine [g] w (.slice (some ⟨g, 0, none⟩) n n) ms
  agn : Blk ga 4 w [.bool ag]
  n1 : gv ≠ g
  n2 : gv ≠ ga
  n3 : g ≠ ga
  g0 : w1.heap.size ≤ g
  g1 : w1.heap.size ≤ gv
  g2 : w1.heap.size ≤ ga
section
variable {w1 w w' : World} {gv g ga n : Nat} {ms : List Bool} {ag : Bool}
theorem MW.step (h : MW w1 w gv g ga n ms ag) (hx : Ext w w') : MW w1 w' gv g ga n ms ag := ⟨h.ext.trans hx, h.var.ext hx, h.mks.ext hx, h.agn.ext hx, h.n1, h.n2, h.n3, h.g0, h.g1, h.g2⟩
theorem MW.mark {ms' : List Bool} (h : MW w1 w gv g ga n ms ag) (hc : Chg [g] w w') (hm : Mine [g] w' (.slice (some ⟨g, 0, none⟩) n n) ms') : MW w1 w' gv g ga n ms' ag :=
  ⟨h.ext.chgF hc (by simp [h.g0]), h.var.chgF hc (by simp [h.n1]), hm, h.agn.chgF hc (by simp [Ne.symm h.n3]), h.n1, h.n2, h.n3, h.g0, h.g1, h.g2⟩
theorem MW.agains {ag' : Bool} (h : MW w1 w gv g ga n ms ag) (hc : Chg [ga] w w') (hB : Blk ga 4 w' [.bool ag']) : MW w1 w' gv g ga n ms ag' :=
  ⟨h.ext.chgF hc (by simp [h.g2]), h.var.chgF hc (by simp [h.n2]), h.mks.keep fun b hb => by
    simp only [List.mem_cons, List.not_mem_nil, or_false] at hb; subst hb
    exact hc.block b (h.mks.lt b (by simp)) (by simp [h.n3]), hB, h.n1, h.n2, h.n3, h.g0, h.g1, h.g2⟩
theorem MW.cell {ga' : Nat} {ag' : Bool} (h : MW w1 w gv g ga n ms ag) (hx : Ext w w') (hB : Blk ga' 4 w' [.bool ag']) (hg : w.heap.size ≤ ga') : MW w1 w' gv g ga' n ms ag' :=
  ⟨h.ext.trans hx, h.var.ext hx, h.mks.ext hx, hB, h.n1, by have := h.var.lt; omega, by have := h.mks.lt g (by simp); omega, h.g0, h.g1, by have := h.ext.size; omega⟩
theorem met1_ok {i : Nat} (h : MW w1 w gv g ga n ms ag) (hi : i < n) (hl : ms.length = n) :
    CALL Tryz.prog 136 [.int .i64 (i : Int), .pointer (some ⟨gv, 0, none⟩), .pointer (some ⟨ga, 0, none⟩)] w fun r w' => r = .tuple #[] ∧ MW w1 w' gv g ga n (ms.set i true) (newB ms i ag) ∧ Chg [g, ga] w w' := by
  refine F136_call ?_
  unfold F136
  refine rd_blkV ty72 h.var rfl ?_
  refine rd_indexN u72 ty4 h.mks.is (by rw [hl]; exact hi) fun b1 o1 hA1 => ?_
  refine rd_loadB ty4 hA1 (Ext.refl _) ?_
  have hmk := mkd_get (ms := ms) (i := i) (by rw [hl]; exact hi)
  refine rd_not ?_
  refine br_b (fun hf => ?_) (fun hf => ?_)
  · have hn : ¬ mkd ms i := by rw [hmk]; simpa using hf
    rw [newB_new hn]
    refine rd_blkV ty72 h.var rfl ?_
    refine rd_elt (α := Bool) rfl u72 ty4 hi ?_
    refine opu_elt (α := Bool) rfl ty4 h.mks hl hi mine_boolT fun w2 hc2 hm2 => ?_
    have h2 := h.mark hc2 hm2
    refine opu_blkC (α := Raw) (lo := 0) (hi := 0) ty4 rfl rfl h2.agn (by simp) (ownI_raw rfl) fun w3 hc3 hB3 => ?_
    exact ⟨rfl, h2.agains hc3.one hB3, (hc2.mono (by simp)).trans (hc3.one.mono (by simp))⟩
  · have hy : mkd ms i := by rw [hmk]; simpa using hf
    rw [newB_old hy, set_mkd hy]
    exact ⟨rfl, h, Chg.refl _ _⟩
end
theorem met_ok {w W0 : World} {b : Nat} {c : DCode} (hW : WAt W0 b c) (e0 : Ext W0 w) (hc : CodeR c) :
    CALL Tryz.prog 68 [.pointer (some ⟨b, 0, none⟩)] w fun r w' => Ext w w' ∧ Own w.heap.size w' r (metN c) := by
  refine F68_call ?_
  unfold F68
  have h8 := hc.1.procs8
  have hil := hc.f.ins
  have hcode := hW.wl.code
  refine NIL.mk rfl ?_
  refine rd_fld fd144_0 ?_
  refine rd_fld fd35_4 ?_
  refine rd_load ty33 (at_DCode_4 hcode) e0 fun v16 h16 => ?_
  refine rd_len u33 h16 ?_
  have hz0 := (zN_end hc h8.2).2.2
  have hn : c.ins.length = c.ins.length := rfl
  generalize hnn : c.ins.length = n at hn
  rw [hnn] at hil
  refine op_makeB (by omega) (by omega) fun w1 hx1 hM1 => ?_
  have hs1 := hx1.size
  have hg1 := hM1.lt _ (List.mem_singleton.2 rfl)
  generalize hg : w.heap.size = g at *
  refine op_cell zlBS ty72 rfl fun w2 hx2 hB2 => ?_
  have hs2 := hx2.size
  have hM2 := hM1.ext hx2
  generalize hgv : w1.heap.size = gv at *
  refine NIL.mk rfl ?_
  refine rd_fld fd144_5 ?_
  refine rd_loadI ty3 hW.roots (e0.trans (hx1.trans hx2)) fun _ => ?_
  have hrs : rootsN c < 256 := setN_small h8.1
  refine (bitsOf_ok (m := rootsN c) (by omega)).mono ?_
  rintro v23 w3 ⟨hx3, ho3⟩
  unfold rootsN at ho3
  rw [bitsL_setN (by omega)] at ho3
  have hL : ∀ p, p ∈ setL c.procs.length (RootP c) ↔ RootP c p := fun p => by rw [mem_setL]; exact ⟨fun h => h.2, fun h => ⟨h.lt hc, h⟩⟩
  have hLl : (setL c.procs.length (RootP c)).length ≤ 8 := Nat.le_trans setL_len h8.1
  generalize setL c.procs.length (RootP c) = L at *
  have hs3 := hx3.size
  have hgv2 := hB2.lt
  refine rd_len u23 ho3.is ?_
  rw [ints_len]
  refine loopC L.length (fun k us w' => ∃ ms, us = [.int .i64 (k : Int)] ∧ k ≤ L.length ∧ Ext w w' ∧ Blk gv 72 w' [.slice (some ⟨g, 0, none⟩) n n] ∧ Mine [g] w' (.slice (some ⟨g, 0, none⟩) n n) ms ∧ OwnI w2.heap.size w3.heap.size w' v23 (ints L) ∧ ms.length = n ∧ (∀ i, mkd ms i → MetP c i) ∧ ∀ p ∈ L.take k, mkd ms (eN c p)) 0 (Nat.zero_le _) ⟨_, rfl, Nat.zero_le _, hx1.trans (hx2.trans hx3), hB2.ext hx3, hM2.ext hx3, ho3.toI, by simp, fun i h => absurd h mkd_replicate, by simp⟩ ?_
  rintro k mk u w4 hkm ⟨ms, hu, hkl, hx4, hB4, hM4, hO4, hl4, hsn4, hrt4⟩
  simp only [List.map_cons, List.map_nil, List.cons.injEq, and_true] at hu
  rw [hu]
  refine rd_lss ?_
  refine br (fun hlt => ?_) (fun hge => ?_)
  · have hk : k < L.length := by omega
    refine rd_indexN u23 ty3 (i := k) hO4.is (by rw [ints_len]; exact hk) fun b2 o2 hA2 => ?_
    rw [ints_get] at hA2
    refine rd_loadI ty3 hA2 (Ext.refl _) fun _ => ?_
    have htk := fun x => mem_take_iff hk (x := x)
    have hrp := (hL L[k]).1 (List.getElem_mem hk)
    generalize L[k] = p at *
    have hpe : p < c.entry.length := by rw [hc.2.1.1]; exact hrp.lt hc
    obtain ⟨he1, he2, _⟩ := eN_eq hc hpe
    have hxd := ext_drew w4
    have hx5 := hx4.trans hxd
    have hB5 := hB4.ext hxd
    have hM5 := hM4.ext hxd
    have hO5 := hO4.ext hxd
    generalize World.drew1 w4 = w5 at *
    refine rd_blkV ty72 hB5 rfl ?_
    refine NIL.mk rfl ?_
    refine rd_fld fd144_0 ?_
    refine rd_fld fd35_3 ?_
    refine rd_load ty23 (at_DCode_3 hcode) (e0.trans hx5) fun v34 h34 => ?_
    refine rd_indexN u23 ty3 h34 hpe fun b5 o5 hA5 => ?_
    rw [en_get hpe, he1] at hA5
    refine rd_loadI ty3 hA5 (e0.trans hx5) fun _ => ?_
    refine rd_elt (α := Bool) rfl u72 ty4 (by omega) ?_
    refine opu_elt (α := Bool) rfl ty4 hM5 hl4 (by omega) mine_boolT fun w6 hc6 hm6 => ?_
    refine rd_inc (by omega) ?_
    refine ⟨mk - 1, by omega, k + 1, by omega, _, rfl, by omega, hx5.chgF hc6 (by simp [hg]), hB5.chgF hc6 (by simp; omega), hm6, hO5.chgF hc6 (by simp; omega), by simp [hl4], fun i hi => ?_, fun q hq => ?_⟩
    · rcases (mkd_set (by rw [hl4]; omega)).1 hi with h | h
      · exact hsn4 i h
      · rw [h]; exact .root hrp
    · rcases (htk q).1 hq with h | h
      · exact mkd_mono (hrt4 q h)
      · rw [h]; exact (mkd_set (by rw [hl4]; omega)).2 (.inr rfl)
  have hrt : ∀ p, RootP c p → mkd ms (eN c p) := fun p hp => hrt4 p (by rw [List.take_of_length_le (by omega)]; exact (hL p).2 hp)
  have hT : TP c ms false ms 0 := ⟨by rw [hl4, hnn], hsn4, hrt, fun e => (by cases e), fun _ => ⟨rfl, fun i hi => by omega⟩⟩
  clear hu hkm hO4 ho3
  refine op_cell zlBf ty4 rfl fun w5 hx5 hB5 => ?_
  have hs4 := hx4.size
  have hMW : MW w w5 gv g w4.heap.size n ms true := ⟨hx4.trans hx5, hB4.ext hx5, hM4.ext hx5, hB5, by omega, by have := hB4.lt; omega, by have := hM4.lt g (by simp); omega, by omega, by omega, by omega⟩
  generalize w4.heap.size = ga at *
  refine LOOPI.mk (fun m us w' => ∃ (ga : Nat) (ms : List Bool) (ag : Bool), us = [.pointer (some ⟨ga, 0, none⟩)] ∧ m = (n - cntM ms) + (if ag then 1 else 0) ∧ MW w w' gv g ga n ms ag ∧ TP c ms false ms 0 ∧ (ag = false → ms = metN c)) (n - cntM ms + 1) ⟨ga, ms, true, rfl, rfl, hMW, hT, fun e => by cases e⟩ ?_
  rintro m u w6 ⟨ga, ms, ag, hu, hm, hW6, hT6, hend⟩
  simp only [List.map_cons, List.map_nil, List.cons.injEq, and_true] at hu
  rw [hu]
  have hcn := cntM_le ms
  rw [hT6.len, hnn] at hcn
  refine rd_blkV ty4 hW6.agn rfl ?_
  refine br_b (fun hag => ?_) (fun hag => ?_)
  case refine_2 =>
    refine rd_blkV ty72 hW6.var rfl ?_
    rw [← hend hag]
    exact ⟨hW6.ext, [g], hW6.mks, fun b hb => by simp only [List.mem_cons, List.not_mem_nil, or_false] at hb; omega⟩
  rw [hag, if_pos rfl] at hm
  refine opu_blkC (α := Raw) (lo := 0) (hi := 0) ty4 rfl rfl hW6.agn (by simp) (ownI_raw rfl) fun w7 hc7 hB7 => ?_
  have hW7 := hW6.agains hc7.one hB7
  refine rd_of (v := .func (.func 136) #[] #[.pointer (some ⟨gv, 0, none⟩), .pointer (some ⟨ga, 0, none⟩)]) (fun w' _ => by simp [Instr.makeFunc]) ?_
  refine NIL.mk rfl ?_
  refine rd_fld fd144_0 ?_
  refine rd_fld fd35_4 ?_
  refine rd_load ty33 (at_DCode_4 hcode) (e0.trans hW7.ext) fun v46 h46 => ?_
  refine rd_len u33 h46 ?_
  rw [hnn]
  refine loopC n (fun k us w' => ∃ (ms' : List Bool) (ag' : Bool), us = [.int .i64 (k : Int)] ∧ k ≤ n ∧ MW w w' gv g ga n ms' ag' ∧ TP c ms ag' ms' k) 0 (Nat.zero_le _) ⟨ms, false, rfl, Nat.zero_le _, hW7, hT6⟩ ?_
  rintro k mk u w8 hkm ⟨ms8, ag8, hu, hkl, hW8, hT8⟩
  simp only [List.map_cons, List.map_nil, List.cons.injEq, and_true] at hu
  rw [hu]
  refine rd_lss ?_
  refine br (fun hlt => ?_) (fun hge => ?_)
  case refine_2 =>
    have hke : k = n := by omega
    rw [hke] at hT8
    refine rd_blkV ty4 hW8.agn rfl ?_
    refine op_cell zlBf ty4 rfl fun w9 hx9 hB9 => ?_
    have hcn8 := cntM_le ms8
    rw [hT8.len, hnn] at hcn8
    refine ⟨(n - cntM ms8) + (if ag8 then 1 else 0), ?_, _, ms8, ag8, rfl, rfl, hW8.cell hx9 hB9 (Nat.le_refl _), hT8.again, fun e => ?_⟩
    · cases ag8 with
      | true => have := hT8.yes rfl; simp; omega
      | false => rw [(hT8.no rfl).1]; simp; omega
    · rw [e, ← hnn] at hT8
      exact hT8.fin hc
  have hk : k < n := by omega
  have hkn : k < c.ins.length := by omega
  have hl8 : ms8.length = n := by rw [hT8.len, hnn]
  refine rd_indexN u33 ty136 h46 hkn fun b3 o3 hA3 => ?_
  rw [insAt_get] at hA3
  refine rd_load ty136 hA3 (e0.trans hW8.ext) fun v52 h52 => ?_
  refine op_var zl136 rfl ty136 rfl h52 (e0.trans hW8.ext) fun w9 hx9 hAI hV9 => ?_
  have hW9 := hW8.step hx9
  have hAB9 := atB_box h52 hV9 rfl
  refine rd_blkV ty72 hW9.var rfl ?_
  refine rd_indexN u72 ty4 (i := k) hW9.mks.is (by rw [hl8]; exact hk) fun b4 o4 hA4 => ?_
  refine rd_loadB ty4 hA4 (Ext.refl _) ?_
  refine rd_not ?_
  have hmk8 := mkd_get (ms := ms8) (i := k) (by rw [hl8]; exact hk)
  refine br_b (fun hf => ?_) (fun hf => ?_)
  · have hnm : ¬ mkd ms8 k := by rw [hmk8]; simpa using hf
    refine rd_inc (by omega) ?_
    exact ⟨mk - 1, by omega, k + 1, by omega, ms8, ag8, rfl, by omega, hW9, hT8.next fun h => absurd h hnm⟩
  have hym : mkd ms8 k := by rw [hmk8]; simpa using hf
  have hMk := hT8.snd k hym
  refine JOIN.mk (fun us w' => ∃ (ms' : List Bool) (ag' : Bool), MW w w' gv g ga n ms' ag' ∧ TP c ms ag' ms' k ∧ ((insAt c k).op = 4 → mkd ms' (eN c (agN c k))) ∧ ∀ j ∈ nextN c k, MetP c j) ?_ ?_
  · refine rd_fld fd136_0 ?_
    refine rd_loadI ty3 (at_DIns_0 hAI) (Ext.refl _) fun _ => ?_
    refine rd_eql ?_
    refine br (fun c4 => ?_) (fun c4 => ?_)
    · obtain ⟨ha1, ha2⟩ := ag_proc hc hkn (.inl c4)
      have hpe : agN c k < c.entry.length := by rw [hc.2.1.1]; exact ha2
      obtain ⟨he1, he2, _⟩ := eN_eq hc hpe
      obtain ⟨hz1, hz2, hz3⟩ := zN_end hc ha2
      have hxd := ext_drew w9
      have hW10 := hW9.step hxd
      generalize World.drew1 w9 = w10 at *
      refine NIL.mk rfl ?_
      refine rd_fld fd144_0 ?_
      refine rd_fld fd35_3 ?_
      refine rd_load ty23 (at_DCode_3 hcode) (e0.trans hW10.ext) fun v66 h66 => ?_
      refine rd_fld fd136_1 ?_
      refine rd_loadI ty3 (at_DIns_1 hAI) hxd fun _ => ?_
      rw [ha1]
      refine rd_indexN u23 ty3 h66 hpe fun b5 o5 hA5 => ?_
      rw [en_get hpe, he1] at hA5
      refine rd_loadI ty3 hA5 (e0.trans hW10.ext) fun _ => ?_
      refine opn_cl (args := [_]) (caps := [_, _]) entMet ((met1_ok (i := eN c (agN c k)) hW10 (by omega) hl8).mono ?_)
      rintro _ w11 ⟨rfl, hW11, hc11⟩
      have hT11 := hT8.meet he2 (.call hMk c4)
      have hme : mkd (ms8.set (eN c (agN c k)) true) (eN c (agN c k)) := (mkd_set (by rw [hl8]; omega)).2 (.inr rfl)
      have hx12 := ext_drew w11
      have hW12 := hW11.step hx12
      have hgI : w8.heap.size < w10.heap.size := by have := hV9.lt; have := hxd.size; omega
      have hne : w8.heap.size ∉ [g, ga] := by have h1 := hW8.mks.lt g (by simp); have h2 := hW8.agn.lt; simp; omega
      have hAI11 := (hAB9.ext hxd).keep (hc11.block _ hgI hne)
      have hAI12 := (hAI11.ext hx12).at (e0.trans hW12.ext)
      generalize World.drew1 w11 = w12 at *
      refine rd_blkV ty72 hW12.var rfl ?_
      refine NIL.mk rfl ?_
      refine rd_fld fd144_0 ?_
      refine rd_load ty35 hcode (e0.trans hW12.ext) fun v76 h76 => ?_
      refine rd_fld fd136_1 ?_
      refine rd_loadI ty3 (at_DIns_1 hAI12) (Ext.refl _) fun _ => ?_
      rw [ha1]
      refine (endOfProc_ok h76 (e0.trans hW12.ext) (by omega)).mono ?_
      rintro _ w13 ⟨hx13, rfl⟩
      refine ⟨hx13, ?_⟩
      have hW13 := hW12.step hx13
      rw [hz1]
      refine rd_sub (by unfold I64; omega) ?_
      rw [show ((zN c (agN c k) + 1 : Nat) : Int) - 1 = (zN c (agN c k) : Int) by omega]
      have hl13 : (ms8.set (eN c (agN c k)) true).length = n := by rw [List.length_set, hl8]
      generalize ms8.set (eN c (agN c k)) true = ms13 at *
      refine rd_indexN u72 ty4 (i := zN c (agN c k)) hW13.mks.is (by rw [hl13]; omega) fun b6 o6 hA6 => ?_
      refine rd_loadB ty4 hA6 (Ext.refl _) ?_
      refine rd_not ?_
      have hmk13 := mkd_get (ms := ms13) (i := zN c (agN c k)) (by rw [hl13]; omega)
      refine br_b (fun hf13 => ?_) (fun hf13 => ?_)
      · have hnm : ¬ mkd ms13 (zN c (agN c k)) := by rw [hmk13]; simpa using hf13
        refine rd_inc (by omega) ?_
        exact ⟨mk - 1, by omega, k + 1, by omega, ms13, _, rfl, by omega, hW13, hT11.next fun _ => ⟨fun _ => ⟨hme, fun h => absurd h hnm⟩, fun h => absurd c4 h⟩⟩
      · have hyz : mkd ms13 (zN c (agN c k)) := by rw [hmk13]; simpa using hf13
        exact ⟨ms13, _, hW13, hT11, fun _ => hme, fun j hj => .back hMk c4 (hT11.snd _ hyz) hj⟩
    · exact ⟨ms8, ag8, hW9, hT8, fun h => absurd h c4, fun j hj => .next hMk c4 hj⟩
  rintro us w14 ⟨ms14, ag14, hW14, hT14, hc14, hnx⟩
  refine (nextIn_ok hcode (e0.trans hW14.ext) hc hkn).mono ?_
  rintro v86 w15 ⟨hx15, ho15⟩
  have hW15 := hW14.step hx15
  have hl2 := nextN_len c k
  have hnl := fun {j : Nat} (hj : j ∈ nextN c k) => (nextN_lt hc hkn hj).1
  generalize hNx : nextN c k = N at *
  refine rd_len u23 ho15.is ?_
  rw [ints_len]
  refine loopC N.length (fun q us w' => ∃ (ms' : List Bool) (ag' : Bool), us = [.int .i64 (q : Int)] ∧ q ≤ N.length ∧ MW w w' gv g ga n ms' ag' ∧ TP c ms ag' ms' k ∧ ((insAt c k).op = 4 → mkd ms' (eN c (agN c k))) ∧ (∀ j ∈ N.take q, mkd ms' j) ∧ OwnI w14.heap.size w15.heap.size w' v86 (ints N)) 0 (Nat.zero_le _) ⟨ms14, ag14, rfl, Nat.zero_le _, hW15, hT14, hc14, by simp, ho15.toI⟩ ?_
  rintro q mq u w16 hqm ⟨ms16, ag16, hu, hql, hW16, hT16, hc16, hq16, hO16⟩
  simp only [List.map_cons, List.map_nil, List.cons.injEq, and_true] at hu
  rw [hu]
  refine rd_lss ?_
  refine br (fun hlt => ?_) (fun hge => ?_)
  case refine_2 =>
    refine rd_inc (by omega) ?_
    rw [List.take_of_length_le (by omega)] at hq16
    exact ⟨mk - 1, by omega, k + 1, by omega, ms16, ag16, rfl, by omega, hW16, hT16.next fun _ => ⟨fun h4 => ⟨hc16 h4, fun _ => hNx ▸ hq16⟩, fun _ => hNx ▸ hq16⟩⟩
  have hq : q < N.length := by omega
  refine rd_indexN u23 ty3 (i := q) hO16.is (by rw [ints_len]; exact hq) fun b7 o7 hA7 => ?_
  rw [ints_get] at hA7
  refine rd_loadI ty3 hA7 (Ext.refl _) fun _ => ?_
  have htq := fun x => mem_take_iff hq (x := x)
  have hj := List.getElem_mem hq
  have hjl := hnl hj
  have hjm := hnx _ hj
  generalize N[q] = j at *
  have hl16 : ms16.length = n := by rw [hT16.len, hnn]
  refine opn_cl (args := [_]) (caps := [_, _]) entMet ((met1_ok (i := j) hW16 (by omega) hl16).mono ?_)
  rintro _ w17 ⟨rfl, hW17, hc17⟩
  refine rd_inc (by omega) ?_
  have hg14 := hW14.mks.lt g (by simp)
  have hga14 := hW14.agn.lt
  refine ⟨mq - 1, by omega, q + 1, by omega, _, _, rfl, by omega, hW17, hT16.meet hjl hjm, fun h4 => mkd_mono (hc16 h4), fun i hi => ?_, hO16.chgF hc17 (by simp; omega)⟩
  rcases (htq i).1 hi with h | h
  · exact mkd_mono (hq16 i h)
  · rw [h]; exact (mkd_set (by rw [hl16]; omega)).2 (.inr rfl)
end Go.Proofs.YtjgfldfbljmhhaaGreat
namespace Go.Proofs.YtjgfldfbljmhhaaGreat
open Go Go.Sh Go.Proofs
set_option linter.unusedVariables false
/-- (*impl.world).may$1 -/
def F134 (a0 a1 a2 a3 a4 : Value) (w : World) (R : Value → World → Prop) : Prop :=
  RD Tryz.prog (Instr.loadAt 72 a2) w fun x7 =>
  RD Tryz.prog (Instr.indexAt 72 x7 a0) w fun x9 =>
  RD Tryz.prog (Instr.loadAt 4 x9) w fun x10 =>
  BR x10
  (RD Tryz.prog (Instr.loadAt 23 a3) w fun x13 =>
  RD Tryz.prog (Instr.indexAt 23 x13 a0) w fun x15 =>
  RD Tryz.prog (Instr.loadAt 3 x15) w fun x16 =>
  RD Tryz.prog (bin .andNot 3 (.tmp 0) (.tmp 0) a1 x16) w fun x17 =>
  RD Tryz.prog (bin .neq 3 (.tmp 0) (.const undef) x17 (Value.int .i64 0)) w fun x18 =>
  BR x18
   (RD Tryz.prog (Instr.loadAt 23 a3) w fun x20 =>
   RD Tryz.prog (Instr.indexAt 23 x20 a0) w fun x22 =>
   RD Tryz.prog (Instr.loadAt 3 x22) w fun x23 =>
   RD Tryz.prog (bin .or 3 (.tmp 0) (.tmp 0) x23 a1) w fun x25 =>
   RD Tryz.prog (Instr.indexAt 23 x20 a0) w fun x26 =>
   OPU Tryz.prog (Instr.storeAt 3 x26 x25) w fun w =>
   OPU Tryz.prog (Instr.storeAt 4 a4 (Value.bool true)) w fun w =>
   R (Value.tuple #[]) w)
   (R (Value.tuple #[]) w))
  (R (Value.tuple #[]) w)
def cfg134 : Cfg := { ext := extL, joins := [], loops := [], draws := [], pars := [] }
theorem F134_eq (a0 a1 a2 a3 a4 : Value) (w : World) (R : Value → World → Prop) : vcF Tryz.prog cfg134 Tryz.f134 [a0, a1, a2, a3, a4] w R = F134 a0 a1 a2 a3 a4 w R := by kernel_rfl
theorem F134_call {a0 a1 a2 a3 a4 : Value} {w : World} {R : Value → World → Prop} (h : F134 a0 a1 a2 a3 a4 w R) : CALL Tryz.prog 134 [a0, a1, a2, a3, a4] w R :=
  call_of (g := cfg134) ent mixed Tryz.func134 (Nat.le_of_ble_eq_true (by kernel_rfl)) (by kernel_rfl) (F134_eq a0 a1 a2 a3 a4 w R ▸ h)
/-- (*impl.world).may -/
def F67 (a0 a1 : Value) (w : World) (R : Value → World → Prop) : Prop :=
  OP Tryz.prog (Instr.box 72 a1) w fun x3 w =>
  NIL a0 <|
  RD Tryz.prog (Instr.fieldAt 144 a0 0) w fun x15 =>
  RD Tryz.prog (Instr.fieldAt 35 x15 4) w fun x16 =>
  RD Tryz.prog (Instr.loadAt 33 x16) w fun x17 =>
  RD Tryz.prog (Builtin.len_ #[33] 3 [x17].toArray) w fun x18 =>
  OP Tryz.prog (Instr.makeSlice 23 x18 x18) w fun x19 w =>
  OP Tryz.prog (Instr.alloc 23 true (.tuple #[])) w fun x5 w =>
  OPU Tryz.prog (Instr.storeAt 23 x5 x19) w fun w =>
  OP Tryz.prog (Instr.alloc 4 true (.tuple #[])) w fun x6 w =>
  OPU Tryz.prog (Instr.storeAt 4 x6 (Value.bool true)) w fun w =>
  LOOPI [6] [x6] w fun u3 w next3 =>
   RD Tryz.prog (Instr.loadAt 4 (u3 6)) w fun x20 =>
   BR x20
    (OPU Tryz.prog (Instr.storeAt 4 (u3 6) (Value.bool false)) w fun w =>
    RD Tryz.prog (Instr.makeFunc (Go.Fn.func 134) [].toArray [x3, x5, (u3 6)].toArray) w fun x21 =>
    NIL a0 <|
    RD Tryz.prog (Instr.fieldAt 144 a0 0) w fun x24 =>
    RD Tryz.prog (Instr.fieldAt 35 x24 4) w fun x25 =>
    RD Tryz.prog (Instr.loadAt 33 x25) w fun x26 =>
    RD Tryz.prog (Builtin.len_ #[33] 3 [x26].toArray) w fun x27 =>
    LOOPI [28] [(Value.int .i64 0)] w fun u7 w next7 =>
     RD Tryz.prog (bin .lss 3 (.tmp 0) (.tmp 0) (u7 28) x27) w fun x29 =>
     BR x29
      (RD Tryz.prog (Instr.indexAt 33 x26 (u7 28)) w fun x31 =>
      RD Tryz.prog (Instr.loadAt 136 x31) w fun x32 =>
      OP Tryz.prog (Instr.alloc 136 true (.tuple #[])) w fun x9 w =>
      OPU Tryz.prog (Instr.storeAt 136 x9 x32) w fun w =>
      RD Tryz.prog (Instr.loadAt 72 x3) w fun x33 =>
      RD Tryz.prog (Instr.indexAt 72 x33 (u7 28)) w fun x35 =>
      RD Tryz.prog (Instr.loadAt 4 x35) w fun x36 =>
      RD Tryz.prog (Op.unary .not x36) w fun x37 =>
      BR x37
       (RD Tryz.prog (bin .add 3 (.tmp 0) (.const undef) (u7 28) (Value.int .i64 1)) w fun x98 =>
       next7 [x98] w)
       (RD Tryz.prog (Instr.loadAt 23 x5) w fun x38 =>
       RD Tryz.prog (Instr.indexAt 23 x38 (u7 28)) w fun x40 =>
       RD Tryz.prog (Instr.loadAt 3 x40) w fun x41 =>
       JOIN [10] (fun J19 =>
        RD Tryz.prog (Instr.fieldAt 136 x9 0) w fun x42 =>
        RD Tryz.prog (Instr.loadAt 3 x42) w fun x43 =>
        RD Tryz.prog (bin .eql 3 (.tmp 0) (.const undef) x43 (Value.int .i64 6)) w fun x45 =>
        BR x45
         (RD Tryz.prog (Instr.fieldAt 136 x9 1) w fun x47 =>
         RD Tryz.prog (Instr.loadAt 3 x47) w fun x48 =>
         RD Tryz.prog (convert 3 77 x48) w fun x49 =>
         RD Tryz.prog (bin .shl 3 (.const undef) (.tmp 0) (Value.int .i64 1) x49) w fun x50 =>
         RD Tryz.prog (bin .or 3 (.tmp 0) (.tmp 0) x41 x50) w fun x51 =>
         J19 [x51] w)
         (RD Tryz.prog (bin .eql 3 (.tmp 0) (.const undef) x43 (Value.int .i64 7)) w fun x53 =>
         BR x53
          (RD Tryz.prog (Instr.fieldAt 136 x9 1) w fun x55 =>
          RD Tryz.prog (Instr.loadAt 3 x55) w fun x56 =>
          RD Tryz.prog (convert 3 77 x56) w fun x57 =>
          RD Tryz.prog (bin .shl 3 (.const undef) (.tmp 0) (Value.int .i64 1) x57) w fun x58 =>
          RD Tryz.prog (bin .andNot 3 (.tmp 0) (.tmp 0) x41 x58) w fun x59 =>
          J19 [x59] w)
          (RD Tryz.prog (bin .eql 3 (.tmp 0) (.const undef) x43 (Value.int .i64 4)) w fun x61 =>
          BR x61
           ((fun w => NIL a0 <|
           RD Tryz.prog (Instr.fieldAt 144 a0 0) w fun x65 =>
           RD Tryz.prog (Instr.fieldAt 35 x65 3) w fun x66 =>
           RD Tryz.prog (Instr.loadAt 23 x66) w fun x67 =>
           RD Tryz.prog (Instr.fieldAt 136 x9 1) w fun x68 =>
           RD Tryz.prog (Instr.loadAt 3 x68) w fun x69 =>
           RD Tryz.prog (Instr.indexAt 23 x67 x69) w fun x70 =>
           RD Tryz.prog (Instr.loadAt 3 x70) w fun x71 =>
           OPN Tryz.prog (callV x21 [x71, x41]) w fun x73 w =>
           (fun w => RD Tryz.prog (Instr.loadAt 23 x5) w fun x74 =>
           NIL a0 <|
           RD Tryz.prog (Instr.fieldAt 144 a0 0) w fun x77 =>
           RD Tryz.prog (Instr.loadAt 35 x77) w fun x78 =>
           RD Tryz.prog (Instr.fieldAt 136 x9 1) w fun x79 =>
           RD Tryz.prog (Instr.loadAt 3 x79) w fun x80 =>
           (fun w_ => CALL Tryz.prog 133 [x78, x80] w_ fun x81 w =>
           Ext w_ w ∧
           RD Tryz.prog (bin .sub 3 (.tmp 0) (.const undef) x81 (Value.int .i64 1)) w fun x82 =>
           RD Tryz.prog (Instr.indexAt 23 x74 x82) w fun x83 =>
           RD Tryz.prog (Instr.loadAt 3 x83) w fun x84 =>
           J19 [x84] w) w) (World.drew1 w)) (World.drew1 w))
           (J19 [x41] w)))) (fun u19 w =>
        CALL Tryz.prog 135 [a0, (u7 28)] w fun x87 w =>
        RD Tryz.prog (Builtin.len_ #[23] 3 [x87].toArray) w fun x88 =>
        LOOPI [89] [(Value.int .i64 0)] w fun u20 w next20 =>
         RD Tryz.prog (bin .lss 3 (.tmp 0) (.tmp 0) (u20 89) x88) w fun x90 =>
         BR x90
          (RD Tryz.prog (Instr.indexAt 23 x87 (u20 89)) w fun x91 =>
          RD Tryz.prog (Instr.loadAt 3 x91) w fun x92 =>
          OPN Tryz.prog (callV x21 [x92, (u19 10)]) w fun x96 w =>
          RD Tryz.prog (bin .add 3 (.tmp 0) (.const undef) (u20 89) (Value.int .i64 1)) w fun x97 =>
          next20 [x97] w)
          (RD Tryz.prog (bin .add 3 (.tmp 0) (.const undef) (u7 28) (Value.int .i64 1)) w fun x98 =>
          next7 [x98] w))))
      (RD Tryz.prog (Instr.loadAt 4 (u3 6)) w fun x99 =>
      OP Tryz.prog (Instr.alloc 4 true (.tuple #[])) w fun x6 w =>
      OPU Tryz.prog (Instr.storeAt 4 x6 x99) w fun w =>
      next3 [x6] w))
    (RD Tryz.prog (Instr.loadAt 23 x5) w fun x100 =>
    R x100 w)
def cfg67 : Cfg := { ext := extL, joins := [(19, 38685626227663735544087552, [10])], loops := [(3, 1267650600228229401496702162880, [6]), (7, 633825300114114700748083173120, [28]), (20, 316293680037414660236726243328, [89])], draws := [(17, [0, 1, 2, 3, 4, 5, 6, 7, 8, 9, 10, 11], 0), (18, [0, 1, 2, 3, 4, 5, 6, 7, 8, 9, 10, 11], 128)], pars := [] }
theorem F67_eq (a0 a1 : Value) (w : World) (R : Value → World → Prop) : vcF Tryz.prog cfg67 Tryz.f67 [a0, a1] w R = F67 a0 a1 w R := by kernel_rfl
theorem F67_call {a0 a1 : Value} {w : World} {R : Value → World → Prop} (h : F67 a0 a1 w R) : CALL Tryz.prog 67 [a0, a1] w R :=
  call_of (g := cfg67) ent mixed Tryz.func67 (Nat.le_of_ble_eq_true (by kernel_rfl)) (by kernel_rfl) (F67_eq a0 a1 w R ▸ h)
set_option linter.unusedVariables false
set_option linter.unusedSimpArgs false
open Rep (rep)
theorem op_box1 {P : Program} {w : World} {t : TypeId} {v : Value} {K : Value → World → Prop} (h : v.cells = #[v]) (k : ∀ w', Ext w w' → Blk w.heap.size t w' [v] → K (.pointer (some ⟨w.heap.size, 0, none⟩)) w') : OP P (Instr.box t v) w K :=
  ⟨_, w.alloc (.cells #[v] t), by simp [Instr.box, newVar, newRow, h], k _ (ext_alloc w _) (by unfold Blk; rw [heap_alloc_new w _])⟩
/-- what is added at a place, where it is met -/
def AddR (c : DCode) (out : List Nat) (ag : Bool) (i m : Nat) (out' : List Nat) (ag' : Bool) : Prop :=
  (MetP c i ∧ ¬ SubB m (nat0 out i) ∧ out' = out.set i (nat0 out i ||| m) ∧ ag' = true) ∨ ((MetP c i → SubB m (nat0 out i)) ∧ out' = out ∧ ag' = ag)
theorem AddR.hp {c : DCode} {out0 out out' : List Nat} {ag ag' : Bool} {k i m : Nat} (h : AddR c out ag i m out' ag') (hP : HP c out0 ag out k) (hi : i < c.ins.length) (hm : m < 64) (hmay : ∀ l, l < 6 → m.testBit l = true → MayP c i l) : HP c out0 ag' out' k := by
  rcases h with ⟨h1, h2, rfl, rfl⟩ | ⟨_, rfl, rfl⟩
  · exact hP.add hi hm h1 hmay h2
  · exact hP
theorem AddR.sub {c : DCode} {out out' : List Nat} {ag ag' : Bool} {i m : Nat} (h : AddR c out ag i m out' ag') (hi : i < out.length) (hm : MetP c i) : SubB m (nat0 out' i) := by
  rcases h with ⟨h1, h2, rfl, rfl⟩ | ⟨h, rfl, rfl⟩
  · rw [nat0_set hi, if_pos rfl]; exact sub_or
  · exact h hm
theorem AddR.mono {c : DCode} {out out' : List Nat} {ag ag' : Bool} {i m x j : Nat} (h : AddR c out ag i m out' ag') (hi : i < out.length) (hx : SubB x (nat0 out j)) : SubB x (nat0 out' j) := by
  rcases h with ⟨h1, h2, rfl, rfl⟩ | ⟨_, rfl, rfl⟩
  · rw [nat0_set hi]
    split
    · rename_i e; subst e; exact sub_or_left hx
    · exact hx
  · exact hx
theorem AddR.ag {c : DCode} {out out' : List Nat} {ag ag' : Bool} {i m : Nat} (h : AddR c out ag i m out' ag') (e : ag' = false) : ag = false := by
  rcases h with ⟨_, _, _, rfl⟩ | ⟨_, _, rfl⟩
  · cases e
  · exact e
structure HW (w1 w : World) (gm go g ga n : Nat) (vm : Value) (out : List Nat) (ag : Bool) : Prop where
  ext : Ext w1 w
  met : Blk gm 72 w [vm]
  var : Blk go 23 w [.slice (some ⟨g, 0, none⟩) n n]
  mine : Mine [g] w (.slice (some ⟨g, 0, none⟩) n n) (ints out)
  agn : Blk ga 4 w [.bool ag]
  n0 : gm ≠ g
  n01 : gm ≠ ga
  n1 : go ≠ g
  n2 : go ≠ ga
  n3 : g ≠ ga
  g0 : w1.heap.size ≤ g
  g1 : w1.heap.size ≤ go
  g2 : w1.heap.size ≤ ga
section
variable {w1 w w' : World} {gm go g ga n : Nat} {vm : Value} {out : List Nat} {ag : Bool}
theorem HW.step (h : HW w1 w gm go g ga n vm out ag) (hx : Ext w w') : HW w1 w' gm go g ga n vm out ag := ⟨h.ext.trans hx, h.met.ext hx, h.var.ext hx, h.mine.ext hx, h.agn.ext hx, h.n0, h.n01, h.n1, h.n2, h.n3, h.g0, h.g1, h.g2⟩
theorem HW.set {i v : Nat} (h : HW w1 w gm go g ga n vm out ag) (hc : Chg [g] w w') (hm : Mine [g] w' (.slice (some ⟨g, 0, none⟩) n n) ((ints out).set i (v : Int))) : HW w1 w' gm go g ga n vm (out.set i v) ag :=
  ⟨h.ext.chgF hc (by simp [h.g0]), h.met.chgF hc (by simp [h.n0]), h.var.chgF hc (by simp [h.n1]), by rw [ints_set]; exact hm, h.agn.chgF hc (by simp [Ne.symm h.n3]), h.n0, h.n01, h.n1, h.n2, h.n3, h.g0, h.g1, h.g2⟩
theorem HW.agains {ag' : Bool} (h : HW w1 w gm go g ga n vm out ag) (hc : Chg [ga] w w') (hB : Blk ga 4 w' [.bool ag']) : HW w1 w' gm go g ga n vm out ag' :=
  ⟨h.ext.chgF hc (by simp [h.g2]), h.met.chgF hc (by simp [h.n01]), h.var.chgF hc (by simp [h.n2]), h.mine.keep fun b hb => by
    simp only [List.mem_cons, List.not_mem_nil, or_false] at hb; subst hb
    exact hc.block b (h.mine.lt b (by simp)) (by simp [h.n3]), hB, h.n0, h.n01, h.n1, h.n2, h.n3, h.g0, h.g1, h.g2⟩
theorem HW.cell {ga' : Nat} {ag' : Bool} (h : HW w1 w gm go g ga n vm out ag) (hx : Ext w w') (hB : Blk ga' 4 w' [.bool ag']) (hg : w.heap.size ≤ ga') : HW w1 w' gm go g ga' n vm out ag' :=
  ⟨h.ext.trans hx, h.met.ext hx, h.var.ext hx, h.mine.ext hx, hB, h.n0, by have := h.met.lt; omega, h.n1, by have := h.var.lt; omega, by have := h.mine.lt g (by simp); omega, h.g0, h.g1, by have := h.ext.size; omega⟩
theorem may1_ok {W1 : World} {c : DCode} {i m : Nat} (h : HW w1 w gm go g ga n vm out ag) (hv : Is W1 vm (metN c)) (e1 : Ext W1 w) (hn : c.ins.length = n) (hi : i < n) (hl : out.length = n) (h64 : ∀ x ∈ out, x < 64) (hm : m < 64) :
    CALL Tryz.prog 134 [.int .i64 (i : Int), .int .i64 (m : Int), .pointer (some ⟨gm, 0, none⟩), .pointer (some ⟨go, 0, none⟩), .pointer (some ⟨ga, 0, none⟩)] w fun r w' => r = .tuple #[] ∧ ∃ out' ag', HW w1 w' gm go g ga n vm out' ag' ∧ Chg [g, ga] w w' ∧ AddR c out ag i m out' ag' := by
  refine F134_call ?_
  unfold F134
  have hml : (metN c).length = n := by unfold metN; rw [setB_len, hn]
  refine rd_blkV ty72 h.met rfl ?_
  refine rd_indexN u72 ty4 hv (by rw [hml]; exact hi) fun b1 o1 hA1 => ?_
  refine rd_loadB ty4 hA1 e1 ?_
  have hmk := mkd_get (ms := metN c) (i := i) (by rw [hml]; exact hi)
  have hms := mkd_setB (n := c.ins.length) (p := MetP c) (i := i)
  have hiff : (metN c)[i] = true ↔ MetP c i := by
    rw [← hmk]; unfold metN; rw [hms]; exact ⟨fun h => h.2, fun h => ⟨by omega, h⟩⟩
  have hi64 := nat0_lt h64 i
  refine br_b (fun hf => ?_) (fun hf => ?_)
  · have hmet := hiff.1 hf
    refine rd_blkV ty23 h.var rfl ?_
    refine rd_indexN u23 ty3 (i := i) h.mine.is (by rw [ints_len, hl]; exact hi) fun b2 o2 hA2 => ?_
    rw [ints_nat0] at hA2
    refine rd_loadI ty3 hA2 (Ext.refl _) fun _ => ?_
    refine rd_andNot (m := m) (n := nat0 out i) (by omega) (by omega) ?_
    refine rd_neq ?_
    refine br (fun hne => ?_) (fun heq => ?_)
    · have hns : ¬ SubB m (nat0 out i) := fun hs => hne (by rw [(andN_zero hm hi64).2 hs]; rfl)
      refine rd_blkV ty23 h.var rfl ?_
      refine rd_indexN u23 ty3 (i := i) h.mine.is (by rw [ints_len, hl]; exact hi) fun b3 o3 hA3 => ?_
      rw [ints_nat0] at hA3
      refine rd_loadI ty3 hA3 (Ext.refl _) fun _ => ?_
      refine rd_or (m := nat0 out i) (n := m) (by omega) (by omega) ?_
      have ho := or_lt64 hm hi64
      refine rd_elt (α := Int) rfl u23 ty3 hi ?_
      refine opu_elt (α := Int) rfl ty3 h.mine (by rw [ints_len, hl]) hi (mine_nat (v := nat0 out i ||| m) (by omega)) fun w2 hc2 hm2 => ?_
      have h2 := h.set (v := nat0 out i ||| m) hc2 hm2
      refine opu_blkC (α := Raw) (lo := 0) (hi := 0) ty4 rfl rfl h2.agn (by simp) (ownI_raw rfl) fun w3 hc3 hB3 => ?_
      exact ⟨rfl, _, true, h2.agains hc3.one hB3, (hc2.mono (by simp)).trans (hc3.one.mono (by simp)), .inl ⟨hmet, hns, rfl, rfl⟩⟩
    · have hs : SubB m (nat0 out i) := (andN_zero hm hi64).1 (Int.ofNat_inj.1 (Decidable.not_not.1 heq))
      exact ⟨rfl, out, ag, h, Chg.refl _ _, .inr ⟨fun _ => hs, rfl, rfl⟩⟩
  · exact ⟨rfl, out, ag, h, Chg.refl _ _, .inr ⟨fun hm => (by rw [hiff.2 hm] at hf; cases hf), rfl, rfl⟩⟩
end
/-- what is known of the set that goes on from a place, while nothing is new -/
def CR (c : DCode) (out0 : List Nat) (k h0 m : Nat) (ag : Bool) : Prop := ag = false → h0 = nat0 out0 k ∧ ((insAt c k).op = 4 → m = nat0 out0 (zN c (agN c k))) ∧ (¬ (insAt c k).op = 4 → m = aft c [] k (nat0 out0 k))
theorem HP.close {c : DCode} {out0 out : List Nat} {ag : Bool} {k h0 m : Nat} (hP : HP c out0 ag out k) (hC : CR c out0 k h0 m ag) (h1 : (insAt c k).op = 4 → SubB h0 (nat0 out (eN c (agN c k)))) (h2 : ∀ j ∈ nextN c k, MetP c j → SubB m (nat0 out j)) : HP c out0 ag out (k + 1) :=
  hP.next fun e hk => by
    obtain ⟨c1, c2, c3⟩ := hC e
    have ho := (hP.no e).1
    rw [← ho] at c1 c2 c3
    refine ⟨fun h4 => ⟨c1 ▸ h1 h4, fun hz j hj => ?_⟩, fun h4 j hj => ?_⟩
    · rw [← c2 h4]; exact h2 j hj (.back hk h4 hz hj)
    · rw [← c3 h4]; exact h2 j hj (.next hk h4 hj)
theorem may_ok {w W0 W1 : World} {b : Nat} {v1 : Value} {c : DCode} (hW : WAt W0 b c) (e0 : Ext W0 w) (hv : Is W1 v1 (metN c)) (e1 : Ext W1 w) (hc : CodeR c) :
    CALL Tryz.prog 67 [.pointer (some ⟨b, 0, none⟩), v1] w fun r w' => Ext w w' ∧ Own w.heap.size w' r (ints (mayN c)) := by
  refine F67_call ?_
  unfold F67
  have h8 := hc.1.procs8
  have hil := hc.f.ins
  have hcode := hW.wl.code
  have hcell : v1.cells = #[v1] := by
    obtain ⟨aa, cc, FF, xx, hh, _⟩ := is_list hv
    rw [hh]; rfl
  refine op_box1 hcell fun wm hxm hBm => ?_
  have hsm := hxm.size
  have e0m := e0.trans hxm
  refine NIL.mk rfl ?_
  refine rd_fld fd144_0 ?_
  refine rd_fld fd35_4 ?_
  refine rd_load ty33 (at_DCode_4 hcode) e0m fun v17 h17 => ?_
  refine rd_len u33 h17 ?_
  have hz0 := (zN_end hc h8.2).2.2
  have hP0 := HP.start (c := c)
  have hn : c.ins.length = c.ins.length := rfl
  generalize hnn : c.ins.length = n at hn
  rw [hnn] at hil hP0
  refine op_makeI (by omega) (by omega) fun w1 hx1 hM1 => ?_
  have hs1 := hx1.size
  have hg1 := hM1.lt _ (List.mem_singleton.2 rfl)
  have hmg : w.heap.size < wm.heap.size := hBm.lt
  generalize hgm : w.heap.size = gm at *
  generalize hg : wm.heap.size = g at *
  refine op_cell zlIS ty23 rfl fun w2 hx2 hB2 => ?_
  have hs2 := hx2.size
  have hM2 := hM1.ext hx2
  have hBm2 := hBm.ext (hx1.trans hx2)
  generalize hgo : w1.heap.size = go at *
  have hgo2 := hB2.lt
  refine op_cell zlBf ty4 rfl fun w5 hx5 hB5 => ?_
  have hHW : HW w w5 gm go g w2.heap.size n v1 (List.replicate n 0) true := ⟨hxm.trans (hx1.trans (hx2.trans hx5)), hBm2.ext hx5, hB2.ext hx5, hM2.ext hx5, hB5, by omega, by omega, by omega, by omega, by omega, by omega, by omega, by omega⟩
  generalize w2.heap.size = ga at *
  generalize List.replicate n 0 = out at *
  refine LOOPI.mk (fun m us w' => ∃ (ga : Nat) (out : List Nat) (ag : Bool), us = [.pointer (some ⟨ga, 0, none⟩)] ∧ m = (n * 63 - out.sum) + (if ag then 1 else 0) ∧ HW w w' gm go g ga n v1 out ag ∧ HP c out false out 0 ∧ (ag = false → out = mayN c)) (n * 63 - out.sum + 1) ⟨ga, out, true, rfl, rfl, hHW, hP0, fun e => by cases e⟩ ?_
  rintro m u w6 ⟨ga, out, ag, hu, hm, hW6, hT6, hend⟩
  simp only [List.map_cons, List.map_nil, List.cons.injEq, and_true] at hu
  rw [hu]
  have hcn := hT6.sum_le
  rw [hnn] at hcn
  refine rd_blkV ty4 hW6.agn rfl ?_
  refine br_b (fun hag => ?_) (fun hag => ?_)
  case refine_2 =>
    refine rd_blkV ty23 hW6.var rfl ?_
    rw [← hend hag]
    exact ⟨hW6.ext, [g], hW6.mine, fun b hb => by simp only [List.mem_cons, List.not_mem_nil, or_false] at hb; omega⟩
  rw [hag, if_pos rfl] at hm
  refine opu_blkC (α := Raw) (lo := 0) (hi := 0) ty4 rfl rfl hW6.agn (by simp) (ownI_raw rfl) fun w7 hc7 hB7 => ?_
  have hW7 := hW6.agains hc7.one hB7
  refine rd_of (v := .func (.func 134) #[] #[.pointer (some ⟨gm, 0, none⟩), .pointer (some ⟨go, 0, none⟩), .pointer (some ⟨ga, 0, none⟩)]) (fun w' _ => by simp [Instr.makeFunc]) ?_
  refine NIL.mk rfl ?_
  refine rd_fld fd144_0 ?_
  refine rd_fld fd35_4 ?_
  refine rd_load ty33 (at_DCode_4 hcode) (e0.trans hW7.ext) fun v26 h26 => ?_
  refine rd_len u33 h26 ?_
  rw [hnn]
  refine loopC n (fun k us w' => ∃ (out' : List Nat) (ag' : Bool), us = [.int .i64 (k : Int)] ∧ k ≤ n ∧ HW w w' gm go g ga n v1 out' ag' ∧ HP c out ag' out' k) 0 (Nat.zero_le _) ⟨out, false, rfl, Nat.zero_le _, hW7, hT6⟩ ?_
  rintro k mk u w8 hkm ⟨out8, ag8, hu, hkl, hW8, hT8⟩
  simp only [List.map_cons, List.map_nil, List.cons.injEq, and_true] at hu
  rw [hu]
  refine rd_lss ?_
  refine br (fun hlt => ?_) (fun hge => ?_)
  case refine_2 =>
    have hke : k = n := by omega
    rw [hke] at hT8
    refine rd_blkV ty4 hW8.agn rfl ?_
    refine op_cell zlBf ty4 rfl fun w9 hx9 hB9 => ?_
    have hcn8 := hT8.sum_le
    rw [hnn] at hcn8
    refine ⟨(n * 63 - out8.sum) + (if ag8 then 1 else 0), ?_, _, out8, ag8, rfl, rfl, hW8.cell hx9 hB9 (Nat.le_refl _), hT8.again, fun e => ?_⟩
    · cases ag8 with
      | true => have := hT8.yes rfl; simp; omega
      | false => rw [(hT8.no rfl).1]; simp; omega
    · rw [e, ← hnn] at hT8
      exact hT8.fin hc
  have hk : k < n := by omega
  have hkn : k < c.ins.length := by omega
  have hl8 : out8.length = n := by rw [hT8.len, hnn]
  refine rd_indexN u33 ty136 h26 hkn fun b3 o3 hA3 => ?_
  rw [insAt_get] at hA3
  refine rd_load ty136 hA3 (e0.trans hW8.ext) fun v32 h32 => ?_
  refine op_var zl136 rfl ty136 rfl h32 (e0.trans hW8.ext) fun w9 hx9 hAI hV9 => ?_
  have hW9 := hW8.step hx9
  have hAB9 := atB_box h32 hV9 rfl
  have hml : (metN c).length = n := by unfold metN; rw [setB_len, hnn]
  have hms := mkd_setB (n := c.ins.length) (p := MetP c) (i := k)
  have hmk := mkd_get (ms := metN c) (i := k) (by rw [hml]; exact hk)
  have hiff : (metN c)[k] = true ↔ MetP c k := by
    rw [← hmk]; unfold metN; rw [hms]; exact ⟨fun h => h.2, fun h => ⟨by omega, h⟩⟩
  refine rd_blkV ty72 hW9.met rfl ?_
  refine rd_indexN u72 ty4 (i := k) hv (by rw [hml]; exact hk) fun b4 o4 hA4 => ?_
  refine rd_loadB ty4 hA4 (e1.trans hW9.ext) ?_
  refine rd_not ?_
  refine br_b (fun hf => ?_) (fun hf => ?_)
  · have hnm : ¬ MetP c k := fun h => by rw [hiff.2 h] at hf; cases hf
    refine rd_inc (by omega) ?_
    exact ⟨mk - 1, by omega, k + 1, by omega, out8, ag8, rfl, by omega, hW9, hT8.next fun _ h => absurd h hnm⟩
  have hMk : MetP c k := hiff.1 (by simpa using hf)
  have hk64 := hT8.lt0 k
  refine rd_blkV ty23 hW9.var rfl ?_
  refine rd_indexN u23 ty3 (i := k) hW9.mine.is (by rw [ints_len, hl8]; exact hk) fun b5 o5 hA5 => ?_
  rw [ints_nat0] at hA5
  refine rd_loadI ty3 hA5 (Ext.refl _) fun _ => ?_
  have hkz : ag8 = false → nat0 out8 k = nat0 out k := fun e => by rw [(hT8.no e).1]
  have hkm8 : ∀ l, l < 6 → (nat0 out8 k).testBit l = true → MayP c k l := fun l hl hb => (hT8.snd k l hkn hb).1
  generalize hh0 : nat0 out8 k = h0 at *
  refine JOIN.mk (fun us w' => ∃ (m : Nat) (out' : List Nat) (ag' : Bool), us = [.int .i64 (m : Int)] ∧ HW w w' gm go g ga n v1 out' ag' ∧ HP c out ag' out' k ∧ m < 64 ∧ CR c out k h0 m ag' ∧ ((insAt c k).op = 4 → SubB h0 (nat0 out' (eN c (agN c k)))) ∧ ∀ l, l < 6 → m.testBit l = true → ∀ j ∈ nextN c k, MayP c j l) ?_ ?_
  · have haf : aft c [] k h0 = if (insAt c k).op = 6 then h0 ||| 2 ^ agN c k else if (insAt c k).op = 7 then andN h0 (2 ^ agN c k) else if (insAt c k).op = 4 then (h0 &&& (tbl [] (agN c k)).1) ||| (tbl [] (agN c k)).2 else h0 := rfl
    have hgo : ¬ (insAt c k).op = 4 → ∀ w', HW w w' gm go g ga n v1 out8 ag8 → aft c [] k h0 < 64 → ∃ (m : Nat) (out' : List Nat) (ag' : Bool), [Value.int .i64 (aft c [] k h0 : Nat)] = [.int .i64 (m : Int)] ∧ HW w w' gm go g ga n v1 out' ag' ∧ HP c out ag' out' k ∧ m < 64 ∧ CR c out k h0 m ag' ∧ ((insAt c k).op = 4 → SubB h0 (nat0 out' (eN c (agN c k)))) ∧ ∀ l, l < 6 → m.testBit l = true → ∀ j ∈ nextN c k, MayP c j l := fun h4 w' hW' hlt' =>
      ⟨_, out8, ag8, rfl, hW', hT8, hlt', fun e => ⟨hkz e, fun h => absurd h h4, fun _ => by rw [hkz e]⟩, fun h => absurd h h4, fun l hl hb j hj => may_aft h4 hMk hj (hkm8 l hl) hb⟩
    refine rd_fld fd136_0 ?_
    refine rd_loadI ty3 (at_DIns_0 hAI) (Ext.refl _) fun _ => ?_
    refine rd_eql ?_
    refine br (fun c6 => ?_) (fun c6 => ?_)
    · obtain ⟨ha, _, hq⟩ := ag_lock hc hkn (.inl c6)
      have hp := pow_lt6 hq
      rw [if_pos c6] at haf
      refine rd_fld fd136_1 ?_
      refine rd_loadI ty3 (at_DIns_1 hAI) (Ext.refl _) fun _ => ?_
      rw [ha]
      refine rd_uint (by kernel_rfl) u77 (by omega) ?_
      refine rd_shl1 (by omega) ?_
      refine rd_or (m := h0) (n := 2 ^ agN c k) (by omega) (by omega) ?_
      have := hgo (by omega) w9 hW9 (by rw [haf]; exact or_lt6 hk64 hq)
      rw [haf] at this
      exact this
    rw [if_neg c6] at haf
    refine rd_eql ?_
    refine br (fun c7 => ?_) (fun c7 => ?_)
    · obtain ⟨ha, _, hq⟩ := ag_lock hc hkn (.inr c7)
      have hp := pow_lt6 hq
      rw [if_pos c7] at haf
      refine rd_fld fd136_1 ?_
      refine rd_loadI ty3 (at_DIns_1 hAI) (Ext.refl _) fun _ => ?_
      rw [ha]
      refine rd_uint (by kernel_rfl) u77 (by omega) ?_
      refine rd_shl1 (by omega) ?_
      refine rd_andNot (m := h0) (n := 2 ^ agN c k) (by omega) (by omega) ?_
      have := hgo (by omega) w9 hW9 (by rw [haf]; exact Nat.lt_of_le_of_lt (andN_le _ _) hk64)
      rw [haf] at this
      exact this
    rw [if_neg c7] at haf
    refine rd_eql ?_
    refine br (fun c4 => ?_) (fun c4 => ?_)
    · obtain ⟨ha1, ha2⟩ := ag_proc hc hkn (.inl c4)
      have hpe : agN c k < c.entry.length := by rw [hc.2.1.1]; exact ha2
      obtain ⟨he1, he2, _⟩ := eN_eq hc hpe
      obtain ⟨hz1, hz2, hz3⟩ := zN_end hc ha2
      have hxd := ext_drew w9
      have hW10 := hW9.step hxd
      generalize World.drew1 w9 = w10 at *
      refine NIL.mk rfl ?_
      refine rd_fld fd144_0 ?_
      refine rd_fld fd35_3 ?_
      refine rd_load ty23 (at_DCode_3 hcode) (e0.trans hW10.ext) fun v66 h66 => ?_
      refine rd_fld fd136_1 ?_
      refine rd_loadI ty3 (at_DIns_1 hAI) hxd fun _ => ?_
      rw [ha1]
      refine rd_indexN u23 ty3 h66 hpe fun b5 o5 hA5 => ?_
      rw [en_get hpe, he1] at hA5
      refine rd_loadI ty3 hA5 (e0.trans hW10.ext) fun _ => ?_
      refine opn_cl (args := [_, _]) (caps := [_, _, _]) entMay ((may1_ok (i := eN c (agN c k)) (m := h0) hW10 hv (e1.trans hW10.ext) hnn (by omega) hl8 hT8.lt hk64).mono ?_)
      rintro _ w11 ⟨rfl, out11, ag11, hW11, hc11, hR11⟩
      have hmE : MetP c (eN c (agN c k)) := .call hMk c4
      have hT11 := hR11.hp hT8 he2 hk64 fun l hl hb => .call hMk c4 (hkm8 l hl hb)
      have hF1 := hR11.sub (by rw [hl8]; omega) hmE
      have hx12 := ext_drew w11
      have hW12 := hW11.step hx12
      have hgI : w8.heap.size < w10.heap.size := by have := hV9.lt; have := hxd.size; omega
      have hne : w8.heap.size ∉ [g, ga] := by have h1 := hW8.mine.lt g (by simp); have h2 := hW8.agn.lt; simp; omega
      have hAI11 := (hAB9.ext hxd).keep (hc11.block _ hgI hne)
      have hAI12 := (hAI11.ext hx12).at (e0.trans hW12.ext)
      generalize World.drew1 w11 = w12 at *
      refine rd_blkV ty23 hW12.var rfl ?_
      refine NIL.mk rfl ?_
      refine rd_fld fd144_0 ?_
      refine rd_load ty35 hcode (e0.trans hW12.ext) fun v76 h76 => ?_
      refine rd_fld fd136_1 ?_
      refine rd_loadI ty3 (at_DIns_1 hAI12) (Ext.refl _) fun _ => ?_
      rw [ha1]
      refine (endOfProc_ok h76 (e0.trans hW12.ext) (by omega)).mono ?_
      rintro _ w13 ⟨hx13, rfl⟩
      refine ⟨hx13, ?_⟩
      have hW13 := hW12.step hx13
      rw [hz1]
      refine rd_sub (by unfold I64; omega) ?_
      rw [show ((zN c (agN c k) + 1 : Nat) : Int) - 1 = (zN c (agN c k) : Int) by omega]
      have hl11 : out11.length = n := by rw [hT11.len, hnn]
      refine rd_indexN u23 ty3 (i := zN c (agN c k)) hW13.mine.is (by rw [ints_len, hl11]; omega) fun b6 o6 hA6 => ?_
      rw [ints_nat0] at hA6
      refine rd_loadI ty3 hA6 (Ext.refl _) fun _ => ?_
      refine ⟨nat0 out11 (zN c (agN c k)), out11, ag11, rfl, hW13, hT11, hT11.lt0 _, fun e => ⟨hkz (hR11.ag e), fun _ => by rw [(hT11.no e).1], fun h => absurd c4 h⟩, fun _ => hF1, fun l hl hb j hj => ?_⟩
      have := hT11.snd _ l (by omega) hb
      exact .back hMk c4 this.2 this.1 hj
    · rw [if_neg c4] at haf
      have := hgo c4 w9 hW9 (by rw [haf]; exact hk64)
      rw [haf] at this
      exact this
  rintro us w14 ⟨m, out14, ag14, hus, hW14, hT14, hm64, hC14, hF14, hmay⟩
  simp only [List.map_cons, List.map_nil, List.cons.injEq, and_true] at hus
  rw [hus]
  refine (nextIn_ok hcode (e0.trans hW14.ext) hc hkn).mono ?_
  rintro v86 w15 ⟨hx15, ho15⟩
  have hW15 := hW14.step hx15
  have hl2 := nextN_len c k
  have hnl := fun {j : Nat} (hj : j ∈ nextN c k) => (nextN_lt hc hkn hj).1
  have hclose := fun {out : List Nat} {o : List Nat} {ag : Bool} (hP : HP c out ag o k) => HP.close (h0 := h0) (m := m) hP
  generalize hNx : nextN c k = N at *
  refine rd_len u23 ho15.is ?_
  rw [ints_len]
  refine loopC N.length (fun q us w' => ∃ (out' : List Nat) (ag' : Bool), us = [.int .i64 (q : Int)] ∧ q ≤ N.length ∧ HW w w' gm go g ga n v1 out' ag' ∧ HP c out ag' out' k ∧ CR c out k h0 m ag' ∧ ((insAt c k).op = 4 → SubB h0 (nat0 out' (eN c (agN c k)))) ∧ (∀ j ∈ N.take q, MetP c j → SubB m (nat0 out' j)) ∧ OwnI w14.heap.size w15.heap.size w' v86 (ints N)) 0 (Nat.zero_le _) ⟨out14, ag14, rfl, Nat.zero_le _, hW15, hT14, hC14, hF14, by simp, ho15.toI⟩ ?_
  rintro q mq u w16 hqm ⟨out16, ag16, hu, hql, hW16, hT16, hC16, hF16, hq16, hO16⟩
  simp only [List.map_cons, List.map_nil, List.cons.injEq, and_true] at hu
  rw [hu]
  refine rd_lss ?_
  refine br (fun hlt => ?_) (fun hge => ?_)
  case refine_2 =>
    refine rd_inc (by omega) ?_
    rw [List.take_of_length_le (by omega)] at hq16
    exact ⟨mk - 1, by omega, k + 1, by omega, out16, ag16, rfl, by omega, hW16, hclose hT16 hC16 hF16 (hNx ▸ hq16)⟩
  have hq : q < N.length := by omega
  refine rd_indexN u23 ty3 (i := q) hO16.is (by rw [ints_len]; exact hq) fun b7 o7 hA7 => ?_
  rw [ints_get] at hA7
  refine rd_loadI ty3 hA7 (Ext.refl _) fun _ => ?_
  have htq := fun x => mem_take_iff hq (x := x)
  have hj := List.getElem_mem hq
  have hjl := hnl hj
  have hmj := fun l hl hb => hmay l hl hb _ hj
  generalize N[q] = j at *
  have hl16 : out16.length = n := by rw [hT16.len, hnn]
  refine opn_cl (args := [_, _]) (caps := [_, _, _]) entMay ((may1_ok (i := j) (m := m) hW16 hv (e1.trans hW16.ext) hnn (by omega) hl16 hT16.lt hm64).mono ?_)
  rintro _ w17 ⟨rfl, out17, ag17, hW17, hc17, hR17⟩
  refine rd_inc (by omega) ?_
  have hg14 := hW14.mine.lt g (by simp)
  have hga14 := hW14.agn.lt
  have hjo : j < out16.length := by omega
  refine ⟨mq - 1, by omega, q + 1, by omega, out17, ag17, rfl, by omega, hW17, hR17.hp hT16 hjl hm64 hmj, fun e => hC16 (hR17.ag e), fun h4 => hR17.mono hjo (hF16 h4), fun i hi hmi => ?_, hO16.chgF hc17 (by simp; omega)⟩
  rcases (htq i).1 hi with h | h
  · exact hR17.mono hjo (hq16 i h hmi)
  · subst h; exact hR17.sub hjo hmi
end Go.Proofs.YtjgfldfbljmhhaaGreat
namespace Go.Sh
set_option linter.unusedVariables false
open Rep (rep)
/-- what lies in a cell of a known block -/
theorem at_of_blk {α : Type} [Rep α] {w : World} {g e o : Nat} {cs : List Value} {v : Value} {l : List α} (hB : Blk g e w cs) (ho : cs[o]? = some v) (h : Is w v l) : At w g o l := by
  obtain ⟨F, xs, hr, rfl⟩ := h
  have hr' := hr
  obtain ⟨a, cap, Fi, ys, rfl, h⟩ := hr
  refine ⟨F, _, hr', fun i u hi => ?_⟩
  have : i = 0 := by
    cases i with
    | zero => rfl
    | succ i => simp at hi
  subst this
  simp only [List.getElem?_cons_zero, Option.some.injEq] at hi
  subst hi
  have := hB.range o _ ho
  rw [Nat.zero_add] at this
  exact this
end Go.Sh
namespace Go.Proofs.YtjgfldfbljmhhaaGreat
open Go Go.Sh Go.Proofs
set_option linter.unusedVariables false
/-- spec.l16Put -/
def F118 (a0 a1 a2 : Value) (w : World) (R : Value → World → Prop) : Prop :=
  (fun w => NIL a0 <|
  RD Tryz.prog (Instr.fieldAt 74 a0 1) w fun x8 =>
  RD Tryz.prog (Instr.loadAt 72 x8) w fun x9 =>
  RD Tryz.prog (Instr.indexAt 72 x9 a1) w fun x11 =>
  RD Tryz.prog (Instr.loadAt 4 x11) w fun x12 =>
  RD Tryz.prog (Op.unary .not x12) w fun x13 =>
  BR x13
  (NIL a0 <|
   RD Tryz.prog (Instr.fieldAt 74 a0 1) w fun x35 =>
   RD Tryz.prog (Instr.loadAt 72 x35) w fun x36 =>
   RD Tryz.prog (Instr.indexAt 72 x36 a1) w fun x38 =>
   OPU Tryz.prog (Instr.storeAt 4 x38 (Value.bool true)) w fun w =>
   (fun w => NIL a0 <|
   RD Tryz.prog (Instr.fieldAt 74 a0 2) w fun x41 =>
   RD Tryz.prog (Instr.loadAt 23 x41) w fun x42 =>
   NIL a0 <|
   RD Tryz.prog (Instr.fieldAt 74 a0 2) w fun x46 =>
   RD Tryz.prog (Instr.loadAt 23 x46) w fun x47 =>
   RD Tryz.prog (Instr.indexAt 23 x47 a1) w fun x49 =>
   RD Tryz.prog (Instr.loadAt 3 x49) w fun x50 =>
   RD Tryz.prog (bin .or 3 (.tmp 0) (.tmp 0) x50 a2) w fun x52 =>
   RD Tryz.prog (Instr.indexAt 23 x42 a1) w fun x53 =>
   OPU Tryz.prog (Instr.storeAt 3 x53 x52) w fun w =>
   NIL a0 <|
   RD Tryz.prog (Instr.fieldAt 74 a0 3) w fun x56 =>
   OPU Tryz.prog (Instr.storeAt 4 x56 (Value.bool true)) w fun w =>
   R (Value.tuple #[]) w) (World.drew1 w))
  (NIL a0 <|
  RD Tryz.prog (Instr.fieldAt 74 a0 2) w fun x17 =>
  RD Tryz.prog (Instr.loadAt 23 x17) w fun x18 =>
  RD Tryz.prog (Instr.indexAt 23 x18 a1) w fun x20 =>
  RD Tryz.prog (Instr.loadAt 3 x20) w fun x21 =>
  RD Tryz.prog (bin .or 3 (.tmp 0) (.tmp 0) x21 a2) w fun x23 =>
  NIL a0 <|
  RD Tryz.prog (Instr.fieldAt 74 a0 2) w fun x26 =>
  RD Tryz.prog (Instr.loadAt 23 x26) w fun x27 =>
  RD Tryz.prog (Instr.indexAt 23 x27 a1) w fun x29 =>
  RD Tryz.prog (Instr.loadAt 3 x29) w fun x30 =>
  RD Tryz.prog (bin .neq 3 (.tmp 0) (.tmp 0) x23 x30) w fun x31 =>
  BR x31
   (NIL a0 <|
   RD Tryz.prog (Instr.fieldAt 74 a0 1) w fun x35 =>
   RD Tryz.prog (Instr.loadAt 72 x35) w fun x36 =>
   RD Tryz.prog (Instr.indexAt 72 x36 a1) w fun x38 =>
   OPU Tryz.prog (Instr.storeAt 4 x38 (Value.bool true)) w fun w =>
   (fun w => NIL a0 <|
   RD Tryz.prog (Instr.fieldAt 74 a0 2) w fun x41 =>
   RD Tryz.prog (Instr.loadAt 23 x41) w fun x42 =>
   NIL a0 <|
   RD Tryz.prog (Instr.fieldAt 74 a0 2) w fun x46 =>
   RD Tryz.prog (Instr.loadAt 23 x46) w fun x47 =>
   RD Tryz.prog (Instr.indexAt 23 x47 a1) w fun x49 =>
   RD Tryz.prog (Instr.loadAt 3 x49) w fun x50 =>
   RD Tryz.prog (bin .or 3 (.tmp 0) (.tmp 0) x50 a2) w fun x52 =>
   RD Tryz.prog (Instr.indexAt 23 x42 a1) w fun x53 =>
   OPU Tryz.prog (Instr.storeAt 3 x53 x52) w fun w =>
   NIL a0 <|
   RD Tryz.prog (Instr.fieldAt 74 a0 3) w fun x56 =>
   OPU Tryz.prog (Instr.storeAt 4 x56 (Value.bool true)) w fun w =>
   R (Value.tuple #[]) w) (World.drew1 w))
   (R (Value.tuple #[]) w))) (World.drew1 w)
def cfg118 : Cfg := { ext := extL, joins := [], loops := [], draws := [(0, [0, 1, 2, 3, 4, 5, 6, 7, 8, 9, 10, 11, 12, 13, 14, 15, 16, 17, 18, 19, 20, 21, 22, 23, 24, 25, 26], 0), (2, [0, 1, 2, 3, 4, 5, 6, 7, 8, 9, 10, 11, 12, 13, 14, 15], 0)], pars := [] }
theorem F118_eq (a0 a1 a2 : Value) (w : World) (R : Value → World → Prop) : vcF Tryz.prog cfg118 Tryz.f118 [a0, a1, a2] w R = F118 a0 a1 a2 w R := by kernel_rfl
theorem F118_call {a0 a1 a2 : Value} {w : World} {R : Value → World → Prop} (h : F118 a0 a1 a2 w R) : CALL Tryz.prog 118 [a0, a1, a2] w R :=
  call_of (g := cfg118) ent mixed Tryz.func118 (Nat.le_of_ble_eq_true (by kernel_rfl)) (by kernel_rfl) (F118_eq a0 a1 a2 w R ▸ h)
set_option linter.unusedVariables false
set_option linter.unusedSimpArgs false
open Rep (rep)
theorem code_cells {w : World} {v : Value} {c : DCode} (h : Is w v c) : ∃ a0 a1 a2 a3 a4 n0 n1 n2 n3 n4 k0 k1 k2 k3 k4, v = .agg #[.slice a0 n0 k0, .slice a1 n1 k1, .slice a2 n2 k2, .slice a3 n3 k3, .slice a4 n4 k4] := by
  obtain ⟨F, cs, hr, rfl⟩ := h
  obtain ⟨F0, c0, F1, c1, F2, c2, F3, c3, F4, c4, rfl, rfl, ⟨_, _, _, _, rfl, _⟩, ⟨_, _, _, _, rfl, _⟩, ⟨_, _, _, _, rfl, _⟩, ⟨_, _, _, _, rfl, _⟩, ⟨_, _, _, _, rfl, _⟩⟩ := inv_DCode hr
  exact ⟨_, _, _, _, _, _, _, _, _, _, _, _, _, _, _, rfl⟩
structure LP (c : DCode) (ms0 : List Bool) (out0 : List Nat) (nw : Bool) (ms : List Bool) (out : List Nat) (k : Nat) : Prop where
  len : ms.length = c.ins.length
  leno : out.length = c.ins.length
  lt : ∀ x ∈ out, x < 64
  snd : ∀ i, mkd ms i → MetP c i
  sndm : ∀ i l, i < c.ins.length → (nat0 out i).testBit l = true → MayP c i l
  root : ∀ p, RootP c p → mkd ms (eN c p)
  yes : nw = true → cntM ms0 + out0.sum < cntM ms + out.sum
  no : nw = false → ms = ms0 ∧ out = out0 ∧ ∀ i, i < k → mkd ms0 i → MC c ms0 i ∧ ((insAt c i).op = 4 → SubB (nat0 out0 i) (nat0 out0 (eN c (agN c i))) ∧ (mkd ms0 (zN c (agN c i)) → ∀ j ∈ nextN c i, SubB (nat0 out0 (zN c (agN c i))) (nat0 out0 j))) ∧ (¬ (insAt c i).op = 4 → ∀ j ∈ nextN c i, SubB (aft c [] i (nat0 out0 i)) (nat0 out0 j))
theorem LP.lt0 {c : DCode} {ms0 ms : List Bool} {out0 out : List Nat} {nw : Bool} {k : Nat} (h : LP c ms0 out0 nw ms out k) (i : Nat) : nat0 out i < 64 := nat0_lt h.lt i
/-- is it new? -/
def newL (ms : List Bool) (out : List Nat) (nw : Bool) (i m : Nat) : Bool := nw || !(ms.getD i false && decide (nat0 out i ||| m = nat0 out i))
theorem newL_old {ms : List Bool} {out : List Nat} {nw : Bool} {i m : Nat} (h : mkd ms i) (h2 : nat0 out i ||| m = nat0 out i) : newL ms out nw i m = nw := by
  unfold mkd at h; unfold newL; rw [h, decide_eq_true h2]; simp
theorem newL_new {ms : List Bool} {out : List Nat} {nw : Bool} {i m : Nat} (h : ¬ (mkd ms i ∧ nat0 out i ||| m = nat0 out i)) : newL ms out nw i m = true := by
  unfold mkd at h; unfold newL
  cases e : ms.getD i false
  · simp
  · have : ¬ (nat0 out i ||| m = nat0 out i) := fun h2 => h ⟨e, h2⟩
    rw [decide_eq_false this]; simp
theorem set_nat0 {out : List Nat} {i : Nat} (h : i < out.length) : out.set i (nat0 out i) = out := by rw [← nat0_get h]; exact List.set_getElem_self h
theorem cntM_mono {ms : List Bool} {i : Nat} : cntM ms ≤ cntM (ms.set i true) := by
  by_cases h : i < ms.length
  · by_cases hk : mkd ms i
    · rw [set_mkd hk]; exact Nat.le_refl _
    · rw [cntM_set h hk]; omega
  · rw [List.set_eq_of_length_le (by omega)]; exact Nat.le_refl _
theorem LP.put {c : DCode} {ms0 ms : List Bool} {out0 out : List Nat} {nw : Bool} {k i m : Nat} (h : LP c ms0 out0 nw ms out k) (hi : i < c.ins.length) (hm : m < 64) (hmet : MetP c i) (hmay : ∀ l, l < 6 → m.testBit l = true → MayP c i l) :
    LP c ms0 out0 (newL ms out nw i m) (ms.set i true) (out.set i (nat0 out i ||| m)) k := by
  by_cases hk : mkd ms i ∧ nat0 out i ||| m = nat0 out i
  · rw [newL_old hk.1 hk.2, set_mkd hk.1, hk.2, set_nat0 (by rw [h.leno]; exact hi)]; exact h
  · rw [newL_new hk]
    have h64 := h.lt0 i
    have h1 := sum_set (l := out) (i := i) (v := nat0 out i ||| m) (by rw [h.leno]; exact hi)
    have h2 : nat0 out i ≤ nat0 out i ||| m := Nat.left_le_or
    have h3 := cntM_mono (ms := ms) (i := i)
    refine ⟨by simp [h.len], by simp [h.leno], fun x hx => ?_, fun j hj => ?_, fun j l hj hb => ?_, fun p hp => mkd_mono (h.root p hp), fun _ => ?_, fun e => by cases e⟩
    · rcases mem_set hx with rfl | hx
      · exact or_lt64 hm h64
      · exact h.lt x hx
    · rcases (mkd_set (by rw [h.len]; exact hi)).1 hj with h4 | h4
      · exact h.snd j h4
      · rw [h4]; exact hmet
    · rw [nat0_set (by rw [h.leno]; exact hi)] at hb
      split at hb
      · rename_i e
        subst e
        rw [Nat.testBit_or, Bool.or_eq_true] at hb
        rcases hb with hb | hb
        · exact h.sndm i l hj hb
        · exact hmay l (bit_lt6 hm hb) hb
      · exact h.sndm j l hj hb
    · have key : cntM ms + out.sum < cntM (ms.set i true) + (out.set i (nat0 out i ||| m)).sum := by
        by_cases hk1 : mkd ms i
        · have := or_gt fun e => hk ⟨hk1, e⟩
          omega
        · have := cntM_set (by rw [h.len]; exact hi) hk1
          omega
      cases nw with
      | true => have := h.yes rfl; omega
      | false => rw [← (h.no rfl).1, ← (h.no rfl).2.1]; exact key
theorem newL_ag {ms : List Bool} {out : List Nat} {nw : Bool} {i m : Nat} (e : newL ms out nw i m = false) : nw = false := by
  unfold newL at e
  cases nw <;> simp_all
theorem sub_set {out : List Nat} {i j m x : Nat} (hi : i < out.length) (hx : SubB x (nat0 out j)) : SubB x (nat0 (out.set i (nat0 out i ||| m)) j) := by
  rw [nat0_set hi]
  split
  · rename_i e; subst e; exact sub_or_left hx
  · exact hx
theorem sub_set_self {out : List Nat} {i m : Nat} (hi : i < out.length) : SubB m (nat0 (out.set i (nat0 out i ||| m)) i) := by
  rw [nat0_set hi, if_pos rfl]; exact sub_or
theorem LP.fin {c : DCode} (hc : CodeR c) {ms0 ms : List Bool} {out0 out : List Nat} (h : LP c ms0 out0 false ms out c.ins.length) : ms = metN c ∧ out = mayN c := by
  obtain ⟨h1, h2, h3⟩ := h.no rfl
  rw [← h1, ← h2] at h3
  have hT : TP c ms false ms c.ins.length := ⟨h.len, h.snd, h.root, fun e => (by cases e), fun _ => ⟨rfl, fun i hi hm => (h3 i hi hm).1⟩⟩
  have hms := hT.fin hc
  have hmk : ∀ i, MetP c i → mkd ms i := fun i hi => by rw [hms]; exact mkd_setB.2 ⟨hi.lt hc, hi⟩
  exact ⟨hms, may_fin hc h.leno h.lt h.sndm fun i hm => by
    have := (h3 i (hm.lt hc) (hmk i hm)).2
    exact ⟨fun h4 => ⟨(this.1 h4).1, fun hz => (this.1 h4).2 (hmk _ hz)⟩, this.2⟩⟩
theorem LP.again {c : DCode} {ms0 ms : List Bool} {out0 out : List Nat} {nw : Bool} {k : Nat} (h : LP c ms0 out0 nw ms out k) : LP c ms out false ms out 0 :=
  ⟨h.len, h.leno, h.lt, h.snd, h.sndm, h.root, fun e => (by cases e), fun _ => ⟨rfl, rfl, fun i hi => by omega⟩⟩
theorem LP.skip {c : DCode} {ms0 ms : List Bool} {out0 out : List Nat} {nw : Bool} {k : Nat} (h : LP c ms0 out0 nw ms out k) (hk : ¬ mkd ms k) : LP c ms0 out0 nw ms out (k + 1) :=
  ⟨h.len, h.leno, h.lt, h.snd, h.sndm, h.root, h.yes, fun e => ⟨(h.no e).1, (h.no e).2.1, fun i hi hm => by
    by_cases e2 : i = k
    · subst e2; rw [(h.no e).1] at hk; exact absurd hm hk
    · exact (h.no e).2.2 i (by omega) hm⟩⟩
theorem LP.close {c : DCode} {ms0 ms : List Bool} {out0 out : List Nat} {nw : Bool} {k h0 m : Nat} (h : LP c ms0 out0 nw ms out k) (hC : CR c out0 k h0 m nw) (h1 : (insAt c k).op = 4 → mkd ms (eN c (agN c k)) ∧ SubB h0 (nat0 out (eN c (agN c k))))
    (h2 : ((insAt c k).op = 4 → mkd ms (zN c (agN c k))) → ∀ j ∈ nextN c k, mkd ms j ∧ SubB m (nat0 out j)) : LP c ms0 out0 nw ms out (k + 1) :=
  ⟨h.len, h.leno, h.lt, h.snd, h.sndm, h.root, h.yes, fun e => by
    obtain ⟨o1, o2, o3⟩ := h.no e
    refine ⟨o1, o2, fun i hi hm => ?_⟩
    by_cases e2 : i = k
    · subst e2
      obtain ⟨c1, c2, c3⟩ := hC e
      rw [o1, o2] at h1
      rw [o1, o2] at h2
      refine ⟨⟨fun h4 => ⟨(h1 h4).1, fun hz j hj => (h2 (fun _ => hz) j hj).1⟩, fun h4 j hj => (h2 (fun h => absurd h h4) j hj).1⟩, fun h4 => ⟨c1 ▸ (h1 h4).2, fun hz j hj => c2 h4 ▸ (h2 (fun _ => hz) j hj).2⟩, fun h4 j hj => c3 h4 ▸ (h2 (fun h => absurd h h4) j hj).2⟩
    · exact o3 i (by omega) hm⟩
/-- the reference's look -/
structure LW (w1 w : World) (gw g h n : Nat) (kc : List Value) (ms : List Bool) (out : List Nat) (nw : Bool) : Prop where
  ext : Ext w1 w
  blk : Blk gw 74 w (kc ++ [.slice (some ⟨g, 0, none⟩) n n, .slice (some ⟨h, 0, none⟩) n n, .bool nw])
  mks : Mine [g] w (.slice (some ⟨g, 0, none⟩) n n) ms
  mine : Mine [h] w (.slice (some ⟨h, 0, none⟩) n n) (ints out)
  k5 : kc.length = 5
  n1 : gw ≠ g
  n2 : gw ≠ h
  n3 : g ≠ h
  g0 : w1.heap.size ≤ gw
  g1 : w1.heap.size ≤ g
  g2 : w1.heap.size ≤ h
section
variable {w1 w w' : World} {gw g h n : Nat} {kc : List Value} {ms : List Bool} {out : List Nat} {nw : Bool}
theorem LW.step (H : LW w1 w gw g h n kc ms out nw) (hx : Ext w w') : LW w1 w' gw g h n kc ms out nw := ⟨H.ext.trans hx, H.blk.ext hx, H.mks.ext hx, H.mine.ext hx, H.k5, H.n1, H.n2, H.n3, H.g0, H.g1, H.g2⟩
theorem LW.c5 (H : LW w1 w gw g h n kc ms out nw) : (kc ++ [Value.slice (some ⟨g, 0, none⟩) n n, .slice (some ⟨h, 0, none⟩) n n, .bool nw])[5]? = some (.slice (some ⟨g, 0, none⟩) n n) := by rw [List.getElem?_append_right (by rw [H.k5]; omega), H.k5]; rfl
theorem LW.c6 (H : LW w1 w gw g h n kc ms out nw) : (kc ++ [Value.slice (some ⟨g, 0, none⟩) n n, .slice (some ⟨h, 0, none⟩) n n, .bool nw])[6]? = some (.slice (some ⟨h, 0, none⟩) n n) := by rw [List.getElem?_append_right (by rw [H.k5]; omega), H.k5]; rfl
theorem LW.c7 (H : LW w1 w gw g h n kc ms out nw) : (kc ++ [Value.slice (some ⟨g, 0, none⟩) n n, .slice (some ⟨h, 0, none⟩) n n, .bool nw])[7]? = some (.bool nw) := by rw [List.getElem?_append_right (by rw [H.k5]; omega), H.k5]; rfl
theorem LW.mark {ms' : List Bool} (H : LW w1 w gw g h n kc ms out nw) (hc : Chg [g] w w') (hm : Mine [g] w' (.slice (some ⟨g, 0, none⟩) n n) ms') : LW w1 w' gw g h n kc ms' out nw :=
  ⟨H.ext.chgF hc (by simp [H.g1]), H.blk.chgF hc (by simp [H.n1]), hm, H.mine.keep fun b hb => by
    simp only [List.mem_cons, List.not_mem_nil, or_false] at hb; subst hb
    exact hc.block b (H.mine.lt b (by simp)) (by simp [Ne.symm H.n3]), H.k5, H.n1, H.n2, H.n3, H.g0, H.g1, H.g2⟩
theorem LW.set {i v : Nat} (H : LW w1 w gw g h n kc ms out nw) (hc : Chg [h] w w') (hm : Mine [h] w' (.slice (some ⟨h, 0, none⟩) n n) ((ints out).set i (v : Int))) : LW w1 w' gw g h n kc ms (out.set i v) nw :=
  ⟨H.ext.chgF hc (by simp [H.g2]), H.blk.chgF hc (by simp [H.n2]), H.mks.keep fun b hb => by
    simp only [List.mem_cons, List.not_mem_nil, or_false] at hb; subst hb
    exact hc.block b (H.mks.lt b (by simp)) (by simp [H.n3]), by rw [ints_set]; exact hm, H.k5, H.n1, H.n2, H.n3, H.g0, H.g1, H.g2⟩
theorem LW.news {nw' : Bool} (H : LW w1 w gw g h n kc ms out nw) (hc : Chg [gw] w w') (hB : Blk gw 74 w' ((kc ++ [Value.slice (some ⟨g, 0, none⟩) n n, .slice (some ⟨h, 0, none⟩) n n, .bool nw]).set 7 (.bool nw'))) : LW w1 w' gw g h n kc ms out nw' := by
  have e : (kc ++ [Value.slice (some ⟨g, 0, none⟩) n n, .slice (some ⟨h, 0, none⟩) n n, .bool nw]).set 7 (.bool nw') = kc ++ [Value.slice (some ⟨g, 0, none⟩) n n, .slice (some ⟨h, 0, none⟩) n n, .bool nw'] := by
    rw [List.set_append_right _ _ (by rw [H.k5]; omega), H.k5]; rfl
  rw [e] at hB
  exact ⟨H.ext.chgF hc (by simp [H.g0]), hB, H.mks.keep fun b hb => by
    simp only [List.mem_cons, List.not_mem_nil, or_false] at hb; subst hb
    exact hc.block b (H.mks.lt b (by simp)) (by simp [Ne.symm H.n1]), H.mine.keep fun b hb => by
    simp only [List.mem_cons, List.not_mem_nil, or_false] at hb; subst hb
    exact hc.block b (H.mine.lt b (by simp)) (by simp [Ne.symm H.n2]), H.k5, H.n1, H.n2, H.n3, H.g0, H.g1, H.g2⟩
theorem LW.l8 (H : LW w1 w gw g h n kc ms out nw) : 7 < (kc ++ [Value.slice (some ⟨g, 0, none⟩) n n, .slice (some ⟨h, 0, none⟩) n n, .bool nw]).length := by simp [H.k5]
theorem l16Put_ok {i m : Nat} (H : LW w1 w gw g h n kc ms out nw) (hi : i < n) (hl : ms.length = n) (hlo : out.length = n) (h64 : ∀ x ∈ out, x < 64) (hm : m < 64) :
    CALL Tryz.prog 118 [.pointer (some ⟨gw, 0, none⟩), .int .i64 (i : Int), .int .i64 (m : Int)] w fun r w' => r = .tuple #[] ∧ LW w1 w' gw g h n kc (ms.set i true) (out.set i (nat0 out i ||| m)) (newL ms out nw i m) ∧ Chg [gw, g, h] w w' := by
  refine F118_call ?_
  unfold F118
  have hi64 := nat0_lt h64 i
  have ho := or_lt64 hm hi64
  have hxd := ext_drew w
  have H1 := H.step hxd
  have hcd : Chg [gw, g, h] w (World.drew1 w) := ⟨hxd.os, hxd.tape, hxd.output, hxd.size, fun b hb _ => hxd.block b hb⟩
  generalize World.drew1 w = wd at *
  have hmk := mkd_get (ms := ms) (i := i) (by rw [hl]; exact hi)
  refine NIL.mk rfl ?_
  refine rd_fld fd74_1 ?_
  refine rd_blkV ty72 H1.blk H1.c5 ?_
  refine rd_indexN u72 ty4 H1.mks.is (by rw [hl]; exact hi) fun b1 o1 hA1 => ?_
  refine rd_loadB ty4 hA1 (Ext.refl _) ?_
  refine rd_not ?_
  have hrd : ∀ {w' : World} {K : Value → Prop} (H : LW w1 w' gw g h n kc ms out nw) (k : K (.int .i64 (nat0 out i : Int))), RD Tryz.prog (Instr.indexAt 23 (.slice (some ⟨h, 0, none⟩) n n) (.int .i64 (i : Int))) w' fun x37 => RD Tryz.prog (Instr.loadAt 3 x37) w' K := fun H k => by
    refine rd_indexN u23 ty3 (i := i) H.mine.is (by rw [ints_len, hlo]; exact hi) fun b1 o1 hA1 => ?_
    rw [ints_nat0] at hA1
    exact rd_loadI ty3 hA1 (Ext.refl _) fun _ => k
  refine br_b (fun hf => ?_) (fun hf => ?_)
  · have hnew : ¬ (mkd ms i ∧ nat0 out i ||| m = nat0 out i) := fun hh => by rw [hmk.1 hh.1] at hf; cases hf
    rw [newL_new hnew]
    refine NIL.mk rfl ?_
    refine rd_fld fd74_1 ?_
    refine rd_blkV ty72 H1.blk H1.c5 ?_
    refine rd_elt (α := Bool) rfl u72 ty4 hi ?_
    refine opu_elt (α := Bool) rfl ty4 H1.mks hl hi mine_boolT fun w2 hc2 hm2 => ?_
    have H2 := H1.mark hc2 hm2
    have hx3 := ext_drew w2
    have H3 := H2.step hx3
    have hc3 : Chg [gw, g, h] w2 (World.drew1 w2) := ⟨hx3.os, hx3.tape, hx3.output, hx3.size, fun b hb _ => hx3.block b hb⟩
    generalize World.drew1 w2 = w3 at *
    refine NIL.mk rfl ?_
    refine rd_fld fd74_2 ?_
    refine rd_blkV ty23 H3.blk H3.c6 ?_
    refine NIL.mk rfl ?_
    refine rd_fld fd74_2 ?_
    refine rd_blkV ty23 H3.blk H3.c6 ?_
    refine rd_indexN u23 ty3 (i := i) H3.mine.is (by rw [ints_len, hlo]; exact hi) fun b4 o4 hA4 => ?_
    rw [ints_nat0] at hA4
    refine rd_loadI ty3 hA4 (Ext.refl _) fun _ => ?_
    refine rd_or (m := nat0 out i) (n := m) (by omega) (by omega) ?_
    refine rd_elt (α := Int) rfl u23 ty3 hi ?_
    refine opu_elt (α := Int) rfl ty3 H3.mine (by rw [ints_len, hlo]) hi (mine_nat (v := nat0 out i ||| m) (by omega)) fun w4 hc4 hm4 => ?_
    have H4 := H3.set (v := nat0 out i ||| m) hc4 hm4
    refine NIL.mk rfl ?_
    refine rd_fld fd74_3 ?_
    refine opu_blkC (α := Raw) (lo := 0) (hi := 0) ty4 rfl rfl H4.blk H4.l8 (ownI_raw rfl) fun w5 hc5 hB5 => ?_
    exact ⟨rfl, H4.news hc5.one hB5, (((hcd.trans (hc2.mono (by simp))).trans hc3).trans (hc4.mono (by simp))).trans (hc5.one.mono (by simp))⟩
  · have hym : mkd ms i := by rw [hmk]; simpa using hf
    refine NIL.mk rfl ?_
    refine rd_fld fd74_2 ?_
    refine rd_blkV ty23 H1.blk H1.c6 ?_
    refine hrd H1 ?_
    refine rd_or (m := nat0 out i) (n := m) (by omega) (by omega) ?_
    refine NIL.mk rfl ?_
    refine rd_fld fd74_2 ?_
    refine rd_blkV ty23 H1.blk H1.c6 ?_
    refine hrd H1 ?_
    refine rd_neq ?_
    refine br (fun hne => ?_) (fun heq => ?_)
    · have hnew : ¬ (mkd ms i ∧ nat0 out i ||| m = nat0 out i) := fun hh => hne (by rw [hh.2])
      rw [newL_new hnew]
      refine NIL.mk rfl ?_
      refine rd_fld fd74_1 ?_
      refine rd_blkV ty72 H1.blk H1.c5 ?_
      refine rd_elt (α := Bool) rfl u72 ty4 hi ?_
      refine opu_elt (α := Bool) rfl ty4 H1.mks hl hi mine_boolT fun w2 hc2 hm2 => ?_
      have H2 := H1.mark hc2 hm2
      have hx3 := ext_drew w2
      have H3 := H2.step hx3
      have hc3 : Chg [gw, g, h] w2 (World.drew1 w2) := ⟨hx3.os, hx3.tape, hx3.output, hx3.size, fun b hb _ => hx3.block b hb⟩
      generalize World.drew1 w2 = w3 at *
      refine NIL.mk rfl ?_
      refine rd_fld fd74_2 ?_
      refine rd_blkV ty23 H3.blk H3.c6 ?_
      refine NIL.mk rfl ?_
      refine rd_fld fd74_2 ?_
      refine rd_blkV ty23 H3.blk H3.c6 ?_
      refine rd_indexN u23 ty3 (i := i) H3.mine.is (by rw [ints_len, hlo]; exact hi) fun b4 o4 hA4 => ?_
      rw [ints_nat0] at hA4
      refine rd_loadI ty3 hA4 (Ext.refl _) fun _ => ?_
      refine rd_or (m := nat0 out i) (n := m) (by omega) (by omega) ?_
      refine rd_elt (α := Int) rfl u23 ty3 hi ?_
      refine opu_elt (α := Int) rfl ty3 H3.mine (by rw [ints_len, hlo]) hi (mine_nat (v := nat0 out i ||| m) (by omega)) fun w4 hc4 hm4 => ?_
      have H4 := H3.set (v := nat0 out i ||| m) hc4 hm4
      refine NIL.mk rfl ?_
      refine rd_fld fd74_3 ?_
      refine opu_blkC (α := Raw) (lo := 0) (hi := 0) ty4 rfl rfl H4.blk H4.l8 (ownI_raw rfl) fun w5 hc5 hB5 => ?_
      exact ⟨rfl, H4.news hc5.one hB5, (((hcd.trans (hc2.mono (by simp))).trans hc3).trans (hc4.mono (by simp))).trans (hc5.one.mono (by simp))⟩
    · have he : nat0 out i ||| m = nat0 out i := Int.ofNat_inj.1 (Decidable.not_not.1 heq)
      rw [newL_old hym he, set_mkd hym, he, set_nat0 (by rw [hlo]; exact hi)]
      exact ⟨rfl, H1, hcd⟩
end
end Go.Proofs.YtjgfldfbljmhhaaGreat
namespace Go.Proofs.YtjgfldfbljmhhaaGreat
open Go Go.Sh Go.Proofs
set_option linter.unusedVariables false
/-- spec.l16All -/
def F57 (a0 : Value) (w : World) (R : Value → World → Prop) : Prop :=
  OP Tryz.prog (Instr.box 35 a0) w fun x1 w =>
  (fun w0 => PAR w0 [[(0, 12)], [(1, 13)], [(2, 14), (1, 13)], [(3, 15), (2, 14)], [(4, 16), (3, 15), (3, 15)], [(5, 17)], [(6, 18), (5, 17)], [(7, 19), (6, 18)], [(8, 20), (7, 19), (7, 19)]] (fun Q =>
   (∀ (u1 : Env) (T : Nat → Nat × Nat) (w : World), Ext w0 w → Apart [] w0.heap.size w.heap.size T → (True) → (fun w1 => RD Tryz.prog (Instr.loadAt 35 x1) w fun x12 =>
  Ext w1 w ∧ Q 0 (upd u1 12 x12) (updT T 0 (w1.heap.size, w.heap.size)) w) w) ∧
   (∀ (u1 : Env) (T : Nat → Nat × Nat) (w : World), Ext w0 w → Apart [] w0.heap.size w.heap.size T → (True) → (fun w1 => RD Tryz.prog (Instr.fieldAt 35 x1 4) w fun x13 =>
  Ext w1 w ∧ Q 1 (upd u1 13 x13) (updT T 1 (w1.heap.size, w.heap.size)) w) w) ∧
   (∀ (u1 : Env) (T : Nat → Nat × Nat) (w : World), Ext w0 w → Apart [1] w0.heap.size w.heap.size T → (Q 1 u1 T w ∧ True) → (fun w1 => RD Tryz.prog (Instr.loadAt 33 (u1 13)) w fun x14 =>
  Ext w1 w ∧ Q 2 (upd u1 14 x14) (updT T 2 (w1.heap.size, w.heap.size)) w) w) ∧
   (∀ (u1 : Env) (T : Nat → Nat × Nat) (w : World), Ext w0 w → Apart [2] w0.heap.size w.heap.size T → (Q 2 u1 T w ∧ True) → (fun w1 => RD Tryz.prog (Builtin.len_ #[33] 3 [(u1 14)].toArray) w fun x15 =>
  Ext w1 w ∧ Q 3 (upd u1 15 x15) (updT T 3 (w1.heap.size, w.heap.size)) w) w) ∧
   (∀ (u1 : Env) (T : Nat → Nat × Nat) (w : World), Ext w0 w → Apart [3, 3] w0.heap.size w.heap.size T → (Q 3 u1 T w ∧ Q 3 u1 T w ∧ True) → (fun w1 => OP Tryz.prog (Instr.makeSlice 72 (u1 15) (u1 15)) w fun x16 w =>
  Ext w1 w ∧ Q 4 (upd u1 16 x16) (updT T 4 (w1.heap.size, w.heap.size)) w) w) ∧
   (∀ (u1 : Env) (T : Nat → Nat × Nat) (w : World), Ext w0 w → Apart [] w0.heap.size w.heap.size T → (True) → (fun w1 => RD Tryz.prog (Instr.fieldAt 35 x1 4) w fun x17 =>
  Ext w1 w ∧ Q 5 (upd u1 17 x17) (updT T 5 (w1.heap.size, w.heap.size)) w) w) ∧
   (∀ (u1 : Env) (T : Nat → Nat × Nat) (w : World), Ext w0 w → Apart [5] w0.heap.size w.heap.size T → (Q 5 u1 T w ∧ True) → (fun w1 => RD Tryz.prog (Instr.loadAt 33 (u1 17)) w fun x18 =>
  Ext w1 w ∧ Q 6 (upd u1 18 x18) (updT T 6 (w1.heap.size, w.heap.size)) w) w) ∧
   (∀ (u1 : Env) (T : Nat → Nat × Nat) (w : World), Ext w0 w → Apart [6] w0.heap.size w.heap.size T → (Q 6 u1 T w ∧ True) → (fun w1 => RD Tryz.prog (Builtin.len_ #[33] 3 [(u1 18)].toArray) w fun x19 =>
  Ext w1 w ∧ Q 7 (upd u1 19 x19) (updT T 7 (w1.heap.size, w.heap.size)) w) w) ∧
   (∀ (u1 : Env) (T : Nat → Nat × Nat) (w : World), Ext w0 w → Apart [7, 7] w0.heap.size w.heap.size T → (Q 7 u1 T w ∧ Q 7 u1 T w ∧ True) → (fun w1 => OP Tryz.prog (Instr.makeSlice 23 (u1 19) (u1 19)) w fun x20 w =>
  Ext w1 w ∧ Q 8 (upd u1 20 x20) (updT T 8 (w1.heap.size, w.heap.size)) w) w) ∧
   True)
   (fun Q => ∀ (u1 : Env) (T : Nat → Nat × Nat) (w : World), Ext w0 w → Apart [0, 1, 2, 3, 4, 5, 6, 7, 8] w0.heap.size w.heap.size T → (Q 0 u1 T w ∧ Q 1 u1 T w ∧ Q 2 u1 T w ∧ Q 3 u1 T w ∧ Q 4 u1 T w ∧ Q 5 u1 T w ∧ Q 6 u1 T w ∧ Q 7 u1 T w ∧ Q 8 u1 T w ∧ True) →
   RD Tryz.prog (Instr.build 74 #[(0, (u1 12)), (1, (u1 16)), (2, (u1 20)), (3, (Value.bool true))]) w fun x21 =>
  OP Tryz.prog (Instr.box 74 x21) w fun x22 w =>
  RD Tryz.prog (Instr.loadAt 35 x1) w fun x23 =>
  CALL Tryz.prog 117 [x23] w fun x24 w =>
  CALL Tryz.prog 77 [x24] w fun x25 w =>
  LOOPI [5] [(Value.int .i64 0)] w fun u4 w next4 =>
   RD Tryz.prog (Builtin.len_ #[23] 3 [x25].toArray) w fun x28 =>
   RD Tryz.prog (bin .lss 3 (.tmp 0) (.tmp 0) (u4 5) x28) w fun x29 =>
   BR x29
    ((fun w => RD Tryz.prog (Instr.fieldAt 35 x1 3) w fun x33 =>
    RD Tryz.prog (Instr.loadAt 23 x33) w fun x34 =>
    RD Tryz.prog (Instr.indexAt 23 x25 (u4 5)) w fun x37 =>
    RD Tryz.prog (Instr.loadAt 3 x37) w fun x38 =>
    RD Tryz.prog (Instr.indexAt 23 x34 x38) w fun x39 =>
    RD Tryz.prog (Instr.loadAt 3 x39) w fun x40 =>
    CALL Tryz.prog 118 [x22, x40, (Value.int .i64 0)] w fun x41 w =>
    RD Tryz.prog (bin .add 3 (.tmp 0) (.const undef) (u4 5) (Value.int .i64 1)) w fun x31 =>
    next4 [x31] w) (World.drew1 w))
    (LOOPI [] [] w fun u7 w next7 =>
     NIL x22 <|
     RD Tryz.prog (Instr.fieldAt 74 x22 3) w fun x44 =>
     RD Tryz.prog (Instr.loadAt 4 x44) w fun x45 =>
     BR x45
      (NIL x22 <|
      RD Tryz.prog (Instr.fieldAt 74 x22 3) w fun x48 =>
      OPU Tryz.prog (Instr.storeAt 4 x48 (Value.bool false)) w fun w =>
      LOOPI [6] [(Value.int .i64 0)] w fun u10 w next10 =>
       RD Tryz.prog (Instr.fieldAt 35 x1 4) w fun x50 =>
       RD Tryz.prog (Instr.loadAt 33 x50) w fun x51 =>
       RD Tryz.prog (Builtin.len_ #[33] 3 [x51].toArray) w fun x52 =>
       RD Tryz.prog (bin .lss 3 (.tmp 0) (.tmp 0) (u10 6) x52) w fun x53 =>
       BR x53
        (NIL x22 <|
        RD Tryz.prog (Instr.fieldAt 74 x22 1) w fun x58 =>
        RD Tryz.prog (Instr.loadAt 72 x58) w fun x59 =>
        RD Tryz.prog (Instr.indexAt 72 x59 (u10 6)) w fun x61 =>
        RD Tryz.prog (Instr.loadAt 4 x61) w fun x62 =>
        RD Tryz.prog (Op.unary .not x62) w fun x63 =>
        BR x63
         (RD Tryz.prog (bin .add 3 (.tmp 0) (.const undef) (u10 6) (Value.int .i64 1)) w fun x55 =>
         next10 [x55] w)
         (RD Tryz.prog (Instr.fieldAt 35 x1 4) w fun x64 =>
         RD Tryz.prog (Instr.loadAt 33 x64) w fun x65 =>
         RD Tryz.prog (Instr.indexAt 33 x65 (u10 6)) w fun x67 =>
         RD Tryz.prog (Instr.loadAt 136 x67) w fun x68 =>
         OP Tryz.prog (Instr.alloc 136 true (.tuple #[])) w fun x7 w =>
         OPU Tryz.prog (Instr.storeAt 136 x7 x68) w fun w =>
         NIL x22 <|
         RD Tryz.prog (Instr.fieldAt 74 x22 2) w fun x71 =>
         RD Tryz.prog (Instr.loadAt 23 x71) w fun x72 =>
         RD Tryz.prog (Instr.indexAt 23 x72 (u10 6)) w fun x74 =>
         RD Tryz.prog (Instr.loadAt 3 x74) w fun x75 =>
         JOIN [8] (fun J25 =>
          RD Tryz.prog (Instr.fieldAt 136 x7 0) w fun x76 =>
          RD Tryz.prog (Instr.loadAt 3 x76) w fun x77 =>
          RD Tryz.prog (bin .eql 3 (.tmp 0) (.const undef) x77 (Value.int .i64 6)) w fun x79 =>
          BR x79
           (RD Tryz.prog (Instr.fieldAt 136 x7 1) w fun x81 =>
           RD Tryz.prog (Instr.loadAt 3 x81) w fun x82 =>
           CALL Tryz.prog 119 [x82] w fun x83 w =>
           RD Tryz.prog (bin .or 3 (.tmp 0) (.tmp 0) x75 x83) w fun x84 =>
           J25 [x84] w)
           (RD Tryz.prog (bin .eql 3 (.tmp 0) (.const undef) x77 (Value.int .i64 7)) w fun x86 =>
           BR x86
            (RD Tryz.prog (Instr.fieldAt 136 x7 1) w fun x88 =>
            RD Tryz.prog (Instr.loadAt 3 x88) w fun x89 =>
            CALL Tryz.prog 119 [x89] w fun x90 w =>
            CALL Tryz.prog 120 [x75, x90] w fun x91 w =>
            J25 [x91] w)
            (RD Tryz.prog (bin .eql 3 (.tmp 0) (.const undef) x77 (Value.int .i64 4)) w fun x93 =>
            BR x93
             (RD Tryz.prog (Instr.fieldAt 35 x1 3) w fun x95 =>
             RD Tryz.prog (Instr.loadAt 23 x95) w fun x96 =>
             RD Tryz.prog (Instr.fieldAt 136 x7 1) w fun x97 =>
             RD Tryz.prog (Instr.loadAt 3 x97) w fun x98 =>
             RD Tryz.prog (Instr.indexAt 23 x96 x98) w fun x99 =>
             RD Tryz.prog (Instr.loadAt 3 x99) w fun x100 =>
             CALL Tryz.prog 118 [x22, x100, x75] w fun x102 w =>
             RD Tryz.prog (Instr.loadAt 35 x1) w fun x103 =>
             RD Tryz.prog (Instr.fieldAt 136 x7 1) w fun x104 =>
             RD Tryz.prog (Instr.loadAt 3 x104) w fun x105 =>
             CALL Tryz.prog 116 [x103, x105] w fun x106 w =>
             NIL x22 <|
             RD Tryz.prog (Instr.fieldAt 74 x22 1) w fun x109 =>
             RD Tryz.prog (Instr.loadAt 72 x109) w fun x110 =>
             RD Tryz.prog (Instr.indexAt 72 x110 x106) w fun x112 =>
             RD Tryz.prog (Instr.loadAt 4 x112) w fun x113 =>
             RD Tryz.prog (Op.unary .not x113) w fun x114 =>
             BR x114
              (RD Tryz.prog (bin .add 3 (.tmp 0) (.const undef) (u10 6) (Value.int .i64 1)) w fun x55 =>
              next10 [x55] w)
              (NIL x22 <|
              RD Tryz.prog (Instr.fieldAt 74 x22 2) w fun x117 =>
              RD Tryz.prog (Instr.loadAt 23 x117) w fun x118 =>
              RD Tryz.prog (Instr.indexAt 23 x118 x106) w fun x120 =>
              RD Tryz.prog (Instr.loadAt 3 x120) w fun x121 =>
              J25 [x121] w))
             (J25 [x75] w)))) (fun u25 w =>
          RD Tryz.prog (Instr.loadAt 35 x1) w fun x122 =>
          CALL Tryz.prog 121 [x122, (u10 6)] w fun x124 w =>
          LOOPI [11] [(Value.int .i64 0)] w fun u27 w next27 =>
           RD Tryz.prog (Builtin.len_ #[23] 3 [x124].toArray) w fun x127 =>
           RD Tryz.prog (bin .lss 3 (.tmp 0) (.tmp 0) (u27 11) x127) w fun x128 =>
           BR x128
            (RD Tryz.prog (Instr.indexAt 23 x124 (u27 11)) w fun x134 =>
            RD Tryz.prog (Instr.loadAt 3 x134) w fun x135 =>
            CALL Tryz.prog 118 [x22, x135, (u25 8)] w fun x137 w =>
            RD Tryz.prog (bin .add 3 (.tmp 0) (.const undef) (u27 11) (Value.int .i64 1)) w fun x130 =>
            next27 [x130] w)
            (RD Tryz.prog (bin .add 3 (.tmp 0) (.const undef) (u10 6) (Value.int .i64 1)) w fun x55 =>
            next10 [x55] w))))
        (next7 [] w))
      (R x22 w)))) (World.drew1 w)
def cfg57 : Cfg := { ext := extL, joins := [(25, 5316911983139587933751502326797959936, [8])], loops := [(4, 4397979402272, [5]), (7, 348449143727040986586495598005732602023872, []), (10, 348449143727040986586495597447180695113664, [6]), (27, 348406608431175869278562676184201677506560, [11])], draws := [(6, [0, 1, 2, 3, 4, 5, 6, 7, 8, 9], 0)], pars := [(1, 8384520, 9)] }
theorem F57_eq (a0 : Value) (w : World) (R : Value → World → Prop) : vcF Tryz.prog cfg57 Tryz.f57 [a0] w R = F57 a0 w R := by kernel_rfl
theorem F57_call {a0 : Value} {w : World} {R : Value → World → Prop} (h : F57 a0 w R) : CALL Tryz.prog 57 [a0] w R :=
  call_of (g := cfg57) ent mixed Tryz.func57 (Nat.le_of_ble_eq_true (by kernel_rfl)) (by kernel_rfl) (F57_eq a0 w R ▸ h)
set_option linter.unusedVariables false
set_option linter.unusedSimpArgs false
open Rep (rep)
/-- what the operations ahead of the look yield -/
def lkQ (c : DCode) (g1 n : Nat) (w0 : World) : ParQ := fun i u T w => match i with
  | 0 => Is w0 (u 12) c
  | 1 => u 13 = .pointer (some ⟨g1, 0 + 4, none⟩)
  | 2 => Is w0 (u 14) c.ins
  | 3 => u 15 = .int .i64 (n : Int)
  | 4 => ∃ g, u 16 = .slice (some ⟨g, 0, none⟩) n n ∧ (T 4).1 ≤ g ∧ g < (T 4).2 ∧ Mine [g] w (.slice (some ⟨g, 0, none⟩) n n) (List.replicate n false)
  | 5 => u 17 = .pointer (some ⟨g1, 0 + 4, none⟩)
  | 6 => Is w0 (u 18) c.ins
  | 7 => u 19 = .int .i64 (n : Int)
  | 8 => ∃ g, u 20 = .slice (some ⟨g, 0, none⟩) n n ∧ (T 8).1 ≤ g ∧ g < (T 8).2 ∧ Mine [g] w (.slice (some ⟨g, 0, none⟩) n n) (ints (List.replicate n 0))
  | _ => True
theorem l16All_ok {w W0 : World} {v0 : Value} {c : DCode} (h0 : Is W0 v0 c) (e0 : Ext W0 w) (hc : CodeR c) :
    CALL Tryz.prog 57 [v0] w fun r w' => Ext w w' ∧ ∃ gw, r = .pointer (some ⟨gw, 0, none⟩) ∧ At w' gw (0 + 5) (metN c) ∧ At w' gw (0 + 6) (ints (mayN c)) := by
  refine F57_call ?_
  unfold F57
  have h8 := hc.1.procs8
  have hil := hc.f.ins
  have hz0 := (zN_end hc h8.2).2.2
  have hrep := HP.start (c := c)
  refine op_box h0 e0 fun w1 hx1 hA => ?_
  have hs1 := hx1.size
  have hn : c.ins.length = c.ins.length := rfl
  generalize hnn : c.ins.length = n at hn
  rw [hnn] at hil hrep
  have hx1d := ext_drew w1
  refine PAR.mk (lkQ c w.heap.size n (World.drew1 w1)) ?_ ?_ ?_
  · intro i u u' T T' wa wb hxa hxb hd hq
    match i, hd, hq with
    | 0, hd, hq => have := (hd (0, 12) (by decide)).1; show Is _ (u' 12) _; simp only [this]; exact hq
    | 1, hd, hq => exact (hd (1, 13) (by decide)).1.trans hq
    | 2, hd, hq => have := (hd (2, 14) (by decide)).1; show Is _ (u' 14) _; simp only [this]; exact hq
    | 3, hd, hq => exact (hd (3, 15) (by decide)).1.trans hq
    | 4, hd, ⟨g, q1, q2, q3, q4⟩ =>
      obtain ⟨e1, e2⟩ := hd (4, 16) (by decide)
      simp only at e1 e2
      exact ⟨g, e1.trans q1, by rw [e2]; exact q2, by rw [e2]; exact q3, q4.ext hxb⟩
    | 5, hd, hq => exact (hd (5, 17) (by decide)).1.trans hq
    | 6, hd, hq => have := (hd (6, 18) (by decide)).1; show Is _ (u' 18) _; simp only [this]; exact hq
    | 7, hd, hq => exact (hd (7, 19) (by decide)).1.trans hq
    | 8, hd, ⟨g, q1, q2, q3, q4⟩ =>
      obtain ⟨e1, e2⟩ := hd (8, 20) (by decide)
      simp only at e1 e2
      exact ⟨g, e1.trans q1, by rw [e2]; exact q2, by rw [e2]; exact q3, q4.ext hxb⟩
    | n + 9, _, _ => trivial
  · refine ⟨fun u T w' hx _ _ => ?_, fun u T w' hx _ _ => ?_, fun u T w' hx _ hp => ?_, fun u T w' hx _ hp => ?_, fun u T w' hx _ hp => ?_, fun u T w' hx _ _ => ?_, fun u T w' hx _ hp => ?_, fun u T w' hx _ hp => ?_, fun u T w' hx _ hp => ?_, trivial⟩
    · exact rd_load ty35 hA (hx1d.trans hx) fun v6 h6 => ⟨Ext.refl _, h6.ext hx1d⟩
    · exact rd_fld fd35_4 ⟨Ext.refl _, rfl⟩
    · have q0 : u 13 = _ := hp.1
      rw [q0]
      exact rd_load ty33 (at_DCode_4 hA) (hx1d.trans hx) fun v6 h6 => ⟨Ext.refl _, h6.ext hx1d⟩
    · have q1 : Is _ (u 14) c.ins := hp.1
      exact rd_len u33 q1 (by rw [hnn]; exact ⟨Ext.refl _, rfl⟩)
    · have q2 : u 15 = _ := hp.1
      rw [q2]
      exact op_makeB (by omega) (by omega) fun w4 hx4 r => ⟨hx4, _, rfl, Nat.le_refl _, r.lt _ (List.mem_singleton.2 rfl), r⟩
    · exact rd_fld fd35_4 ⟨Ext.refl _, rfl⟩
    · have q0 : u 17 = _ := hp.1
      rw [q0]
      exact rd_load ty33 (at_DCode_4 hA) (hx1d.trans hx) fun v6 h6 => ⟨Ext.refl _, h6.ext hx1d⟩
    · have q1 : Is _ (u 18) c.ins := hp.1
      exact rd_len u33 q1 (by rw [hnn]; exact ⟨Ext.refl _, rfl⟩)
    · have q2 : u 19 = _ := hp.1
      rw [q2]
      exact op_makeI (by omega) (by omega) fun w4 hx4 r => ⟨hx4, _, rfl, Nat.le_refl _, r.lt _ (List.mem_singleton.2 rfl), r⟩
  rintro u T w2 hx2 hap ⟨hq0, -, -, -, ⟨g, q16, hga, hgb, hMg⟩, -, -, -, ⟨h, q20, hha, hhb, hMh⟩, -⟩
  have hq0 : Is (World.drew1 w1) (u 12) c := hq0
  have t4 := hap.1 4 (by decide)
  have t8 := hap.1 8 (by decide)
  have d48 := hap.2 4 (by decide) 8 (by decide) (by decide)
  have hx12 := hx1d.trans hx2
  have hsd : (World.drew1 w1).heap.size = w1.heap.size := rfl
  rw [q16, q20]
  obtain ⟨a0, a1, a2, a3, a4, n0, n1, n2, n3, n4, k0, k1, k2, k3, k4, hcv⟩ := code_cells hq0
  rw [hcv]
  refine rd_build (cells := #[.slice a0 n0 k0, .slice a1 n1 k1, .slice a2 n2 k2, .slice a3 n3 k3, .slice a4 n4 k4, .slice (some ⟨g, 0, none⟩) n n, .slice (some ⟨h, 0, none⟩) n n, .bool true]) (by kernel_rfl) ?_
  refine op_boxB fun w3 hx3 hB3 => ?_
  have H3 : LW w1 w3 w2.heap.size g h n [.slice a0 n0 k0, .slice a1 n1 k1, .slice a2 n2 k2, .slice a3 n3 k3, .slice a4 n4 k4] (List.replicate n false) (List.replicate n 0) true := ⟨hx12.trans hx3, hB3, hMg.ext hx3, hMh.ext hx3, rfl, by omega, by omega, by omega, hx12.size, by omega, by omega⟩
  generalize [Value.slice a0 n0 k0, .slice a1 n1 k1, .slice a2 n2 k2, .slice a3 n3 k3, .slice a4 n4 k4] = kc at *
  generalize w2.heap.size = gw at *
  refine rd_load ty35 hA H3.ext fun v23 h23 => ?_
  refine (l14Roots_ok h23 H3.ext hc).mono ?_
  rintro v24 w4 ⟨hx4, ho4⟩
  refine (l09Marked_ok ho4.is (Ext.refl _) (by rw [setB_len]; omega)).mono ?_
  rintro v25 w5 ⟨hx5, ho5⟩
  rw [setB_len, idxM_setB] at ho5
  have H4 := H3.step hx4
  have H5 := H4.step hx5
  have hL : ∀ p, p ∈ setL c.procs.length (RootP c) ↔ RootP c p := fun p => by rw [mem_setL]; exact ⟨fun h => h.2, fun h => ⟨h.lt hc, h⟩⟩
  have hLl : (setL c.procs.length (RootP c)).length ≤ 8 := Nat.le_trans setL_len h8.1
  generalize setL c.procs.length (RootP c) = L at *
  have hgw4 := H4.blk.lt
  have hg4 := H4.mks.lt g (by simp)
  have hh4 := H4.mine.lt h (by simp)
  have hrl : (List.replicate n 0).length = n := by simp
  have hr64 : ∀ x ∈ List.replicate n 0, x < 64 := fun x hx => by rw [(List.mem_replicate.1 hx).2]; omega
  have hset0 : ∀ i, i < n → (List.replicate n 0).set i (nat0 (List.replicate n 0) i ||| 0) = List.replicate n 0 := fun i hi => by rw [Nat.or_zero, set_nat0 (by rw [hrl]; exact hi)]
  have hmz : ∀ i l, i < c.ins.length → (nat0 (List.replicate n 0) i).testBit l = true → MayP c i l := fun i l hi hb => (hrep.snd i l hi hb).1
  generalize List.replicate n 0 = out at *
  refine loopC L.length (fun k us w' => ∃ ms, us = [.int .i64 (k : Int)] ∧ k ≤ L.length ∧ LW w1 w' gw g h n kc ms out true ∧ OwnI w4.heap.size w5.heap.size w' v25 (ints L) ∧ ms.length = n ∧ (∀ i, mkd ms i → MetP c i) ∧ ∀ p ∈ L.take k, mkd ms (eN c p)) 0 (Nat.zero_le _) ⟨_, rfl, Nat.zero_le _, H5, ho5.toI, by simp, fun i h => absurd h mkd_replicate, by simp⟩ ?_
  rintro k mk u6 w6 hkm ⟨ms, hu, hkl, H6, hO6, hl6, hsn6, hrt6⟩
  simp only [List.map_cons, List.map_nil, List.cons.injEq, and_true] at hu
  rw [hu]
  refine rd_len u23 hO6.is ?_
  rw [ints_len]
  refine rd_lss ?_
  refine br (fun hlt => ?_) (fun hge => ?_)
  · have hk : k < L.length := by omega
    have hxd := ext_drew w6
    have H7 := H6.step hxd
    have hO7 := hO6.ext hxd
    generalize World.drew1 w6 = w7 at *
    refine rd_fld fd35_3 ?_
    refine rd_load ty23 (at_DCode_3 hA) H7.ext fun v34 h34 => ?_
    refine rd_indexN u23 ty3 (i := k) hO7.is (by rw [ints_len]; exact hk) fun b2 o2 hA2 => ?_
    rw [ints_get] at hA2
    refine rd_loadI ty3 hA2 (Ext.refl _) fun _ => ?_
    have htk := fun x => mem_take_iff hk (x := x)
    have hrp := (hL L[k]).1 (List.getElem_mem hk)
    generalize L[k] = p at *
    have hpe : p < c.entry.length := by rw [hc.2.1.1]; exact hrp.lt hc
    obtain ⟨he1, he2, _⟩ := eN_eq hc hpe
    refine rd_indexN u23 ty3 h34 hpe fun b5 o5 hA5 => ?_
    rw [en_get hpe, he1] at hA5
    refine rd_loadI ty3 hA5 H7.ext fun _ => ?_
    refine (l16Put_ok (i := eN c p) (m := 0) H7 (by omega) hl6 hrl hr64 (by omega)).mono ?_
    rintro _ w8 ⟨rfl, H8, hc8⟩
    rw [hset0 _ (by omega)] at H8
    refine rd_inc (by omega) ?_
    refine ⟨mk - 1, by omega, k + 1, by omega, _, rfl, by omega, H8, hO7.chgF hc8 (by simp; omega), by simp [hl6], fun i hi => ?_, fun q hq => ?_⟩
    · rcases (mkd_set (by rw [hl6]; omega)).1 hi with h | h
      · exact hsn6 i h
      · rw [h]; exact .root hrp
    · rcases (htk q).1 hq with h | h
      · exact mkd_mono (hrt6 q h)
      · rw [h]; exact (mkd_set (by rw [hl6]; omega)).2 (.inr rfl)
  have hrt : ∀ p, RootP c p → mkd ms (eN c p) := fun p hp => hrt6 p (by rw [List.take_of_length_le (by omega)]; exact (hL p).2 hp)
  have hT : LP c ms out false ms out 0 := ⟨by rw [hl6, hnn], by rw [hrl, hnn], hr64, hsn6, hmz, hrt, fun e => (by cases e), fun _ => ⟨rfl, rfl, fun i hi => by omega⟩⟩
  clear hu hkm hO6 hset0
  refine LOOPI.mk (fun m us w' => ∃ (ms : List Bool) (out : List Nat) (nw : Bool), us = [] ∧ m = (n * 64 - (cntM ms + out.sum)) + (if nw then 1 else 0) ∧ LW w1 w' gw g h n kc ms out nw ∧ LP c ms out false ms out 0 ∧ (nw = false → ms = metN c ∧ out = mayN c)) (n * 64 - (cntM ms + out.sum) + 1) ⟨ms, out, true, rfl, rfl, H6, hT, fun e => by cases e⟩ ?_
  rintro m u9 w9 ⟨ms, out, nw, hu, hm, H9, hT9, hend⟩
  have hbnd : ∀ {ms0 ms : List Bool} {out0 out : List Nat} {nw : Bool} {k : Nat}, LP c ms0 out0 nw ms out k → cntM ms + out.sum ≤ n * 64 := fun {ms0 ms out0 out nw k} hP => by
    have h1 := cntM_le ms
    rw [hP.len, hnn] at h1
    have h2 := sum_le (l := out) (b := 63) fun x hx => by have := hP.lt x hx; omega
    rw [hP.leno, hnn] at h2
    omega
  refine NIL.mk rfl ?_
  refine rd_fld fd74_3 ?_
  refine rd_blkV ty4 H9.blk H9.c7 ?_
  refine br_b (fun hag => ?_) (fun hag => ?_)
  case refine_2 =>
    obtain ⟨hm1, hm2⟩ := hend hag
    refine ⟨hx1.trans H9.ext, gw, rfl, at_of_blk H9.blk H9.c5 ?_, at_of_blk H9.blk H9.c6 ?_⟩
    · rw [← hm1]; exact H9.mks.is
    · rw [← hm2]; exact H9.mine.is
  rw [hag, if_pos rfl] at hm
  have hb9 := hbnd hT9
  refine NIL.mk rfl ?_
  refine rd_fld fd74_3 ?_
  refine opu_blkC (α := Raw) (lo := 0) (hi := 0) ty4 rfl rfl H9.blk H9.l8 (ownI_raw rfl) fun w10 hc10 hB10 => ?_
  have H10 := H9.news hc10.one hB10
  refine loopC n (fun k us w' => ∃ (ms' : List Bool) (out' : List Nat) (nw' : Bool), us = [.int .i64 (k : Int)] ∧ k ≤ n ∧ LW w1 w' gw g h n kc ms' out' nw' ∧ LP c ms out nw' ms' out' k) 0 (Nat.zero_le _) ⟨ms, out, false, rfl, Nat.zero_le _, H10, hT9⟩ ?_
  rintro k mk u11 w11 hkm ⟨ms11, out11, nw11, hu, hkl, H11, hT11⟩
  simp only [List.map_cons, List.map_nil, List.cons.injEq, and_true] at hu
  rw [hu]
  refine rd_fld fd35_4 ?_
  refine rd_load ty33 (at_DCode_4 hA) H11.ext fun v51 h51 => ?_
  refine rd_len u33 h51 ?_
  rw [hnn]
  refine rd_lss ?_
  refine br (fun hlt => ?_) (fun hge => ?_)
  case refine_2 =>
    have hke : k = n := by omega
    rw [hke] at hT11
    have hb11 := hbnd hT11
    refine ⟨(n * 64 - (cntM ms11 + out11.sum)) + (if nw11 then 1 else 0), ?_, ms11, out11, nw11, rfl, rfl, H11, hT11.again, fun e => ?_⟩
    · cases nw11 with
      | true => have := hT11.yes rfl; simp; omega
      | false => rw [(hT11.no rfl).1, (hT11.no rfl).2.1]; simp; omega
    · rw [e, ← hnn] at hT11
      exact hT11.fin hc
  have hk : k < n := by omega
  have hkn : k < c.ins.length := by omega
  have hl11 : ms11.length = n := by rw [hT11.len, hnn]
  have hlo11 : out11.length = n := by rw [hT11.leno, hnn]
  refine NIL.mk rfl ?_
  refine rd_fld fd74_1 ?_
  refine rd_blkV ty72 H11.blk H11.c5 ?_
  refine rd_indexN u72 ty4 (i := k) H11.mks.is (by rw [hl11]; exact hk) fun b4 o4 hA4 => ?_
  refine rd_loadB ty4 hA4 (Ext.refl _) ?_
  refine rd_not ?_
  have hmk11 := mkd_get (ms := ms11) (i := k) (by rw [hl11]; exact hk)
  refine br_b (fun hf => ?_) (fun hf => ?_)
  · have hnm : ¬ mkd ms11 k := by rw [hmk11]; simpa using hf
    refine rd_inc (by omega) ?_
    exact ⟨mk - 1, by omega, k + 1, by omega, ms11, out11, nw11, rfl, by omega, H11, hT11.skip hnm⟩
  have hym : mkd ms11 k := by rw [hmk11]; simpa using hf
  have hMk := hT11.snd k hym
  refine rd_fld fd35_4 ?_
  refine rd_load ty33 (at_DCode_4 hA) H11.ext fun v65 h65 => ?_
  refine rd_indexN u33 ty136 h65 hkn fun b3 o3 hA3 => ?_
  rw [insAt_get] at hA3
  refine rd_load ty136 hA3 H11.ext fun v32 h32 => ?_
  refine op_var zl136 rfl ty136 rfl h32 H11.ext fun w12 hx12' hAI hV12 => ?_
  have H12 := H11.step hx12'
  have hAB12 := atB_box h32 hV12 rfl
  refine NIL.mk rfl ?_
  refine rd_fld fd74_2 ?_
  refine rd_blkV ty23 H12.blk H12.c6 ?_
  refine rd_indexN u23 ty3 (i := k) H12.mine.is (by rw [ints_len, hlo11]; exact hk) fun b5 o5 hA5 => ?_
  rw [ints_nat0] at hA5
  refine rd_loadI ty3 hA5 (Ext.refl _) fun _ => ?_
  have hk64 := hT11.lt0 k
  have hkz : nw11 = false → nat0 out11 k = nat0 out k := fun e => by rw [(hT11.no e).2.1]
  have hkm8 : ∀ l, l < 6 → (nat0 out11 k).testBit l = true → MayP c k l := fun l hl hb => hT11.sndm k l hkn hb
  generalize hh0 : nat0 out11 k = h0 at *
  refine JOIN.mk (fun us w' => ∃ (m : Nat) (ms' : List Bool) (out' : List Nat) (nw' : Bool), us = [.int .i64 (m : Int)] ∧ LW w1 w' gw g h n kc ms' out' nw' ∧ LP c ms out nw' ms' out' k ∧ m < 64 ∧ CR c out k h0 m nw' ∧ ((insAt c k).op = 4 → mkd ms' (eN c (agN c k)) ∧ SubB h0 (nat0 out' (eN c (agN c k)))) ∧ (∀ l, l < 6 → m.testBit l = true → ∀ j ∈ nextN c k, MayP c j l) ∧ ∀ j ∈ nextN c k, MetP c j) ?_ ?_
  · have haf : aft c [] k h0 = if (insAt c k).op = 6 then h0 ||| 2 ^ agN c k else if (insAt c k).op = 7 then andN h0 (2 ^ agN c k) else if (insAt c k).op = 4 then (h0 &&& (tbl [] (agN c k)).1) ||| (tbl [] (agN c k)).2 else h0 := rfl
    have hgo : ¬ (insAt c k).op = 4 → ∀ w', LW w1 w' gw g h n kc ms11 out11 nw11 → aft c [] k h0 < 64 → ∃ (m : Nat) (ms' : List Bool) (out' : List Nat) (nw' : Bool), [Value.int .i64 (aft c [] k h0 : Nat)] = [.int .i64 (m : Int)] ∧ LW w1 w' gw g h n kc ms' out' nw' ∧ LP c ms out nw' ms' out' k ∧ m < 64 ∧ CR c out k h0 m nw' ∧ ((insAt c k).op = 4 → mkd ms' (eN c (agN c k)) ∧ SubB h0 (nat0 out' (eN c (agN c k)))) ∧ (∀ l, l < 6 → m.testBit l = true → ∀ j ∈ nextN c k, MayP c j l) ∧ ∀ j ∈ nextN c k, MetP c j := fun h4 w' hW' hlt' =>
      ⟨_, ms11, out11, nw11, rfl, hW', hT11, hlt', fun e => ⟨hkz e, fun h => absurd h h4, fun _ => by rw [hkz e]⟩, fun h => absurd h h4, fun l hl hb j hj => may_aft h4 hMk hj (hkm8 l hl) hb, fun j hj => .next hMk h4 hj⟩
    refine rd_fld fd136_0 ?_
    refine rd_loadI ty3 (at_DIns_0 hAI) (Ext.refl _) fun _ => ?_
    refine rd_eql ?_
    refine br (fun c6 => ?_) (fun c6 => ?_)
    · obtain ⟨ha, _, hq⟩ := ag_lock hc hkn (.inl c6)
      have hp := pow_lt6 hq
      rw [if_pos c6] at haf
      refine rd_fld fd136_1 ?_
      refine rd_loadI ty3 (at_DIns_1 hAI) (Ext.refl _) fun _ => ?_
      rw [ha]
      refine (l12Bit_ok (by omega)).mono ?_
      rintro _ w13 ⟨hx13, rfl⟩
      refine rd_or (m := h0) (n := 2 ^ agN c k) (by omega) (by omega) ?_
      have := hgo (by omega) w13 (H12.step hx13) (by rw [haf]; exact or_lt6 hk64 hq)
      rw [haf] at this
      exact this
    rw [if_neg c6] at haf
    refine rd_eql ?_
    refine br (fun c7 => ?_) (fun c7 => ?_)
    · obtain ⟨ha, _, hq⟩ := ag_lock hc hkn (.inr c7)
      have hp := pow_lt6 hq
      rw [if_pos c7] at haf
      refine rd_fld fd136_1 ?_
      refine rd_loadI ty3 (at_DIns_1 hAI) (Ext.refl _) fun _ => ?_
      rw [ha]
      refine (l12Bit_ok (by omega)).mono ?_
      rintro _ w13 ⟨hx13, rfl⟩
      refine (without_ok hk64 hp).mono ?_
      rintro _ w14 ⟨hx14, rfl⟩
      rw [without_and hk64 hp]
      have := hgo (by omega) w14 ((H12.step hx13).step hx14) (by rw [haf]; exact Nat.lt_of_le_of_lt (andN_le _ _) hk64)
      rw [haf] at this
      exact this
    rw [if_neg c7] at haf
    refine rd_eql ?_
    refine br (fun c4 => ?_) (fun c4 => ?_)
    · obtain ⟨ha1, ha2⟩ := ag_proc hc hkn (.inl c4)
      have hpe : agN c k < c.entry.length := by rw [hc.2.1.1]; exact ha2
      obtain ⟨he1, he2, _⟩ := eN_eq hc hpe
      obtain ⟨hz1, hz2, hz3⟩ := zN_end hc ha2
      refine rd_fld fd35_3 ?_
      refine rd_load ty23 (at_DCode_3 hA) H12.ext fun v66 h66 => ?_
      refine rd_fld fd136_1 ?_
      refine rd_loadI ty3 (at_DIns_1 hAI) (Ext.refl _) fun _ => ?_
      rw [ha1]
      refine rd_indexN u23 ty3 h66 hpe fun b5 o5 hA5 => ?_
      rw [en_get hpe, he1] at hA5
      refine rd_loadI ty3 hA5 H12.ext fun _ => ?_
      refine (l16Put_ok (i := eN c (agN c k)) (m := h0) H12 (by omega) hl11 hlo11 hT11.lt hk64).mono ?_
      rintro _ w13 ⟨rfl, H13, hc13⟩
      have hmE : MetP c (eN c (agN c k)) := .call hMk c4
      have hT13 := hT11.put he2 hk64 hmE fun l hl hb => .call hMk c4 (hkm8 l hl hb)
      have hF1 := sub_set_self (out := out11) (m := h0) (i := eN c (agN c k)) (by rw [hlo11]; omega)
      have hF0 : mkd (ms11.set (eN c (agN c k)) true) (eN c (agN c k)) := (mkd_set (by rw [hl11]; omega)).2 (.inr rfl)
      have hz13 : newL ms11 out11 nw11 (eN c (agN c k)) h0 = false → nw11 = false := newL_ag
      generalize newL ms11 out11 nw11 (eN c (agN c k)) h0 = nw13 at *
      generalize out11.set (eN c (agN c k)) (nat0 out11 (eN c (agN c k)) ||| h0) = out13 at *
      generalize ms11.set (eN c (agN c k)) true = ms13 at *
      have hgI : w11.heap.size < w12.heap.size := hV12.lt
      have hne : w11.heap.size ∉ [gw, g, h] := by have h1 := H11.mks.lt g (by simp); have h2 := H11.mine.lt h (by simp); have h3 := H11.blk.lt; simp; omega
      have hAI13 := (hAB12.keep (hc13.block _ hgI hne)).at H13.ext
      refine rd_load ty35 hA H13.ext fun v76 h76 => ?_
      refine rd_fld fd136_1 ?_
      refine rd_loadI ty3 (at_DIns_1 hAI13) (Ext.refl _) fun _ => ?_
      rw [ha1]
      refine (l08End_ok h76 H13.ext (p := (agN c k : Int)) (by omega) (by omega) hc.2.1.nonneg).mono ?_
      rintro _ w14 ⟨hx14, rfl⟩
      have H14 := H13.step hx14
      rw [hz2]
      have hl13 : ms13.length = n := by rw [hT13.len, hnn]
      have hlo13 : out13.length = n := by rw [hT13.leno, hnn]
      refine NIL.mk rfl ?_
      refine rd_fld fd74_1 ?_
      refine rd_blkV ty72 H14.blk H14.c5 ?_
      refine rd_indexN u72 ty4 (i := zN c (agN c k)) H14.mks.is (by rw [hl13]; omega) fun b6 o6 hA6 => ?_
      refine rd_loadB ty4 hA6 (Ext.refl _) ?_
      refine rd_not ?_
      have hmk13 := mkd_get (ms := ms13) (i := zN c (agN c k)) (by rw [hl13]; omega)
      refine br_b (fun hf13 => ?_) (fun hf13 => ?_)
      · have hnm : ¬ mkd ms13 (zN c (agN c k)) := by rw [hmk13]; simpa using hf13
        refine rd_inc (by omega) ?_
        refine ⟨mk - 1, by omega, k + 1, by omega, ms13, out13, nw13, rfl, by omega, H14, LP.close (h0 := h0) (m := nat0 out (zN c (agN c k))) hT13 (fun e => ⟨hkz (hz13 e), fun _ => rfl, fun h => absurd c4 h⟩) (fun _ => ⟨hF0, hF1⟩) fun h => absurd (h c4) hnm⟩
      · have hyz : mkd ms13 (zN c (agN c k)) := by rw [hmk13]; simpa using hf13
        have hMz := hT13.snd _ hyz
        refine NIL.mk rfl ?_
        refine rd_fld fd74_2 ?_
        refine rd_blkV ty23 H14.blk H14.c6 ?_
        refine rd_indexN u23 ty3 (i := zN c (agN c k)) H14.mine.is (by rw [ints_len, hlo13]; omega) fun b7 o7 hA7 => ?_
        rw [ints_nat0] at hA7
        refine rd_loadI ty3 hA7 (Ext.refl _) fun _ => ?_
        exact ⟨nat0 out13 (zN c (agN c k)), ms13, out13, nw13, rfl, H14, hT13, hT13.lt0 _, fun e => ⟨hkz (hz13 e), fun _ => by rw [(hT13.no e).2.1], fun h => absurd c4 h⟩, fun _ => ⟨hF0, hF1⟩, fun l hl hb j hj => .back hMk c4 hMz (hT13.sndm _ l (by omega) hb) hj, fun j hj => .back hMk c4 hMz hj⟩
    · rw [if_neg c4] at haf
      have := hgo c4 w12 H12 (by rw [haf]; exact hk64)
      rw [haf] at this
      exact this
  rintro us w14 ⟨m, ms14, out14, nw14, hus, H14, hT14, hm64, hC14, hF14, hmay, hnx⟩
  simp only [List.map_cons, List.map_nil, List.cons.injEq, and_true] at hus
  rw [hus]
  refine rd_load ty35 hA H14.ext fun v122 h122 => ?_
  refine (l09Next_ok h122 H14.ext hc hkn).mono ?_
  rintro v86 w15 ⟨hx15, ho15⟩
  have H15 := H14.step hx15
  have hl2 := nextN_len c k
  have hnl := fun {j : Nat} (hj : j ∈ nextN c k) => (nextN_lt hc hkn hj).1
  have hclose := fun {ms o : List Bool} {out0 out1 : List Nat} {ag : Bool} (hP : LP c ms out0 ag o out1 k) => LP.close (h0 := h0) (m := m) hP
  generalize hNx : nextN c k = N at *
  refine loopC N.length (fun q us w' => ∃ (ms' : List Bool) (out' : List Nat) (nw' : Bool), us = [.int .i64 (q : Int)] ∧ q ≤ N.length ∧ LW w1 w' gw g h n kc ms' out' nw' ∧ LP c ms out nw' ms' out' k ∧ CR c out k h0 m nw' ∧ ((insAt c k).op = 4 → mkd ms' (eN c (agN c k)) ∧ SubB h0 (nat0 out' (eN c (agN c k)))) ∧ (∀ j ∈ N.take q, mkd ms' j ∧ SubB m (nat0 out' j)) ∧ OwnI w14.heap.size w15.heap.size w' v86 (ints N)) 0 (Nat.zero_le _) ⟨ms14, out14, nw14, rfl, Nat.zero_le _, H15, hT14, hC14, hF14, by simp, ho15.toI⟩ ?_
  rintro q mq u w16 hqm ⟨ms16, out16, nw16, hu, hql, H16, hT16, hC16, hF16, hq16, hO16⟩
  simp only [List.map_cons, List.map_nil, List.cons.injEq, and_true] at hu
  rw [hu]
  refine rd_len u23 hO16.is ?_
  rw [ints_len]
  refine rd_lss ?_
  refine br (fun hlt => ?_) (fun hge => ?_)
  case refine_2 =>
    refine rd_inc (by omega) ?_
    rw [List.take_of_length_le (by omega)] at hq16
    exact ⟨mk - 1, by omega, k + 1, by omega, ms16, out16, nw16, rfl, by omega, H16, hclose hT16 hC16 hF16 fun _ => hNx ▸ hq16⟩
  have hq : q < N.length := by omega
  refine rd_indexN u23 ty3 (i := q) hO16.is (by rw [ints_len]; exact hq) fun b7 o7 hA7 => ?_
  rw [ints_get] at hA7
  refine rd_loadI ty3 hA7 (Ext.refl _) fun _ => ?_
  have htq := fun x => mem_take_iff hq (x := x)
  have hj := List.getElem_mem hq
  have hjl := hnl hj
  have hmj := fun l hl hb => hmay l hl hb _ hj
  have hmet := hnx _ hj
  generalize N[q] = j at *
  have hl16 : ms16.length = n := by rw [hT16.len, hnn]
  have hlo16 : out16.length = n := by rw [hT16.leno, hnn]
  refine (l16Put_ok (i := j) (m := m) H16 (by omega) hl16 hlo16 hT16.lt hm64).mono ?_
  rintro _ w17 ⟨rfl, H17, hc17⟩
  refine rd_inc (by omega) ?_
  have hg14 := H14.mks.lt g (by simp)
  have hh14 := H14.mine.lt h (by simp)
  have hgw14 := H14.blk.lt
  have hjo : j < out16.length := by omega
  refine ⟨mq - 1, by omega, q + 1, by omega, _, _, _, rfl, by omega, H17, hT16.put hjl hm64 hmet hmj, fun e => hC16 (newL_ag e), fun h4 => ⟨mkd_mono (hF16 h4).1, sub_set hjo (hF16 h4).2⟩, fun i hi => ?_, hO16.chgF hc17 (by simp; omega)⟩
  rcases (htq i).1 hi with h | h
  · exact ⟨mkd_mono (hq16 i h).1, sub_set hjo (hq16 i h).2⟩
  · subst h; exact ⟨(mkd_set (by rw [hl16]; omega)).2 (.inr rfl), sub_set_self hjo⟩
end Go.Proofs.YtjgfldfbljmhhaaGreat
namespace Go.Sh
set_option linter.unusedVariables false
open Rep (rep)
theorem Blk.uniq {w : World} {g e : Nat} {cs cs' : List Value} (h : Blk g e w cs) (h' : Blk g e w cs') : cs' = cs := by
  unfold Blk at h h'
  rw [h] at h'
  simp only [Option.some.injEq, Obj.cells.injEq] at h'
  have := h'.1
  simpa using this.symm
theorem blk_left {w : World} {g e : Nat} {cs ds : List Value} (h : Blk g e w (cs ++ ds)) : w.rangeAt g 0 cs := (rangeAt_append h.range).1
end Go.Sh
namespace Go.Proofs.YtjgfldfbljmhhaaGreat
open Go Go.Sh Go.Proofs
set_option linter.unusedVariables false
set_option linter.unusedSimpArgs false
open Rep (rep)
/-- a world under way: the code, what is live, and five cells -/
structure WB (W0 w : World) (b e : Nat) (c : DCode) (kc : List Value) (m : Nat) (x6 x7 x8 x9 x10 : Value) : Prop where
  ext : Ext W0 w
  blk : Blk b e w (kc ++ [.slice (some ⟨m, 0, none⟩) c.ins.length c.ins.length, x6, x7, x8, x9, x10])
  code : ∃ F, rep F W0 kc c
  live : Mine [m] w (.slice (some ⟨m, 0, none⟩) c.ins.length c.ins.length) (setB c.ins.length (AllLive c))
  b0 : W0.heap.size ≤ b
  m0 : W0.heap.size ≤ m
  ne : b ≠ m
section
variable {W0 w w' : World} {b e m : Nat} {c : DCode} {kc : List Value} {x6 x7 x8 x9 x10 : Value}
theorem WB.k5 (h : WB W0 w b e c kc m x6 x7 x8 x9 x10) : kc.length = 5 := by obtain ⟨F, hr⟩ := h.code; exact Rep.len hr
theorem WB.cell (h : WB W0 w b e c kc m x6 x7 x8 x9 x10) (i : Nat) : (kc ++ [Value.slice (some ⟨m, 0, none⟩) c.ins.length c.ins.length, x6, x7, x8, x9, x10])[5 + i]? = [Value.slice (some ⟨m, 0, none⟩) c.ins.length c.ins.length, x6, x7, x8, x9, x10][i]? := by
  rw [List.getElem?_append_right (by rw [h.k5]; omega), h.k5, Nat.add_sub_cancel_left]
theorem WB.code_at (h : WB W0 w b e c kc m x6 x7 x8 x9 x10) : At w b 0 c := by
  obtain ⟨F, hr⟩ := h.code
  exact ⟨F, kc, rep_ext hr h.ext, blk_left h.blk⟩
theorem WB.wl (h : WB W0 w b e c kc m x6 x7 x8 x9 x10) : WL w b c := ⟨h.code_at, at_of_blk h.blk (h.cell 0) h.live.is⟩
theorem WB.step (h : WB W0 w b e c kc m x6 x7 x8 x9 x10) (hx : Ext w w') : WB W0 w' b e c kc m x6 x7 x8 x9 x10 := ⟨h.ext.trans hx, h.blk.ext hx, h.code, h.live.ext hx, h.b0, h.m0, h.ne⟩
/-- what is done elsewhere -/
theorem WB.chg {F : List Nat} (h : WB W0 w b e c kc m x6 x7 x8 x9 x10) (hc : Chg F w w') (hF : ∀ x ∈ F, W0.heap.size ≤ x ∧ x ≠ b ∧ x ≠ m) : WB W0 w' b e c kc m x6 x7 x8 x9 x10 :=
  ⟨h.ext.chgF hc fun x hx => (hF x hx).1, h.blk.chgF hc fun hb => (hF b hb).2.1 rfl, h.code, h.live.keep fun x hx => by
    simp only [List.mem_cons, List.not_mem_nil, or_false] at hx; subst hx
    exact hc.block x (h.live.lt x (by simp)) fun hm => (hF x hm).2.2 rfl, h.b0, h.m0, h.ne⟩
/-- its own cells are turned -/
theorem WB.cells {y6 y7 y8 y9 y10 : Value} (h : WB W0 w b e c kc m x6 x7 x8 x9 x10) (hc : ChgI b (b + 1) w w') (hB : Blk b e w' (kc ++ [.slice (some ⟨m, 0, none⟩) c.ins.length c.ins.length, y6, y7, y8, y9, y10])) : WB W0 w' b e c kc m y6 y7 y8 y9 y10 :=
  ⟨h.ext.chgI hc h.b0, hB, h.code, h.live.keep fun x hx => by
    simp only [List.mem_cons, List.not_mem_nil, or_false] at hx; subst hx
    exact hc.block x (h.live.lt x (by simp)) (by have := h.ne; omega), h.b0, h.m0, h.ne⟩
theorem WB.set (h : WB W0 w b e c kc m x6 x7 x8 x9 x10) (i : Nat) (v : Value) : (kc ++ [Value.slice (some ⟨m, 0, none⟩) c.ins.length c.ins.length, x6, x7, x8, x9, x10]).set (5 + i) v = kc ++ [Value.slice (some ⟨m, 0, none⟩) c.ins.length c.ins.length, x6, x7, x8, x9, x10].set i v := by
  rw [List.set_append_right _ _ (by rw [h.k5]; omega), h.k5, Nat.add_sub_cancel_left]
end
/-- sets of procedures, one for each -/
def CS (c : DCode) (out : List Nat) (D : Nat → Nat → Prop) : Prop := out.length = c.procs.length ∧ ∀ q, q < c.procs.length → nat0 out q = setN (D q) c.procs.length
theorem CS.mono {c : DCode} {out : List Nat} {D D' : Nat → Nat → Prop} (h : CS c out D) (hD : ∀ q r, q < c.procs.length → r < c.procs.length → (D q r ↔ D' q r)) : CS c out D' := ⟨h.1, fun q hq => by rw [h.2 q hq]; exact setN_congr fun r hr => hD q r hq hr⟩
theorem CS.set {c : DCode} {out : List Nat} {D D' : Nat → Nat → Prop} (h : CS c out D) {p a : Nat} (hp : p < c.procs.length) (ha : a < c.procs.length) (hD : ∀ q r, D' q r ↔ D q r ∨ (q = p ∧ r = a)) : CS c (out.set p (nat0 out p ||| 2 ^ a)) D' := by
  refine ⟨by simp [h.1], fun q hq => ?_⟩
  rw [nat0_set (by rw [h.1]; exact hp)]
  split
  · rename_i e
    subst e
    rw [h.2 p hp]
    refine eq_setN fun r => ?_
    rw [Nat.testBit_or, Nat.testBit_two_pow, Bool.or_eq_true, setN_bit, decide_eq_true_eq, hD]
    constructor
    · rintro (⟨h1, h2⟩ | rfl)
      · exact ⟨h1, .inl h2⟩
      · exact ⟨ha, .inr ⟨rfl, rfl⟩⟩
    · rintro ⟨h1, h2 | ⟨_, h2⟩⟩
      · exact .inl ⟨h1, h2⟩
      · exact .inr h2.symm
  · rename_i e
    rw [h.2 q hq]
    exact setN_congr fun r hr => ⟨fun h => (hD q r).2 (.inl h), fun h => ((hD q r).1 h).resolve_right fun h => e h.1.symm⟩
theorem CS.lt0 {c : DCode} {out : List Nat} {D : Nat → Nat → Prop} (h : CS c out D) (h8 : c.procs.length ≤ 8) {q : Nat} (hq : q < c.procs.length) : nat0 out q < 256 := by rw [h.2 q hq]; exact setN_small h8
theorem CS.zero {c : DCode} {D : Nat → Nat → Prop} (hD : ∀ q r, ¬ D q r) : CS c (List.replicate c.procs.length 0) D := ⟨by simp, fun q hq => by
  rw [← nat0_get (by simp; exact hq), List.getElem_replicate]
  exact eq_setN fun r => by simp [hD]⟩
theorem CS.eq_cls {c : DCode} {out : List Nat} {op : Int} (h : CS c out fun q r => OpsP c q op r) : out = cls c op := by
  refine List.ext_getElem (by rw [h.1, cls_len]) fun i h1 h2 => ?_
  have hi : i < c.procs.length := by rw [← h.1]; exact h1
  rw [nat0_get h1, nat0_get h2, cls_at hi, h.2 i hi]
/-- where the three stores go -/
def fcOff (j : Nat) : Nat := if j = 11 then 6 else if j = 14 then 7 else 8
def fcSt (j : Nat) : Prop := j = 11 ∨ j = 14 ∨ j = 17
def fcB (W : World) (b e : Nat) (hd : List Value) (t9 t10 : Value) (w : World) : Prop := ChgI b (b + 1) W w ∧ ∃ x6 x7 x8, Blk b e w (hd ++ [x6, x7, x8, t9, t10])
def fcR (b e : Nat) (j : Nat) (w w' : World) : Prop := (fcSt j ∧ ChgI b (b + 1) w w' ∧ ∀ cs, Blk b e w cs → ∃ v, Blk b e w' (cs.set (fcOff j) v)) ∨ (¬ fcSt j ∧ Ext w w')
def fcQ (b e n : Nat) : ParQ := fun i u T w => match i with
  | 0 => u 17 = .pointer (some ⟨b, 0, none⟩)
  | 1 => u 18 = .pointer (some ⟨b, 0, none⟩)
  | 2 => u 19 = .pointer (some ⟨b, 0, none⟩)
  | 3 => u 20 = .int .i64 (n : Int)
  | 4 => ∃ g, u 21 = .slice (some ⟨g, 0, none⟩) n n ∧ (T 4).1 ≤ g ∧ g < (T 4).2 ∧ g ≠ b ∧ Mine [g] w (.slice (some ⟨g, 0, none⟩) n n) (ints (List.replicate n 0))
  | 5 => u 22 = .int .i64 (n : Int)
  | 6 => ∃ g, u 23 = .slice (some ⟨g, 0, none⟩) n n ∧ (T 6).1 ≤ g ∧ g < (T 6).2 ∧ g ≠ b ∧ Mine [g] w (.slice (some ⟨g, 0, none⟩) n n) (ints (List.replicate n 0))
  | 7 => u 24 = .int .i64 (n : Int)
  | 8 => ∃ g, u 25 = .slice (some ⟨g, 0, none⟩) n n ∧ (T 8).1 ≤ g ∧ g < (T 8).2 ∧ g ≠ b ∧ Mine [g] w (.slice (some ⟨g, 0, none⟩) n n) (ints (List.replicate n 0))
  | 9 => u 26 = .pointer (some ⟨b, 0, none⟩)
  | 10 => u 27 = .pointer (some ⟨b, 0 + 6, none⟩)
  | 11 => ∃ cs, Blk b e w cs ∧ cs[6]? = some (u 21)
  | 12 => u 28 = .pointer (some ⟨b, 0, none⟩)
  | 13 => u 29 = .pointer (some ⟨b, 0 + 7, none⟩)
  | 14 => ∃ cs, Blk b e w cs ∧ cs[7]? = some (u 23)
  | 15 => u 30 = .pointer (some ⟨b, 0, none⟩)
  | 16 => u 31 = .pointer (some ⟨b, 0 + 8, none⟩)
  | 17 => ∃ cs, Blk b e w cs ∧ cs[8]? = some (u 25)
  | _ => True
section
variable {b e n : Nat} {w w' : World}
theorem fcR.sz {j : Nat} (h : fcR b e j w w') : w.heap.size ≤ w'.heap.size := by
  rcases h with ⟨_, h, _⟩ | ⟨_, h⟩
  · exact h.size
  · exact h.size
theorem fcR.chg {j : Nat} (h : fcR b e j w w') : ChgI b (b + 1) w w' := by
  rcases h with ⟨_, h, _⟩ | ⟨_, h⟩
  · exact h
  · exact h.toI
theorem fcR.mine {j g : Nat} {l : List Int} {v : Value} (h : fcR b e j w w') (hg : g ≠ b) (hm : Mine [g] w v l) : Mine [g] w' v l := hm.keep fun x hx => by
  simp only [List.mem_cons, List.not_mem_nil, or_false] at hx; subst hx
  exact h.chg.block x (hm.lt x (by simp)) (by omega)
theorem fcR.cell {j : Nat} {u : Value} {k : Nat} (h : fcR b e j w w') (hij : fcSt j → fcOff j ≠ k) (hc : ∃ cs, Blk b e w cs ∧ cs[k]? = some u) : ∃ cs, Blk b e w' cs ∧ cs[k]? = some u := by
  obtain ⟨cs, hB, hk⟩ := hc
  rcases h with ⟨hs, _, h⟩ | ⟨_, h⟩
  · obtain ⟨v, hv⟩ := h cs hB
    exact ⟨_, hv, by rw [List.getElem?_set_ne (hij hs)]; exact hk⟩
  · exact ⟨cs, hB.ext h, hk⟩
theorem fcB.step {W : World} {hd : List Value} {t9 t10 : Value} {j : Nat} (h6 : hd.length = 6) (h : fcB W b e hd t9 t10 w) (hR : fcR b e j w w') : fcB W b e hd t9 t10 w' := by
  obtain ⟨hc, x6, x7, x8, hB⟩ := h
  refine ⟨hc.trans hR.chg, ?_⟩
  rcases hR with ⟨hs, _, hR⟩ | ⟨_, hR⟩
  · obtain ⟨v, hv⟩ := hR _ hB
    rcases hs with rfl | rfl | rfl
    · refine ⟨v, x7, x8, ?_⟩
      rw [List.set_append_right _ _ (by rw [h6]; decide), h6] at hv
      exact hv
    · refine ⟨x6, v, x8, ?_⟩
      rw [List.set_append_right _ _ (by rw [h6]; decide), h6] at hv
      exact hv
    · refine ⟨x6, x7, v, ?_⟩
      rw [List.set_append_right _ _ (by rw [h6]; decide), h6] at hv
      exact hv
  · exact ⟨x6, x7, x8, hB.ext hR⟩
theorem fcR.ext {j : Nat} (hj : ¬ fcSt j) (hx : Ext w w') : fcR b e j w w' := .inr ⟨hj, hx⟩
end
/-- one of the three stores -/
theorem fc_store {W : World} {b e n j : Nat} {hd : List Value} {t9 t10 : Value} {w : World} {g : Nat} {K : World → Prop} (hs : fcSt j) (h6 : hd.length = 6) (hB : fcB W b e hd t9 t10 w) (k : ∀ w', fcR b e j w w' → (∃ cs, Blk b e w' cs ∧ cs[fcOff j]? = some (.slice (some ⟨g, 0, none⟩) n n)) → K w') :
    OPU Tryz.prog (Instr.storeAt 23 (.pointer (some ⟨b, 0 + fcOff j, none⟩)) (.slice (some ⟨g, 0, none⟩) n n)) w K := by
  obtain ⟨hc, x6, x7, x8, hB⟩ := hB
  have hlt : fcOff j < (hd ++ [x6, x7, x8, t9, t10]).length := by
    rw [List.length_append, h6]
    show fcOff j < 11
    rcases hs with rfl | rfl | rfl <;> decide
  rw [Nat.zero_add]
  refine opu_blkC (α := Raw) (lo := 0) (hi := 0) ty23 rfl rfl hB hlt (ownI_raw rfl) fun w2 hc2 hB2 => ?_
  have hR : fcR b e j w w2 := .inl ⟨hs, hc2, fun cs hcs => by
    have := hB.uniq hcs
    subst this
    exact ⟨_, hB2⟩⟩
  exact k w2 hR ⟨_, hB2, by rw [List.getElem?_set_self hlt]⟩
/-- the joined sets -/
theorem orL_bit {sets : List Nat} {r : Nat} (l : List Int) : (orL sets l).testBit r = true ↔ ∃ x ∈ l, (nat0 sets x.toNat).testBit r = true := by
  have key : ∀ (l : List Int) (a : Nat), (l.foldl (fun a i => a ||| sets.getD i.toNat 0) a).testBit r = true ↔ a.testBit r = true ∨ ∃ x ∈ l, (nat0 sets x.toNat).testBit r = true := fun l => by
    induction l with
    | nil => simp
    | cons i l ih =>
      intro a
      rw [List.foldl_cons, ih, Nat.testBit_or, Bool.or_eq_true, or_assoc]
      refine or_congr Iff.rfl ?_
      simp only [List.mem_cons, exists_eq_or_imp]
      exact Iff.rfl
  have := key l 0
  simpa [orL] using this
theorem orL_mask {sets : List Nat} {m n r : Nat} (hm : m < 2 ^ n) (hn : n ≤ 62) : (orL sets (bitsL m)).testBit r = true ↔ ∃ i, i < n ∧ m.testBit i = true ∧ (nat0 sets i).testBit r = true := by
  rw [orL_bit, bitsL_eq hm (by omega)]
  constructor
  · rintro ⟨x, hx, h⟩
    obtain ⟨i, h1, rfl, h3⟩ := mem_bitsTo.1 hx
    exact ⟨i, h1, h3, by simpa using h⟩
  · rintro ⟨i, h1, h2, h3⟩
    exact ⟨(i : Int), mem_bitsTo.2 ⟨i, h1, rfl, h2⟩, by simpa using h3⟩
theorem mask_lt {m n : Nat} (h : ∀ r, m.testBit r = true → r < n) : m < 2 ^ n := Nat.lt_pow_two_of_testBit _ fun i hi => by
  cases e : m.testBit i
  · rfl
  · have := h i e; omega
end Go.Proofs.YtjgfldfbljmhhaaGreat
namespace Go.Proofs.YtjgfldfbljmhhaaGreat
open Go Go.Sh Go.Proofs
set_option linter.unusedVariables false
/-- (*impl.world).findCalls -/
def F127 (a0 : Value) (w : World) (R : Value → World → Prop) : Prop :=
  NIL a0 <|
  RD Tryz.prog (Instr.fieldAt 144 a0 0) w fun x13 =>
  RD Tryz.prog (Instr.fieldAt 35 x13 2) w fun x14 =>
  RD Tryz.prog (Instr.loadAt 22 x14) w fun x15 =>
  RD Tryz.prog (Builtin.len_ #[22] 3 [x15].toArray) w fun x16 =>
  (fun w0 => GPAR w0 [[(0, 17)], [(1, 18)], [(2, 19)], [(3, 20)], [(4, 21), (3, 20), (3, 20)], [(5, 22)], [(6, 23), (5, 22), (5, 22)], [(7, 24)], [(8, 25), (7, 24), (7, 24)], [(9, 26), (0, 17), (0, 17), (3, 20), (4, 21)], [(10, 27), (9, 26), (0, 17), (3, 20), (4, 21)], [(10, 27), (4, 21), (0, 17), (3, 20), (4, 21)], [(12, 28), (1, 18), (0, 17), (1, 18), (3, 20), (4, 21), (5, 22), (6, 23), (9, 26), (10, 27)], [(13, 29), (12, 28), (0, 17), (1, 18), (3, 20), (4, 21), (5, 22), (6, 23), (9, 26), (10, 27)], [(13, 29), (6, 23), (0, 17), (1, 18), (3, 20), (4, 21), (5, 22), (6, 23), (9, 26), (10, 27)], [(15, 30), (2, 19), (0, 17), (1, 18), (2, 19), (3, 20), (4, 21), (5, 22), (6, 23), (7, 24), (8, 25), (9, 26), (10, 27), (12, 28), (13, 29)], [(16, 31), (15, 30), (0, 17), (1, 18), (2, 19), (3, 20), (4, 21), (5, 22), (6, 23), (7, 24), (8, 25), (9, 26), (10, 27), (12, 28), (13, 29)], [(16, 31), (8, 25), (0, 17), (1, 18), (2, 19), (3, 20), (4, 21), (5, 22), (6, 23), (7, 24), (8, 25), (9, 26), (10, 27), (12, 28), (13, 29)]] (fun B R Q =>
   (∀ (u1 : Env) (T : Nat → Nat × Nat) (w : World), B w → w0.heap.size ≤ w.heap.size → Apart [] w0.heap.size w.heap.size T → (True) → (fun w1 => R 0 w1 w ∧ Q 0 (upd u1 17 a0) (updT T 0 (w1.heap.size, w.heap.size)) w) w) ∧
   (∀ (u1 : Env) (T : Nat → Nat × Nat) (w : World), B w → w0.heap.size ≤ w.heap.size → Apart [] w0.heap.size w.heap.size T → (True) → (fun w1 => R 1 w1 w ∧ Q 1 (upd u1 18 a0) (updT T 1 (w1.heap.size, w.heap.size)) w) w) ∧
   (∀ (u1 : Env) (T : Nat → Nat × Nat) (w : World), B w → w0.heap.size ≤ w.heap.size → Apart [] w0.heap.size w.heap.size T → (True) → (fun w1 => R 2 w1 w ∧ Q 2 (upd u1 19 a0) (updT T 2 (w1.heap.size, w.heap.size)) w) w) ∧
   (∀ (u1 : Env) (T : Nat → Nat × Nat) (w : World), B w → w0.heap.size ≤ w.heap.size → Apart [] w0.heap.size w.heap.size T → (True) → (fun w1 => R 3 w1 w ∧ Q 3 (upd u1 20 x16) (updT T 3 (w1.heap.size, w.heap.size)) w) w) ∧
   (∀ (u1 : Env) (T : Nat → Nat × Nat) (w : World), B w → w0.heap.size ≤ w.heap.size → Apart [3, 3] w0.heap.size w.heap.size T → (Q 3 u1 T w ∧ Q 3 u1 T w ∧ True) → (fun w1 => OP Tryz.prog (Instr.makeSlice 23 (u1 20) (u1 20)) w fun x21 w =>
  R 4 w1 w ∧ Q 4 (upd u1 21 x21) (updT T 4 (w1.heap.size, w.heap.size)) w) w) ∧
   (∀ (u1 : Env) (T : Nat → Nat × Nat) (w : World), B w → w0.heap.size ≤ w.heap.size → Apart [] w0.heap.size w.heap.size T → (True) → (fun w1 => R 5 w1 w ∧ Q 5 (upd u1 22 x16) (updT T 5 (w1.heap.size, w.heap.size)) w) w) ∧
   (∀ (u1 : Env) (T : Nat → Nat × Nat) (w : World), B w → w0.heap.size ≤ w.heap.size → Apart [5, 5] w0.heap.size w.heap.size T → (Q 5 u1 T w ∧ Q 5 u1 T w ∧ True) → (fun w1 => OP Tryz.prog (Instr.makeSlice 23 (u1 22) (u1 22)) w fun x23 w =>
  R 6 w1 w ∧ Q 6 (upd u1 23 x23) (updT T 6 (w1.heap.size, w.heap.size)) w) w) ∧
   (∀ (u1 : Env) (T : Nat → Nat × Nat) (w : World), B w → w0.heap.size ≤ w.heap.size → Apart [] w0.heap.size w.heap.size T → (True) → (fun w1 => R 7 w1 w ∧ Q 7 (upd u1 24 x16) (updT T 7 (w1.heap.size, w.heap.size)) w) w) ∧
   (∀ (u1 : Env) (T : Nat → Nat × Nat) (w : World), B w → w0.heap.size ≤ w.heap.size → Apart [7, 7] w0.heap.size w.heap.size T → (Q 7 u1 T w ∧ Q 7 u1 T w ∧ True) → (fun w1 => OP Tryz.prog (Instr.makeSlice 23 (u1 24) (u1 24)) w fun x25 w =>
  R 8 w1 w ∧ Q 8 (upd u1 25 x25) (updT T 8 (w1.heap.size, w.heap.size)) w) w) ∧
   (∀ (u1 : Env) (T : Nat → Nat × Nat) (w : World), B w → w0.heap.size ≤ w.heap.size → Apart [0, 0, 3, 4] w0.heap.size w.heap.size T → (Q 0 u1 T w ∧ Q 0 u1 T w ∧ Q 3 u1 T w ∧ Q 4 u1 T w ∧ True) → (fun w1 => NIL (u1 17) <|
  R 9 w1 w ∧ Q 9 (upd u1 26 (u1 17)) (updT T 9 (w1.heap.size, w.heap.size)) w) w) ∧
   (∀ (u1 : Env) (T : Nat → Nat × Nat) (w : World), B w → w0.heap.size ≤ w.heap.size → Apart [9, 0, 3, 4] w0.heap.size w.heap.size T → (Q 9 u1 T w ∧ Q 0 u1 T w ∧ Q 3 u1 T w ∧ Q 4 u1 T w ∧ True) → (fun w1 => RD Tryz.prog (Instr.fieldAt 144 (u1 26) 2) w fun x27 =>
  R 10 w1 w ∧ Q 10 (upd u1 27 x27) (updT T 10 (w1.heap.size, w.heap.size)) w) w) ∧
   (∀ (u1 : Env) (T : Nat → Nat × Nat) (w : World), B w → w0.heap.size ≤ w.heap.size → Apart [10, 4, 0, 3, 4] w0.heap.size w.heap.size T → (Q 10 u1 T w ∧ Q 4 u1 T w ∧ Q 0 u1 T w ∧ Q 3 u1 T w ∧ Q 4 u1 T w ∧ True) → (fun w1 => OPU Tryz.prog (Instr.storeAt 23 (u1 27) (u1 21)) w fun w =>
  R 11 w1 w ∧ Q 11 u1 (updT T 11 (w1.heap.size, w.heap.size)) w) w) ∧
   (∀ (u1 : Env) (T : Nat → Nat × Nat) (w : World), B w → w0.heap.size ≤ w.heap.size → Apart [1, 0, 1, 3, 4, 5, 6, 9, 10, 11] w0.heap.size w.heap.size T → (Q 1 u1 T w ∧ Q 0 u1 T w ∧ Q 1 u1 T w ∧ Q 3 u1 T w ∧ Q 4 u1 T w ∧ Q 5 u1 T w ∧ Q 6 u1 T w ∧ Q 9 u1 T w ∧ Q 10 u1 T w ∧ Q 11 u1 T w ∧ True) → (fun w1 => NIL (u1 18) <|
  R 12 w1 w ∧ Q 12 (upd u1 28 (u1 18)) (updT T 12 (w1.heap.size, w.heap.size)) w) w) ∧
   (∀ (u1 : Env) (T : Nat → Nat × Nat) (w : World), B w → w0.heap.size ≤ w.heap.size → Apart [12, 0, 1, 3, 4, 5, 6, 9, 10, 11] w0.heap.size w.heap.size T → (Q 12 u1 T w ∧ Q 0 u1 T w ∧ Q 1 u1 T w ∧ Q 3 u1 T w ∧ Q 4 u1 T w ∧ Q 5 u1 T w ∧ Q 6 u1 T w ∧ Q 9 u1 T w ∧ Q 10 u1 T w ∧ Q 11 u1 T w ∧ True) → (fun w1 => RD Tryz.prog (Instr.fieldAt 144 (u1 28) 3) w fun x29 =>
  R 13 w1 w ∧ Q 13 (upd u1 29 x29) (updT T 13 (w1.heap.size, w.heap.size)) w) w) ∧
   (∀ (u1 : Env) (T : Nat → Nat × Nat) (w : World), B w → w0.heap.size ≤ w.heap.size → Apart [13, 6, 11, 0, 1, 3, 4, 5, 6, 9, 10, 11] w0.heap.size w.heap.size T → (Q 13 u1 T w ∧ Q 6 u1 T w ∧ Q 11 u1 T w ∧ Q 0 u1 T w ∧ Q 1 u1 T w ∧ Q 3 u1 T w ∧ Q 4 u1 T w ∧ Q 5 u1 T w ∧ Q 6 u1 T w ∧ Q 9 u1 T w ∧ Q 10 u1 T w ∧ Q 11 u1 T w ∧ True) → (fun w1 => OPU Tryz.prog (Instr.storeAt 23 (u1 29) (u1 23)) w fun w =>
  R 14 w1 w ∧ Q 14 u1 (updT T 14 (w1.heap.size, w.heap.size)) w) w) ∧
   (∀ (u1 : Env) (T : Nat → Nat × Nat) (w : World), B w → w0.heap.size ≤ w.heap.size → Apart [2, 0, 1, 2, 3, 4, 5, 6, 7, 8, 9, 10, 11, 12, 13, 14] w0.heap.size w.heap.size T → (Q 2 u1 T w ∧ Q 0 u1 T w ∧ Q 1 u1 T w ∧ Q 2 u1 T w ∧ Q 3 u1 T w ∧ Q 4 u1 T w ∧ Q 5 u1 T w ∧ Q 6 u1 T w ∧ Q 7 u1 T w ∧ Q 8 u1 T w ∧ Q 9 u1 T w ∧ Q 10 u1 T w ∧ Q 11 u1 T w ∧ Q 12 u1 T w ∧ Q 13 u1 T w ∧ Q 14 u1 T w ∧ True) → (fun w1 => NIL (u1 19) <|
  R 15 w1 w ∧ Q 15 (upd u1 30 (u1 19)) (updT T 15 (w1.heap.size, w.heap.size)) w) w) ∧
   (∀ (u1 : Env) (T : Nat → Nat × Nat) (w : World), B w → w0.heap.size ≤ w.heap.size → Apart [15, 0, 1, 2, 3, 4, 5, 6, 7, 8, 9, 10, 11, 12, 13, 14] w0.heap.size w.heap.size T → (Q 15 u1 T w ∧ Q 0 u1 T w ∧ Q 1 u1 T w ∧ Q 2 u1 T w ∧ Q 3 u1 T w ∧ Q 4 u1 T w ∧ Q 5 u1 T w ∧ Q 6 u1 T w ∧ Q 7 u1 T w ∧ Q 8 u1 T w ∧ Q 9 u1 T w ∧ Q 10 u1 T w ∧ Q 11 u1 T w ∧ Q 12 u1 T w ∧ Q 13 u1 T w ∧ Q 14 u1 T w ∧ True) → (fun w1 => RD Tryz.prog (Instr.fieldAt 144 (u1 30) 4) w fun x31 =>
  R 16 w1 w ∧ Q 16 (upd u1 31 x31) (updT T 16 (w1.heap.size, w.heap.size)) w) w) ∧
   (∀ (u1 : Env) (T : Nat → Nat × Nat) (w : World), B w → w0.heap.size ≤ w.heap.size → Apart [16, 8, 14, 0, 1, 2, 3, 4, 5, 6, 7, 8, 9, 10, 11, 12, 13, 14] w0.heap.size w.heap.size T → (Q 16 u1 T w ∧ Q 8 u1 T w ∧ Q 14 u1 T w ∧ Q 0 u1 T w ∧ Q 1 u1 T w ∧ Q 2 u1 T w ∧ Q 3 u1 T w ∧ Q 4 u1 T w ∧ Q 5 u1 T w ∧ Q 6 u1 T w ∧ Q 7 u1 T w ∧ Q 8 u1 T w ∧ Q 9 u1 T w ∧ Q 10 u1 T w ∧ Q 11 u1 T w ∧ Q 12 u1 T w ∧ Q 13 u1 T w ∧ Q 14 u1 T w ∧ True) → (fun w1 => OPU Tryz.prog (Instr.storeAt 23 (u1 31) (u1 25)) w fun w =>
  R 17 w1 w ∧ Q 17 u1 (updT T 17 (w1.heap.size, w.heap.size)) w) w) ∧
   True)
   (fun B Q => ∀ (u1 : Env) (T : Nat → Nat × Nat) (w : World), B w → w0.heap.size ≤ w.heap.size → Apart [0, 1, 2, 3, 4, 5, 6, 7, 8, 9, 10, 11, 12, 13, 14, 15, 16, 17] w0.heap.size w.heap.size T → (Q 0 u1 T w ∧ Q 1 u1 T w ∧ Q 2 u1 T w ∧ Q 3 u1 T w ∧ Q 4 u1 T w ∧ Q 5 u1 T w ∧ Q 6 u1 T w ∧ Q 7 u1 T w ∧ Q 8 u1 T w ∧ Q 9 u1 T w ∧ Q 10 u1 T w ∧ Q 11 u1 T w ∧ Q 12 u1 T w ∧ Q 13 u1 T w ∧ Q 14 u1 T w ∧ Q 15 u1 T w ∧ Q 16 u1 T w ∧ Q 17 u1 T w ∧ True) →
   LOOPI [33] [(Value.int .i64 0)] w fun u3 w next3 =>
   RD Tryz.prog (bin .lss 3 (.tmp 0) (.tmp 0) (u3 33) x16) w fun x34 =>
   BR x34
    (CALL Tryz.prog 194 [a0, (u3 33)] w fun x38 w =>
    RD Tryz.prog (Builtin.len_ #[23] 3 [x38].toArray) w fun x39 =>
    LOOPI [40] [(Value.int .i64 0)] w fun u6 w next6 =>
     RD Tryz.prog (bin .lss 3 (.tmp 0) (.tmp 0) (u6 40) x39) w fun x41 =>
     BR x41
      (RD Tryz.prog (Instr.indexAt 23 x38 (u6 40)) w fun x42 =>
      RD Tryz.prog (Instr.loadAt 3 x42) w fun x43 =>
      NIL a0 <|
      RD Tryz.prog (Instr.fieldAt 144 a0 0) w fun x46 =>
      RD Tryz.prog (Instr.fieldAt 35 x46 4) w fun x47 =>
      RD Tryz.prog (Instr.loadAt 33 x47) w fun x48 =>
      RD Tryz.prog (Instr.indexAt 33 x48 x43) w fun x50 =>
      RD Tryz.prog (Instr.loadAt 136 x50) w fun x51 =>
      OP Tryz.prog (Instr.alloc 136 true (.tuple #[])) w fun x6 w =>
      OPU Tryz.prog (Instr.storeAt 136 x6 x51) w fun w =>
      JOIN [] (fun J11 =>
       RD Tryz.prog (Instr.fieldAt 136 x6 0) w fun x52 =>
       RD Tryz.prog (Instr.loadAt 3 x52) w fun x53 =>
       RD Tryz.prog (bin .eql 3 (.tmp 0) (.const undef) x53 (Value.int .i64 4)) w fun x54 =>
       BR x54
        ((fun w => NIL a0 <|
        RD Tryz.prog (Instr.fieldAt 144 a0 2) w fun x57 =>
        RD Tryz.prog (Instr.loadAt 23 x57) w fun x58 =>
        RD Tryz.prog (Instr.indexAt 23 x58 (u3 33)) w fun x60 =>
        RD Tryz.prog (Instr.loadAt 3 x60) w fun x61 =>
        RD Tryz.prog (Instr.fieldAt 136 x6 1) w fun x62 =>
        RD Tryz.prog (Instr.loadAt 3 x62) w fun x63 =>
        RD Tryz.prog (convert 3 77 x63) w fun x64 =>
        RD Tryz.prog (bin .shl 3 (.const undef) (.tmp 0) (Value.int .i64 1) x64) w fun x65 =>
        RD Tryz.prog (bin .or 3 (.tmp 0) (.tmp 0) x61 x65) w fun x66 =>
        RD Tryz.prog (Instr.indexAt 23 x58 (u3 33)) w fun x67 =>
        OPU Tryz.prog (Instr.storeAt 3 x67 x66) w fun w =>
        J11 [] w) (World.drew1 w))
        (J11 [] w)) (fun u11 w =>
       RD Tryz.prog (Instr.fieldAt 136 x6 0) w fun x68 =>
       RD Tryz.prog (Instr.loadAt 3 x68) w fun x69 =>
       RD Tryz.prog (bin .eql 3 (.tmp 0) (.const undef) x69 (Value.int .i64 5)) w fun x70 =>
       BR x70
        ((fun w => NIL a0 <|
        RD Tryz.prog (Instr.fieldAt 144 a0 3) w fun x73 =>
        RD Tryz.prog (Instr.loadAt 23 x73) w fun x74 =>
        RD Tryz.prog (Instr.indexAt 23 x74 (u3 33)) w fun x76 =>
        RD Tryz.prog (Instr.loadAt 3 x76) w fun x77 =>
        RD Tryz.prog (Instr.fieldAt 136 x6 1) w fun x78 =>
        RD Tryz.prog (Instr.loadAt 3 x78) w fun x79 =>
        RD Tryz.prog (convert 3 77 x79) w fun x80 =>
        RD Tryz.prog (bin .shl 3 (.const undef) (.tmp 0) (Value.int .i64 1) x80) w fun x81 =>
        RD Tryz.prog (bin .or 3 (.tmp 0) (.tmp 0) x77 x81) w fun x82 =>
        RD Tryz.prog (Instr.indexAt 23 x74 (u3 33)) w fun x83 =>
        OPU Tryz.prog (Instr.storeAt 3 x83 x82) w fun w =>
        RD Tryz.prog (bin .add 3 (.tmp 0) (.const undef) (u6 40) (Value.int .i64 1)) w fun x84 =>
        next6 [x84] w) (World.drew1 w))
        (RD Tryz.prog (bin .add 3 (.tmp 0) (.const undef) (u6 40) (Value.int .i64 1)) w fun x84 =>
        next6 [x84] w)))
      (RD Tryz.prog (bin .add 3 (.tmp 0) (.const undef) (u3 33) (Value.int .i64 1)) w fun x85 =>
      next3 [x85] w))
    (LOOPI [87] [(Value.int .i64 0)] w fun u16 w next16 =>
     RD Tryz.prog (bin .lss 3 (.tmp 0) (.tmp 0) (u16 87) x16) w fun x88 =>
     BR x88
      (RD Tryz.prog (convert 3 77 (u16 87)) w fun x91 =>
      RD Tryz.prog (bin .shl 3 (.const undef) (.tmp 0) (Value.int .i64 1) x91) w fun x92 =>
      LOOPI [8, 9] [x92, (Value.bool true)] w fun u20 w next20 =>
       BR (u20 9)
        (NIL a0 <|
        RD Tryz.prog (Instr.fieldAt 144 a0 2) w fun x97 =>
        RD Tryz.prog (Instr.loadAt 23 x97) w fun x98 =>
        CALL Tryz.prog 195 [x98, (u20 8)] w fun x100 w =>
        RD Tryz.prog (bin .or 3 (.tmp 0) (.tmp 0) (u20 8) x100) w fun x101 =>
        RD Tryz.prog (bin .neq 3 (.tmp 0) (.tmp 0) x101 (u20 8)) w fun x104 =>
        next20 [x101, x104] w)
        (NIL a0 <|
        RD Tryz.prog (Instr.fieldAt 144 a0 4) w fun x108 =>
        RD Tryz.prog (Instr.loadAt 23 x108) w fun x109 =>
        RD Tryz.prog (Instr.indexAt 23 x109 (u16 87)) w fun x112 =>
        OPU Tryz.prog (Instr.storeAt 3 x112 (u20 8)) w fun w =>
        RD Tryz.prog (bin .add 3 (.tmp 0) (.const undef) (u16 87) (Value.int .i64 1)) w fun x113 =>
        next16 [x113] w))
      (R (Value.tuple #[]) w)))) (World.drew1 w)
def cfg127 : Cfg := { ext := extL, joins := [(11, 295143401579725455360, [])], loops := [(3, 77371252455336258591260776, [33]), (6, 38685626227667034078969952, [40]), (16, 20769187279396805603449450954491776, [87]), (20, 81119734894292398653589812152064, [8, 9])], draws := [(10, [0, 1, 2, 3, 4, 5, 6, 7, 8, 9, 10, 11, 12, 13], 0), (12, [0, 1, 2, 3, 4, 5, 6, 7, 8, 9, 10, 11, 12, 13], 0)], pars := [], gpars := [(1, 4294836224)] }
theorem F127_eq (a0 : Value) (w : World) (R : Value → World → Prop) : vcF Tryz.prog cfg127 Tryz.f127 [a0] w R = F127 a0 w R := by kernel_rfl
theorem F127_call {a0 : Value} {w : World} {R : Value → World → Prop} (h : F127 a0 w R) : CALL Tryz.prog 127 [a0] w R :=
  call_of (g := cfg127) ent mixed Tryz.func127 (Nat.le_of_ble_eq_true (by kernel_rfl)) (by kernel_rfl) (F127_eq a0 w R ▸ h)
set_option linter.unusedVariables false
set_option linter.unusedSimpArgs false
open Rep (rep)
abbrev sl (g n : Nat) : Value := .slice (some ⟨g, 0, none⟩) n n
structure FC (W0 w : World) (b e : Nat) (c : DCode) (kc : List Value) (m g6 g7 g8 : Nat) (c6 c7 c8 : List Nat) (x9 x10 : Value) : Prop where
  wb : WB W0 w b e c kc m (sl g6 c.procs.length) (sl g7 c.procs.length) (sl g8 c.procs.length) x9 x10
  m6 : Mine [g6] w (sl g6 c.procs.length) (ints c6)
  m7 : Mine [g7] w (sl g7 c.procs.length) (ints c7)
  m8 : Mine [g8] w (sl g8 c.procs.length) (ints c8)
  n6 : W0.heap.size ≤ g6 ∧ g6 ≠ b ∧ g6 ≠ m
  n7 : W0.heap.size ≤ g7 ∧ g7 ≠ b ∧ g7 ≠ m
  n8 : W0.heap.size ≤ g8 ∧ g8 ≠ b ∧ g8 ≠ m
  d67 : g6 ≠ g7
  d68 : g6 ≠ g8
  d78 : g7 ≠ g8
section
variable {W0 w w' : World} {b e m g6 g7 g8 : Nat} {c : DCode} {kc : List Value} {c6 c7 c8 : List Nat} {x9 x10 : Value}
theorem mine_chg {F : List Nat} {g : Nat} {v : Value} {l : List Int} (hm : Mine [g] w v l) (hc : Chg F w w') (hg : g ∉ F) : Mine [g] w' v l := hm.keep fun x hx => by
  simp only [List.mem_cons, List.not_mem_nil, or_false] at hx; subst hx
  exact hc.block x (hm.lt x (by simp)) hg
theorem FC.step (h : FC W0 w b e c kc m g6 g7 g8 c6 c7 c8 x9 x10) (hx : Ext w w') : FC W0 w' b e c kc m g6 g7 g8 c6 c7 c8 x9 x10 := ⟨h.wb.step hx, h.m6.ext hx, h.m7.ext hx, h.m8.ext hx, h.n6, h.n7, h.n8, h.d67, h.d68, h.d78⟩
theorem FC.set6 {i v : Nat} (h : FC W0 w b e c kc m g6 g7 g8 c6 c7 c8 x9 x10) (hc : Chg [g6] w w') (hm : Mine [g6] w' (sl g6 c.procs.length) ((ints c6).set i (v : Int))) : FC W0 w' b e c kc m g6 g7 g8 (c6.set i v) c7 c8 x9 x10 :=
  ⟨h.wb.chg hc (by simp [h.n6]), by rw [ints_set]; exact hm, mine_chg h.m7 hc (by simp [Ne.symm h.d67]), mine_chg h.m8 hc (by simp [Ne.symm h.d68]), h.n6, h.n7, h.n8, h.d67, h.d68, h.d78⟩
theorem FC.set7 {i v : Nat} (h : FC W0 w b e c kc m g6 g7 g8 c6 c7 c8 x9 x10) (hc : Chg [g7] w w') (hm : Mine [g7] w' (sl g7 c.procs.length) ((ints c7).set i (v : Int))) : FC W0 w' b e c kc m g6 g7 g8 c6 (c7.set i v) c8 x9 x10 :=
  ⟨h.wb.chg hc (by simp [h.n7]), mine_chg h.m6 hc (by simp [h.d67]), by rw [ints_set]; exact hm, mine_chg h.m8 hc (by simp [Ne.symm h.d78]), h.n6, h.n7, h.n8, h.d67, h.d68, h.d78⟩
theorem FC.set8 {i v : Nat} (h : FC W0 w b e c kc m g6 g7 g8 c6 c7 c8 x9 x10) (hc : Chg [g8] w w') (hm : Mine [g8] w' (sl g8 c.procs.length) ((ints c8).set i (v : Int))) : FC W0 w' b e c kc m g6 g7 g8 c6 c7 (c8.set i v) x9 x10 :=
  ⟨h.wb.chg hc (by simp [h.n8]), mine_chg h.m6 hc (by simp [h.d68]), mine_chg h.m7 hc (by simp [h.d78]), by rw [ints_set]; exact hm, h.n6, h.n7, h.n8, h.d67, h.d68, h.d78⟩
end
theorem WB.ins {W0 w : World} {b e m : Nat} {c : DCode} {kc : List Value} {x6 x7 x8 x9 x10 : Value} (h : WB W0 w b e c kc m x6 x7 x8 x9 x10) : ∃ v, (kc ++ [Value.slice (some ⟨m, 0, none⟩) c.ins.length c.ins.length, x6, x7, x8, x9, x10])[0 + 0 + 4]? = some v ∧ Is W0 v c.ins := by
  obtain ⟨F, hr⟩ := h.code
  obtain ⟨F0, c0, F1, c1, F2, c2, F3, c3, F4, c4, rfl, rfl, ⟨_, _, _, _, rfl, _⟩, ⟨_, _, _, _, rfl, _⟩, ⟨_, _, _, _, rfl, _⟩, ⟨_, _, _, _, rfl, _⟩, hr4⟩ := inv_DCode hr
  have hr4' := hr4
  obtain ⟨_, _, _, _, rfl, _⟩ := hr4
  exact ⟨_, rfl, _, _, hr4', rfl⟩
/-- what is found so far: of the procedures ahead of p all, of p what the first places do -/
def fcD (c : DCode) (op : Int) (p : Nat) (M : List Nat) (j : Nat) : Nat → Nat → Prop := fun q r => (q < p ∧ OpsP c q op r) ∨ (q = p ∧ ∃ i ∈ M.take j, (insAt c i).op = op ∧ agN c i = r)
theorem fcD_no {c : DCode} {op : Int} {p : Nat} {M : List Nat} {j i : Nat} (htj : ∀ x, x ∈ M.take (j + 1) ↔ x ∈ M.take j ∨ x = i) (hn : ¬ (insAt c i).op = op) (q r : Nat) : fcD c op p M j q r ↔ fcD c op p M (j + 1) q r := by
  unfold fcD
  refine or_congr Iff.rfl (and_congr Iff.rfl ?_)
  constructor
  · rintro ⟨x, hx, h⟩; exact ⟨x, (htj x).2 (.inl hx), h⟩
  · rintro ⟨x, hx, h⟩
    rcases (htj x).1 hx with hx | rfl
    · exact ⟨x, hx, h⟩
    · exact absurd h.1 hn
theorem fcD_yes {c : DCode} {op : Int} {p : Nat} {M : List Nat} {j i : Nat} (htj : ∀ x, x ∈ M.take (j + 1) ↔ x ∈ M.take j ∨ x = i) (hy : (insAt c i).op = op) (q r : Nat) : fcD c op p M (j + 1) q r ↔ fcD c op p M j q r ∨ (q = p ∧ r = agN c i) := by
  unfold fcD
  constructor
  · rintro (h | ⟨h1, x, hx, h⟩)
    · exact .inl (.inl h)
    · rcases (htj x).1 hx with hx | rfl
      · exact .inl (.inr ⟨h1, x, hx, h⟩)
      · exact .inr ⟨h1, h.2.symm⟩
  · rintro ((h | ⟨h1, x, hx, h⟩) | ⟨h1, h2⟩)
    · exact .inl h
    · exact .inr ⟨h1, x, (htj x).2 (.inl hx), h⟩
    · exact .inr ⟨h1, i, (htj i).2 (.inr rfl), hy, h2.symm⟩
theorem fcD_end {c : DCode} (hc : CodeR c) {op : Int} (hop : op = 4 ∨ op = 5) {p : Nat} {M : List Nat} (hp : p < c.procs.length) (hM : ∀ i, i ∈ M ↔ LiveP c p i) (q r : Nat) : fcD c op p M M.length q r ↔ fcD c op (p + 1) [] 0 q r := by
  have key : (∃ i ∈ M.take M.length, (insAt c i).op = op ∧ agN c i = r) ↔ OpsP c p op r := by
    rw [List.take_length]
    constructor
    · rintro ⟨i, hi, h1, h2⟩
      have hl := (hM i).1 hi
      have hin := (live_lt hc (by rw [hc.2.1.1]; exact hp) hl).1
      exact ⟨i, hin, hl, h1, by rw [(ag_proc hc hin (by omega)).1, h2]⟩
    · rintro ⟨i, hin, hl, h1, h2⟩
      have := (ag_proc hc hin (by omega)).1
      exact ⟨i, (hM i).2 hl, h1, by omega⟩
  unfold fcD
  constructor
  · rintro (h | ⟨rfl, h⟩)
    · exact .inl ⟨by omega, h.2⟩
    · exact .inl ⟨by omega, key.1 h⟩
  · rintro (⟨h1, h2⟩ | ⟨_, x, hx, _⟩)
    · by_cases e : q = p
      · subst e; exact .inr ⟨rfl, key.2 h2⟩
      · exact .inl ⟨by omega, h2⟩
    · simp at hx
theorem fcD_nil {c : DCode} {op : Int} {p : Nat} {M : List Nat} (q r : Nat) : fcD c op p [] 0 q r ↔ fcD c op p M 0 q r := by
  unfold fcD; simp
theorem CS.done {c : DCode} {op : Int} {out : List Nat} (h : CS c out (fcD c op c.procs.length [] 0)) : out = cls c op :=
  CS.eq_cls (op := op) (h.mono fun q r hq hr => by unfold fcD; simp [hq])
/-- what is called from a procedure on, while it is found -/
structure UM (c : DCode) (p m : Nat) : Prop where
  lt : m < 2 ^ c.procs.length
  self : m.testBit p = true
  snd : ∀ r, m.testBit r = true → FromP c p r
theorem UM.start {c : DCode} {p : Nat} (hp : p < c.procs.length) : UM c p (2 ^ p) := ⟨Nat.pow_lt_pow_right (by omega) hp, by simp [Nat.testBit_two_pow], fun r hr => by simp [Nat.testBit_two_pow] at hr; exact .inl hr.symm⟩
theorem cls_bit {c : DCode} {op : Int} {q r : Nat} (hq : q < c.procs.length) : (nat0 (cls c op) q).testBit r = true ↔ r < c.procs.length ∧ OpsP c q op r := by rw [cls_at hq, setN_bit]
theorem UM.more {c : DCode} (h8 : c.procs.length ≤ 8) {p m : Nat} (h : UM c p m) : UM c p (m ||| orL (cls c 4) (bitsL m)) := by
  have hb : ∀ r, (orL (cls c 4) (bitsL m)).testBit r = true → ∃ i, i < c.procs.length ∧ m.testBit i = true ∧ r < c.procs.length ∧ OpsP c i 4 r := fun r hr => by
    obtain ⟨i, h1, h2, h3⟩ := (orL_mask h.lt (by omega)).1 hr
    exact ⟨i, h1, h2, (cls_bit h1).1 h3⟩
  refine ⟨Nat.or_lt_two_pow h.lt (mask_lt fun r hr => by obtain ⟨i, _, _, h3, _⟩ := hb r hr; exact h3), by rw [Nat.testBit_or, h.self]; rfl, fun r hr => ?_⟩
  rw [Nat.testBit_or, Bool.or_eq_true] at hr
  rcases hr with hr | hr
  · exact h.snd r hr
  · obtain ⟨i, h1, h2, h3, h4⟩ := hb r hr
    exact (h.snd i h2).call h3 h4
theorem UM.fin {c : DCode} (h8 : c.procs.length ≤ 8) {p m : Nat} (h : UM c p m) (he : m ||| orL (cls c 4) (bitsL m) = m) : m = setN (FromP c p) c.procs.length := by
  have hlt : ∀ r, m.testBit r = true → r < c.procs.length := fun r hr => Decidable.byContradiction fun hn => by
    have := Nat.testBit_lt_two_pow (Nat.lt_of_lt_of_le h.lt (Nat.pow_le_pow_right (by omega) (by omega : c.procs.length ≤ r)))
    rw [this] at hr; cases hr
  refine eq_setN fun r => ⟨fun hr => ⟨hlt r hr, h.snd r hr⟩, fun ⟨_, hf⟩ => ?_⟩
  have step : ∀ i j, m.testBit i = true → j ∈ callN c i → m.testBit j = true := fun i j hi hj => by
    obtain ⟨hj1, hj2⟩ := mem_setL.1 hj
    rw [← he, Nat.testBit_or, (orL_mask h.lt (by omega)).2 ⟨i, hlt i hi, hi, (cls_bit (hlt i hi)).2 ⟨hj1, hj2⟩⟩]
    simp
  rcases hf with rfl | hf
  · exact h.self
  · exact hf.keeps (p := fun i => m.testBit i = true) h.self step
theorem cls256 {c : DCode} (h8 : c.procs.length ≤ 8) (op : Int) : ∀ x ∈ cls c op, x < 256 := fun x hx => by
  obtain ⟨q, _, rfl⟩ := List.mem_map.1 hx
  exact setN_small h8
theorem frs256 {c : DCode} (h8 : c.procs.length ≤ 8) : ∀ x ∈ frs c, x < 256 := fun x hx => by
  obtain ⟨q, _, rfl⟩ := List.mem_map.1 hx
  exact setN_small h8
theorem findCalls_ok {w W0 : World} {b e m : Nat} {c : DCode} {kc : List Value} {x6 x7 x8 x9 x10 : Value} (H : WB W0 w b e c kc m x6 x7 x8 x9 x10) (hc : CodeR c) :
    CALL Tryz.prog 127 [.pointer (some ⟨b, 0, none⟩)] w fun r w' => r = .tuple #[] ∧ ∃ g6 g7 g8, FC W0 w' b e c kc m g6 g7 g8 (cls c 4) (cls c 5) (frs c) x9 x10 := by
  refine F127_call ?_
  unfold F127
  have h8 := hc.1.procs8
  have hil := hc.f.ins
  refine NIL.mk rfl ?_
  refine rd_fld fd144_0 ?_
  refine rd_fld fd35_2 ?_
  refine rd_load ty22 (at_DCode_2 H.code_at) (Ext.refl _) fun v15 h15 => ?_
  refine rd_len u22 h15 ?_
  have hxd := ext_drew w
  have H1 := H.step hxd
  have h6 : (kc ++ [sl m c.ins.length]).length = 6 := by rw [List.length_append, H.k5]; rfl
  have hB0 : fcB (World.drew1 w) b e (kc ++ [sl m c.ins.length]) x9 x10 (World.drew1 w) := ⟨ChgI.refl _, x6, x7, x8, by rw [List.append_assoc]; exact H1.blk⟩
  have hbl := H1.blk.lt
  have hsd : (World.drew1 w).heap.size = w.heap.size := rfl
  refine GPAR.mk (fcB (World.drew1 w) b e (kc ++ [sl m c.ins.length]) x9 x10) (fcR b e) (fcQ b e c.procs.length) hB0 (fun j w1 w2 h1 h2 => h1.step h6 h2) (fun j w1 w2 h => h.sz) ?_ ?_ ?_
  · intro i j u u' T T' wa wb hij hBa hR hd hq
    match i, hij, hd, hq with
    | 0, _, hd, hq => exact (hd (0, 17) (by decide)).1.trans hq
    | 1, _, hd, hq => exact (hd (1, 18) (by decide)).1.trans hq
    | 2, _, hd, hq => exact (hd (2, 19) (by decide)).1.trans hq
    | 3, _, hd, hq => exact (hd (3, 20) (by decide)).1.trans hq
    | 4, _, hd, ⟨g, q1, q2, q3, q4, q5⟩ =>
      obtain ⟨e1, e2⟩ := hd (4, 21) (by decide)
      simp only at e1 e2
      exact ⟨g, e1.trans q1, by rw [e2]; exact q2, by rw [e2]; exact q3, q4, hR.mine q4 q5⟩
    | 5, _, hd, hq => exact (hd (5, 22) (by decide)).1.trans hq
    | 6, _, hd, ⟨g, q1, q2, q3, q4, q5⟩ =>
      obtain ⟨e1, e2⟩ := hd (6, 23) (by decide)
      simp only at e1 e2
      exact ⟨g, e1.trans q1, by rw [e2]; exact q2, by rw [e2]; exact q3, q4, hR.mine q4 q5⟩
    | 7, _, hd, hq => exact (hd (7, 24) (by decide)).1.trans hq
    | 8, _, hd, ⟨g, q1, q2, q3, q4, q5⟩ =>
      obtain ⟨e1, e2⟩ := hd (8, 25) (by decide)
      simp only at e1 e2
      exact ⟨g, e1.trans q1, by rw [e2]; exact q2, by rw [e2]; exact q3, q4, hR.mine q4 q5⟩
    | 9, _, hd, hq => exact (hd (9, 26) (by decide)).1.trans hq
    | 10, _, hd, hq => exact (hd (10, 27) (by decide)).1.trans hq
    | 11, hij, hd, hq =>
      have e1 := (hd (4, 21) (by decide)).1
      simp only at e1
      show ∃ cs, Blk b e wb cs ∧ cs[6]? = some (u' 21)
      rw [e1]
      exact hR.cell (fun hs => by rcases hs with rfl | rfl | rfl <;> first | exact absurd rfl hij | decide) hq
    | 12, _, hd, hq => exact (hd (12, 28) (by decide)).1.trans hq
    | 13, _, hd, hq => exact (hd (13, 29) (by decide)).1.trans hq
    | 14, hij, hd, hq =>
      have e1 := (hd (6, 23) (by decide)).1
      simp only at e1
      show ∃ cs, Blk b e wb cs ∧ cs[7]? = some (u' 23)
      rw [e1]
      exact hR.cell (fun hs => by rcases hs with rfl | rfl | rfl <;> first | exact absurd rfl hij | decide) hq
    | 15, _, hd, hq => exact (hd (15, 30) (by decide)).1.trans hq
    | 16, _, hd, hq => exact (hd (16, 31) (by decide)).1.trans hq
    | 17, hij, hd, hq =>
      have e1 := (hd (8, 25) (by decide)).1
      simp only at e1
      show ∃ cs, Blk b e wb cs ∧ cs[8]? = some (u' 25)
      rw [e1]
      exact hR.cell (fun hs => by rcases hs with rfl | rfl | rfl <;> first | exact absurd rfl hij | decide) hq
    | n + 18, _, _, _ => trivial
  · have nf : ∀ j, j ≠ 11 → j ≠ 14 → j ≠ 17 → ¬ fcSt j := fun j a b d h => by rcases h with h | h | h <;> contradiction
    refine ⟨?_, ?_, ?_, ?_, ?_, ?_, ?_, ?_, ?_, ?_, ?_, ?_, ?_, ?_, ?_, ?_, ?_, ?_, trivial⟩
    · exact fun u T w' hB hs _ _ => ⟨.ext (nf _ (by decide) (by decide) (by decide)) (Ext.refl _), rfl⟩
    · exact fun u T w' hB hs _ _ => ⟨.ext (nf _ (by decide) (by decide) (by decide)) (Ext.refl _), rfl⟩
    · exact fun u T w' hB hs _ _ => ⟨.ext (nf _ (by decide) (by decide) (by decide)) (Ext.refl _), rfl⟩
    · exact fun u T w' hB hs _ _ => ⟨.ext (nf _ (by decide) (by decide) (by decide)) (Ext.refl _), rfl⟩
    · intro u T w' hB hs _ hp
      have q2 : u 20 = _ := hp.1
      rw [q2]
      exact op_makeI h8.2 (by omega) fun w4 hx4 r => ⟨.ext (nf _ (by decide) (by decide) (by decide)) hx4, _, rfl, Nat.le_refl _, r.lt _ (List.mem_singleton.2 rfl), by obtain ⟨_, _, _, _, hb⟩ := hB; have := hb.lt; omega, r⟩
    · exact fun u T w' hB hs _ _ => ⟨.ext (nf _ (by decide) (by decide) (by decide)) (Ext.refl _), rfl⟩
    · intro u T w' hB hs _ hp
      have q2 : u 22 = _ := hp.1
      rw [q2]
      exact op_makeI h8.2 (by omega) fun w4 hx4 r => ⟨.ext (nf _ (by decide) (by decide) (by decide)) hx4, _, rfl, Nat.le_refl _, r.lt _ (List.mem_singleton.2 rfl), by obtain ⟨_, _, _, _, hb⟩ := hB; have := hb.lt; omega, r⟩
    · exact fun u T w' hB hs _ _ => ⟨.ext (nf _ (by decide) (by decide) (by decide)) (Ext.refl _), rfl⟩
    · intro u T w' hB hs _ hp
      have q2 : u 24 = _ := hp.1
      rw [q2]
      exact op_makeI h8.2 (by omega) fun w4 hx4 r => ⟨.ext (nf _ (by decide) (by decide) (by decide)) hx4, _, rfl, Nat.le_refl _, r.lt _ (List.mem_singleton.2 rfl), by obtain ⟨_, _, _, _, hb⟩ := hB; have := hb.lt; omega, r⟩
    · intro u T w' hB hs _ hp
      have q : u 17 = _ := hp.1
      rw [q]
      exact NIL.mk rfl ⟨.ext (nf _ (by decide) (by decide) (by decide)) (Ext.refl _), rfl⟩
    · intro u T w' hB hs _ hp
      have q : u 26 = _ := hp.1
      rw [q]
      exact rd_fld fd144_2 ⟨.ext (nf _ (by decide) (by decide) (by decide)) (Ext.refl _), rfl⟩
    · intro u T w' hB hs _ hp
      have q : u 27 = _ := hp.1
      obtain ⟨g, q1, _⟩ := hp.2.1
      rw [q, q1]
      refine fc_store (j := 11) (.inl rfl) h6 hB fun w2 hR hQ => ⟨hR, ?_⟩
      show ∃ cs, Blk b e w2 cs ∧ cs[6]? = some (u 21)
      rw [q1]; exact hQ
    · intro u T w' hB hs _ hp
      have q : u 18 = _ := hp.1
      rw [q]
      exact NIL.mk rfl ⟨.ext (nf _ (by decide) (by decide) (by decide)) (Ext.refl _), rfl⟩
    · intro u T w' hB hs _ hp
      have q : u 28 = _ := hp.1
      rw [q]
      exact rd_fld fd144_3 ⟨.ext (nf _ (by decide) (by decide) (by decide)) (Ext.refl _), rfl⟩
    · intro u T w' hB hs _ hp
      have q : u 29 = _ := hp.1
      obtain ⟨g, q1, _⟩ := hp.2.1
      rw [q, q1]
      refine fc_store (j := 14) (.inr (.inl rfl)) h6 hB fun w2 hR hQ => ⟨hR, ?_⟩
      show ∃ cs, Blk b e w2 cs ∧ cs[7]? = some (u 23)
      rw [q1]; exact hQ
    · intro u T w' hB hs _ hp
      have q : u 19 = _ := hp.1
      rw [q]
      exact NIL.mk rfl ⟨.ext (nf _ (by decide) (by decide) (by decide)) (Ext.refl _), rfl⟩
    · intro u T w' hB hs _ hp
      have q : u 30 = _ := hp.1
      rw [q]
      exact rd_fld fd144_4 ⟨.ext (nf _ (by decide) (by decide) (by decide)) (Ext.refl _), rfl⟩
    · intro u T w' hB hs _ hp
      have q : u 31 = _ := hp.1
      obtain ⟨g, q1, _⟩ := hp.2.1
      rw [q, q1]
      refine fc_store (j := 17) (.inr (.inr rfl)) h6 hB fun w2 hR hQ => ⟨hR, ?_⟩
      show ∃ cs, Blk b e w2 cs ∧ cs[8]? = some (u 25)
      rw [q1]; exact hQ
  rintro u T w2 hB hs hap ⟨-, -, -, -, ⟨g6, q21, ha6, hb6, hn6, hM6⟩, -, ⟨g7, q23, ha7, hb7, hn7, hM7⟩, -, ⟨g8, q25, ha8, hb8, hn8, hM8⟩, -, -, ⟨cs6, hB6, hc6⟩, -, -, ⟨cs7, hB7, hc7⟩, -, -, ⟨cs8, hB8, hc8⟩, -⟩
  have t4 := hap.1 4 (by decide)
  have t6 := hap.1 6 (by decide)
  have t8 := hap.1 8 (by decide)
  have d46 := hap.2 4 (by decide) 6 (by decide) (by decide)
  have d48 := hap.2 4 (by decide) 8 (by decide) (by decide)
  have d68 := hap.2 6 (by decide) 8 (by decide) (by decide)
  obtain ⟨hch, y6, y7, y8, hBB⟩ := hB
  have u6 := hBB.uniq hB6
  have u7 := hBB.uniq hB7
  have u8 := hBB.uniq hB8
  subst u6 u7 u8
  rw [List.getElem?_append_right (by rw [h6]; decide), h6, q21] at hc6
  rw [List.getElem?_append_right (by rw [h6]; decide), h6, q23] at hc7
  rw [List.getElem?_append_right (by rw [h6]; decide), h6, q25] at hc8
  have e6 : y6 = sl g6 c.procs.length := by simpa using hc6
  have e7 : y7 = sl g7 c.procs.length := by simpa using hc7
  have e8 : y8 = sl g8 c.procs.length := by simpa using hc8
  subst e6 e7 e8
  rw [List.append_assoc] at hBB
  have hW2 := H1.cells hch hBB
  have hml := H1.live.lt m (by simp)
  have hb0 := H.b0
  have hF2 : FC W0 w2 b e c kc m g6 g7 g8 (List.replicate c.procs.length 0) (List.replicate c.procs.length 0) (List.replicate c.procs.length 0) x9 x10 := ⟨hW2, hM6, hM7, hM8, ⟨by omega, hn6, by omega⟩, ⟨by omega, hn7, by omega⟩, ⟨by omega, hn8, by omega⟩, by omega, by omega, by omega⟩
  clear hc6 hc7 hc8 hB6 hB7 hB8 hBB hW2 hch H1 hB0 hap d46 d48 d68 t4 t6 t8
  have hz : ∀ op, CS c (List.replicate c.procs.length 0) (fcD c op 0 [] 0) := fun op => CS.zero fun q r h => by unfold fcD at h; simp at h
  have hz4 := hz 4
  have hz5 := hz 5
  have hc8l : (List.replicate c.procs.length 0).length = c.procs.length := by simp
  refine loopC c.procs.length (fun k us w' => ∃ c6 c7, us = [.int .i64 (k : Int)] ∧ k ≤ c.procs.length ∧ FC W0 w' b e c kc m g6 g7 g8 c6 c7 (List.replicate c.procs.length 0) x9 x10 ∧ CS c c6 (fcD c 4 k [] 0) ∧ CS c c7 (fcD c 5 k [] 0)) 0 (Nat.zero_le _) ⟨_, _, rfl, Nat.zero_le _, hF2, hz4, hz5⟩ ?_
  rintro p mk u3 w3 hkm ⟨c6, c7, hu, hkl, hF3, hC6, hC7⟩
  simp only [List.map_cons, List.map_nil, List.cons.injEq, and_true] at hu
  rw [hu]
  refine rd_lss ?_
  refine br (fun hlt => ?_) (fun hge => ?_)
  · have hp : p < c.procs.length := by omega
    have hpe : p < c.entry.length := by rw [hc.2.1.1]; exact hp
    refine (liveOf_ok hF3.wb.wl (Ext.refl _) hc hp).mono ?_
    rintro v38 w4 ⟨hx4, ho4⟩
    have hF4 := hF3.step hx4
    have hM : ∀ i, i ∈ setL c.ins.length (LiveP c p) ↔ LiveP c p i := fun i => by rw [mem_setL]; exact ⟨fun h => h.2, fun h => ⟨(live_lt hc hpe h).1, h⟩⟩
    have hMl : (setL c.ins.length (LiveP c p)).length ≤ 1500 := Nat.le_trans setL_len hil
    generalize setL c.ins.length (LiveP c p) = M at *
    have hg6 := hF3.m6.lt g6 (by simp)
    have hg7 := hF3.m7.lt g7 (by simp)
    refine rd_len u23 ho4.is ?_
    rw [ints_len]
    refine loopC M.length (fun j us w' => ∃ c6 c7, us = [.int .i64 (j : Int)] ∧ j ≤ M.length ∧ FC W0 w' b e c kc m g6 g7 g8 c6 c7 (List.replicate c.procs.length 0) x9 x10 ∧ CS c c6 (fcD c 4 p M j) ∧ CS c c7 (fcD c 5 p M j) ∧ OwnI w3.heap.size w4.heap.size w' v38 (ints M)) 0 (Nat.zero_le _) ⟨c6, c7, rfl, Nat.zero_le _, hF4, hC6.mono fun q r _ _ => fcD_nil q r, hC7.mono fun q r _ _ => fcD_nil q r, ho4.toI⟩ ?_
    rintro j mj u5 w5 hjm ⟨c65, c75, hu, hjl, hF5, hC65, hC75, hO5⟩
    simp only [List.map_cons, List.map_nil, List.cons.injEq, and_true] at hu
    rw [hu]
    refine rd_lss ?_
    refine br (fun hlt5 => ?_) (fun hge5 => ?_)
    case refine_2 =>
      have hje : j = M.length := by omega
      rw [hje] at hC65 hC75
      refine rd_inc (by omega) ?_
      exact ⟨mk - 1, by omega, p + 1, by omega, c65, c75, rfl, by omega, hF5, hC65.mono fun q r _ _ => fcD_end hc (.inl rfl) hp hM q r, hC75.mono fun q r _ _ => fcD_end hc (.inr rfl) hp hM q r⟩
    have hj : j < M.length := by omega
    refine rd_indexN u23 ty3 (i := j) hO5.is (by rw [ints_len]; exact hj) fun b2 o2 hA2 => ?_
    rw [ints_get] at hA2
    refine rd_loadI ty3 hA2 (Ext.refl _) fun _ => ?_
    have htj := fun x => mem_take_iff hj (x := x)
    have hiv := (hM M[j]).1 (List.getElem_mem hj)
    generalize M[j] = i at *
    have hin := (live_lt hc hpe hiv).1
    obtain ⟨v4, hv4, hi4⟩ := hF5.wb.ins
    refine NIL.mk rfl ?_
    refine rd_fld fd144_0 ?_
    refine rd_fld fd35_4 ?_
    refine rd_blkV ty33 hF5.wb.blk hv4 ?_
    refine rd_indexN u33 ty136 hi4 hin fun b3 o3 hA3 => ?_
    rw [insAt_get] at hA3
    refine rd_load ty136 hA3 hF5.wb.ext fun v51 h51 => ?_
    refine op_var zl136 rfl ty136 rfl h51 hF5.wb.ext fun w6 hx6 hAI hV6 => ?_
    have hF6 := hF5.step hx6
    have hO6 := hO5.ext hx6
    have hAB6 := atB_box h51 hV6 rfl
    have hgI := hV6.lt
    have hgI0 : w5.heap.size ≠ g6 := by have := hF5.m6.lt g6 (by simp); omega
    generalize w5.heap.size = gI at *
    refine JOIN.mk (fun us w' => ∃ c6', FC W0 w' b e c kc m g6 g7 g8 c6' c75 (List.replicate c.procs.length 0) x9 x10 ∧ CS c c6' (fcD c 4 p M (j + 1)) ∧ OwnI w3.heap.size w4.heap.size w' v38 (ints M) ∧ AtB W0 w' gI 0 (insAt c i)) ?_ ?_
    · refine rd_fld fd136_0 ?_
      refine rd_loadI ty3 (at_DIns_0 hAI) (Ext.refl _) fun _ => ?_
      refine rd_eql ?_
      refine br (fun c4 => ?_) (fun c4 => ?_)
      · obtain ⟨ha1, ha2⟩ := ag_proc hc hin (.inl c4)
        have hxd := ext_drew w6
        have hF7 := hF6.step hxd
        have hO7 := hO6.ext hxd
        have hAB7 := hAB6.ext hxd
        have hgI7 : gI < (World.drew1 w6).heap.size := Nat.lt_of_lt_of_le hgI hxd.size
        generalize World.drew1 w6 = w7 at *
        have hpl : p < c65.length := by rw [hC65.1]; exact hp
        refine NIL.mk rfl ?_
        refine rd_fld fd144_2 ?_
        refine rd_blkV ty23 hF7.wb.blk (hF7.wb.cell 1) ?_
        refine rd_indexN u23 ty3 (i := p) hF7.m6.is (by rw [ints_len]; exact hpl) fun b4 o4 hA4 => ?_
        rw [ints_nat0] at hA4
        refine rd_loadI ty3 hA4 (Ext.refl _) fun _ => ?_
        have h256 := hC65.lt0 h8.1 hp
        refine rd_fld fd136_1 ?_
        refine rd_loadI ty3 (at_DIns_1 hAI) hxd fun _ => ?_
        rw [ha1]
        have hpw : 2 ^ agN c i < 256 := Nat.lt_of_lt_of_le (Nat.pow_lt_pow_right (by omega) ha2) (Nat.pow_le_pow_right (n := 2) (by omega) h8.1)
        refine rd_uint (by kernel_rfl) u77 (by omega) ?_
        refine rd_shl1 (by omega) ?_
        refine rd_or (m := nat0 c65 p) (n := 2 ^ agN c i) (by omega) (by omega) ?_
        have hor : nat0 c65 p ||| 2 ^ agN c i < 256 := Nat.or_lt_two_pow (n := 8) h256 hpw
        refine rd_elt (α := Int) rfl u23 ty3 hp ?_
        refine opu_elt (α := Int) rfl ty3 hF7.m6 (by rw [ints_len, hC65.1]) hp (mine_nat (v := nat0 c65 p ||| 2 ^ agN c i) (by omega)) fun w8 hc8 hm8 => ?_
        have hF8 := hF7.set6 (v := nat0 c65 p ||| 2 ^ agN c i) hc8 hm8
        exact ⟨_, hF8, hC65.set hp ha2 fun q r => fcD_yes htj c4 q r, hO7.chgF hc8 (by simp; omega), hAB7.keep (hc8.block gI hgI7 (by simp; exact hgI0))⟩
      · exact ⟨c65, hF6, hC65.mono fun q r _ _ => fcD_no htj c4 q r, hO6, hAB6⟩
    rintro u9 w9 ⟨c69, hF9, hC69, hO9, hAB9⟩
    have hAI9 := hAB9.at hF9.wb.ext
    refine rd_fld fd136_0 ?_
    refine rd_loadI ty3 (at_DIns_0 hAI9) (Ext.refl _) fun _ => ?_
    refine rd_eql ?_
    refine br (fun c5 => ?_) (fun c5 => ?_)
    · obtain ⟨ha1, ha2⟩ := ag_proc hc hin (.inr c5)
      have hxd := ext_drew w9
      have hF10 := hF9.step hxd
      have hO10 := hO9.ext hxd
      generalize World.drew1 w9 = w10 at *
      have hpl : p < c75.length := by rw [hC75.1]; exact hp
      refine NIL.mk rfl ?_
      refine rd_fld fd144_3 ?_
      refine rd_blkV ty23 hF10.wb.blk (hF10.wb.cell 2) ?_
      refine rd_indexN u23 ty3 (i := p) hF10.m7.is (by rw [ints_len]; exact hpl) fun b4 o4 hA4 => ?_
      rw [ints_nat0] at hA4
      refine rd_loadI ty3 hA4 (Ext.refl _) fun _ => ?_
      have h256 := hC75.lt0 h8.1 hp
      refine rd_fld fd136_1 ?_
      refine rd_loadI ty3 (at_DIns_1 hAI9) hxd fun _ => ?_
      rw [ha1]
      have hpw : 2 ^ agN c i < 256 := Nat.lt_of_lt_of_le (Nat.pow_lt_pow_right (by omega) ha2) (Nat.pow_le_pow_right (n := 2) (by omega) h8.1)
      refine rd_uint (by kernel_rfl) u77 (by omega) ?_
      refine rd_shl1 (by omega) ?_
      refine rd_or (m := nat0 c75 p) (n := 2 ^ agN c i) (by omega) (by omega) ?_
      have hor : nat0 c75 p ||| 2 ^ agN c i < 256 := Nat.or_lt_two_pow (n := 8) h256 hpw
      refine rd_elt (α := Int) rfl u23 ty3 hp ?_
      refine opu_elt (α := Int) rfl ty3 hF10.m7 (by rw [ints_len, hC75.1]) hp (mine_nat (v := nat0 c75 p ||| 2 ^ agN c i) (by omega)) fun w11 hc11 hm11 => ?_
      have hF11 := hF10.set7 (v := nat0 c75 p ||| 2 ^ agN c i) hc11 hm11
      refine rd_inc (by omega) ?_
      exact ⟨mj - 1, by omega, j + 1, by omega, c69, _, rfl, by omega, hF11, hC69, hC75.set hp ha2 fun q r => fcD_yes htj c5 q r, hO10.chgF hc11 (by simp; omega)⟩
    · refine rd_inc (by omega) ?_
      exact ⟨mj - 1, by omega, j + 1, by omega, c69, c75, rfl, by omega, hF9, hC69, hC75.mono fun q r _ _ => fcD_no htj c5 q r, hO9⟩
  have hke : p = c.procs.length := by omega
  rw [hke] at hC6 hC7
  rw [hC6.done, hC7.done] at hF3
  clear hC6 hC7 hF2 hkm hu
  have hCz : CS c (List.replicate c.procs.length 0) (fun q r => q < 0 ∧ FromP c q r) := CS.zero fun q r h => by omega
  generalize List.replicate c.procs.length 0 = c8 at *
  refine loopC c.procs.length (fun k us w' => ∃ c8, us = [.int .i64 (k : Int)] ∧ k ≤ c.procs.length ∧ FC W0 w' b e c kc m g6 g7 g8 (cls c 4) (cls c 5) c8 x9 x10 ∧ CS c c8 (fun q r => q < k ∧ FromP c q r)) 0 (Nat.zero_le _) ⟨_, rfl, Nat.zero_le _, hF3, hCz⟩ ?_
  rintro k mk u4 w4 hkm ⟨c84, hu, hkl, hF4, hC84⟩
  simp only [List.map_cons, List.map_nil, List.cons.injEq, and_true] at hu
  rw [hu]
  refine rd_lss ?_
  refine br (fun hlt4 => ?_) (fun hge4 => ?_)
  case refine_2 =>
    have hke : k = c.procs.length := by omega
    rw [hke] at hC84
    have : c84 = frs c := by
      refine List.ext_getElem (by rw [hC84.1, frs_len]) fun i h1 h2 => ?_
      have hi : i < c.procs.length := by rw [← hC84.1]; exact h1
      rw [nat0_get h1, nat0_get h2, frs_at hi, hC84.2 i hi]
      exact setN_congr fun r _ => ⟨fun h => h.2, fun h => ⟨hi, h⟩⟩
    rw [this] at hF4
    exact ⟨rfl, g6, g7, g8, hF4⟩
  have hk : k < c.procs.length := by omega
  refine rd_uint (by kernel_rfl) u77 (by omega) ?_
  refine rd_shl1 (by omega) ?_
  have hU := UM.start (c := c) hk
  have h8' : 2 ^ c.procs.length ≤ 256 := Nat.pow_le_pow_right (n := 2) (by omega) h8.1
  refine LOOPI.mk (fun mm us w' => ∃ (s : Nat) (ag : Bool), us = [.int .i64 (s : Int), .bool ag] ∧ mm = (256 - s) + (if ag then 1 else 0) ∧ FC W0 w' b e c kc m g6 g7 g8 (cls c 4) (cls c 5) c84 x9 x10 ∧ UM c k s ∧ (ag = false → s = setN (FromP c k) c.procs.length)) (256 - 2 ^ k + 1) ⟨2 ^ k, true, rfl, rfl, hF4, hU, fun e => by cases e⟩ ?_
  rintro mm u5 w5 ⟨s, ag, hu, hm, hF5, hU5, hend⟩
  simp only [List.map_cons, List.map_nil, List.cons.injEq, and_true] at hu
  obtain ⟨hu1, hu2⟩ := hu
  rw [hu1, hu2]
  have hs256 : s < 256 := Nat.lt_of_lt_of_le hU5.lt h8'
  refine br_b (fun hag => ?_) (fun hag => ?_)
  · rw [hag, if_pos rfl] at hm
    refine NIL.mk rfl ?_
    refine rd_fld fd144_2 ?_
    refine rd_blkV ty23 hF5.wb.blk (hF5.wb.cell 1) ?_
    refine (unionOf_ok hF5.m6.is (Ext.refl _) (cls256 h8.1 4) (by rw [cls_len]; exact h8.1) (m := s) (by rw [cls_len]; exact hU5.lt)).mono ?_
    rintro _ w6 ⟨hx6, rfl⟩
    have hF6 := hF5.step hx6
    have hor := orL_lt (cls256 h8.1 4) (bitsL s)
    have hU6 := hU5.more h8.1
    have hfin := hU5.fin h8.1
    have hgt := fun h => or_gt (m := orL (cls c 4) (bitsL s)) (n := s) h
    refine rd_or (m := s) (n := orL (cls c 4) (bitsL s)) (by omega) (by omega) ?_
    have hor2 : s ||| orL (cls c 4) (bitsL s) < 256 := Nat.or_lt_two_pow (n := 8) hs256 hor
    generalize s ||| orL (cls c 4) (bitsL s) = t at *
    refine rd_neq ?_
    by_cases hts : t = s
    · refine ⟨256 - t, by omega, t, _, rfl, ?_, hF6, hU6, fun _ => by rw [hts]; exact hfin hts⟩
      rw [hts]; simp
    · have hd : decide ((t : Int) ≠ (s : Int)) = true := decide_eq_true fun h => hts (Int.ofNat_inj.1 h)
      have := hgt hts
      rw [hd]
      exact ⟨256 - t + 1, by omega, t, true, rfl, rfl, hF6, hU6, fun e => by cases e⟩
  · have hse := hend hag
    have hpl : k < c84.length := by rw [hC84.1]; exact hk
    refine NIL.mk rfl ?_
    refine rd_fld fd144_4 ?_
    refine rd_blkV ty23 hF5.wb.blk (hF5.wb.cell 3) ?_
    refine rd_elt (α := Int) rfl u23 ty3 hk ?_
    refine opu_elt (α := Int) rfl ty3 hF5.m8 (by rw [ints_len, hC84.1]) hk (mine_nat (v := s) (by omega)) fun w6 hc6 hm6 => ?_
    have hF6 := hF5.set8 (v := s) hc6 hm6
    refine rd_inc (by omega) ?_
    refine ⟨mk - 1, by omega, k + 1, by omega, _, rfl, by omega, hF6, by simp [hC84.1], fun q hq => ?_⟩
    rw [nat0_set hpl]
    split
    · rename_i e
      subst e
      rw [hse]
      exact setN_congr fun r _ => ⟨fun h => ⟨by omega, h⟩, fun h => h.2⟩
    · rename_i e
      rw [hC84.2 q hq]
      exact setN_congr fun r _ => ⟨fun h => ⟨by omega, h.2⟩, fun h => ⟨by omega, h.2⟩⟩
end Go.Proofs.YtjgfldfbljmhhaaGreat
namespace Go.Proofs.YtjgfldfbljmhhaaGreat
open Go Go.Sh Go.Proofs
set_option linter.unusedVariables false
/-- (*impl.world).mainProc -/
def F196 (a0 : Value) (w : World) (R : Value → World → Prop) : Prop :=
  NIL a0 <|
  RD Tryz.prog (Instr.fieldAt 144 a0 0) w fun x5 =>
  RD Tryz.prog (Instr.fieldAt 35 x5 2) w fun x6 =>
  RD Tryz.prog (Instr.loadAt 22 x6) w fun x7 =>
  CALL Tryz.prog 242 [x7, (Value.string (ByteArray.mk #[109, 97, 105, 110]))] w fun x8 w =>
  R x8 w
def cfg196 : Cfg := { ext := extL, joins := [], loops := [], draws := [], pars := [] }
theorem F196_eq (a0 : Value) (w : World) (R : Value → World → Prop) : vcF Tryz.prog cfg196 Tryz.f196 [a0] w R = F196 a0 w R := by kernel_rfl
theorem F196_call {a0 : Value} {w : World} {R : Value → World → Prop} (h : F196 a0 w R) : CALL Tryz.prog 196 [a0] w R :=
  call_of (g := cfg196) ent mixed Tryz.func196 (Nat.le_of_ble_eq_true (by kernel_rfl)) (by kernel_rfl) (F196_eq a0 w R ▸ h)
/-- (*impl.world).findRoots -/
def F128 (a0 : Value) (w : World) (R : Value → World → Prop) : Prop :=
  CALL Tryz.prog 196 [a0] w fun x6 w =>
  RD Tryz.prog (convert 3 77 x6) w fun x7 =>
  RD Tryz.prog (bin .shl 3 (.const undef) (.tmp 0) (Value.int .i64 1) x7) w fun x8 =>
  LOOPI [2, 3] [x8, (Value.bool true)] w fun u2 w next2 =>
   BR (u2 3)
    (NIL a0 <|
    RD Tryz.prog (Instr.fieldAt 144 a0 4) w fun x13 =>
    RD Tryz.prog (Instr.loadAt 23 x13) w fun x14 =>
    CALL Tryz.prog 195 [x14, (u2 2)] w fun x16 w =>
    NIL a0 <|
    RD Tryz.prog (Instr.fieldAt 144 a0 6) w fun x18 =>
    OPU Tryz.prog (Instr.storeAt 3 x18 x16) w fun w =>
    (fun w => NIL a0 <|
    RD Tryz.prog (Instr.fieldAt 144 a0 3) w fun x22 =>
    RD Tryz.prog (Instr.loadAt 23 x22) w fun x23 =>
    NIL a0 <|
    RD Tryz.prog (Instr.fieldAt 144 a0 6) w fun x26 =>
    RD Tryz.prog (Instr.loadAt 3 x26) w fun x27 =>
    (fun w_ => CALL Tryz.prog 195 [x23, x27] w_ fun x28 w =>
    Ext w_ w ∧
    RD Tryz.prog (bin .or 3 (.tmp 0) (.tmp 0) (u2 2) x28) w fun x29 =>
    RD Tryz.prog (bin .neq 3 (.tmp 0) (.tmp 0) x29 (u2 2)) w fun x32 =>
    next2 [x29, x32] w) w) (World.drew1 w))
    (NIL a0 <|
    RD Tryz.prog (Instr.fieldAt 144 a0 5) w fun x37 =>
    OPU Tryz.prog (Instr.storeAt 3 x37 (u2 2)) w fun w =>
    R (Value.tuple #[]) w)
def cfg128 : Cfg := { ext := extL, joins := [], loops := [(2, 17179868700, [2, 3])], draws := [(4, [0, 1, 2, 3, 4, 5, 6, 7, 8, 9, 10, 11], 512)], pars := [] }
theorem F128_eq (a0 : Value) (w : World) (R : Value → World → Prop) : vcF Tryz.prog cfg128 Tryz.f128 [a0] w R = F128 a0 w R := by kernel_rfl
theorem F128_call {a0 : Value} {w : World} {R : Value → World → Prop} (h : F128 a0 w R) : CALL Tryz.prog 128 [a0] w R :=
  call_of (g := cfg128) ent mixed Tryz.func128 (Nat.le_of_ble_eq_true (by kernel_rfl)) (by kernel_rfl) (F128_eq a0 w R ▸ h)
/-- impl.worldOf -/
def F64 (a0 : Value) (w : World) (R : Value → World → Prop) : Prop :=
  OP Tryz.prog (Instr.box 35 a0) w fun x1 w =>
  RD Tryz.prog (Instr.loadAt 35 x1) w fun x7 =>
  CALL Tryz.prog 125 [x7] w fun x8 w =>
  RD Tryz.prog (Op.unary .not x8) w fun x9 =>
  BR x9
   (R (Value.tuple #[(Value.pointer none), (Value.bool false)]) w)
   ((fun w => RD Tryz.prog (Instr.loadAt 35 x1) w fun x10 =>
   RD Tryz.prog (Instr.fieldAt 35 x1 4) w fun x11 =>
   RD Tryz.prog (Instr.loadAt 33 x11) w fun x12 =>
   RD Tryz.prog (Builtin.len_ #[33] 3 [x12].toArray) w fun x13 =>
   (fun w_ => OP Tryz.prog (Instr.makeSlice 72 x13 x13) w_ fun x14 w =>
   Ext w_ w ∧
   (RD Tryz.prog (Instr.build 144 #[(0, x10), (1, x14)]) w fun x15 =>
   OP Tryz.prog (Instr.box 144 x15) w fun x16 w =>
   RD Tryz.prog (Instr.fieldAt 35 x1 3) w fun x17 =>
   RD Tryz.prog (Instr.loadAt 23 x17) w fun x18 =>
   RD Tryz.prog (Builtin.len_ #[23] 3 [x18].toArray) w fun x19 =>
   LOOPI [20] [(Value.int .i64 0)] w fun u5 w next5 =>
    RD Tryz.prog (bin .lss 3 (.tmp 0) (.tmp 0) (u5 20) x19) w fun x21 =>
    BR x21
     (RD Tryz.prog (Instr.indexAt 23 x18 (u5 20)) w fun x22 =>
     RD Tryz.prog (Instr.loadAt 3 x22) w fun x23 =>
     NIL x16 <|
     RD Tryz.prog (Instr.fieldAt 144 x16 1) w fun x26 =>
     RD Tryz.prog (Instr.loadAt 72 x26) w fun x27 =>
     RD Tryz.prog (Instr.indexAt 72 x27 x23) w fun x29 =>
     OPU Tryz.prog (Instr.storeAt 4 x29 (Value.bool true)) w fun w =>
     NIL x16 <|
     RD Tryz.prog (Instr.fieldAt 144 x16 1) w fun x33 =>
     RD Tryz.prog (Instr.loadAt 72 x33) w fun x34 =>
     CALL Tryz.prog 126 [x16, x34, x23] w fun x36 w =>
     RD Tryz.prog (bin .add 3 (.tmp 0) (.const undef) (u5 20) (Value.int .i64 1)) w fun x37 =>
     next5 [x37] w)
     (CALL Tryz.prog 127 [x16] w fun x39 w =>
     CALL Tryz.prog 128 [x16] w fun x41 w =>
     R (Value.tuple #[x16, (Value.bool true)]) w))) w) (World.drew1 w))
def cfg64 : Cfg := { ext := extL, joins := [], loops := [(5, 274876858432, [20])], draws := [(3, [0, 1, 2, 3, 4, 5, 6, 7], 16)], pars := [] }
theorem F64_eq (a0 : Value) (w : World) (R : Value → World → Prop) : vcF Tryz.prog cfg64 Tryz.f64 [a0] w R = F64 a0 w R := by kernel_rfl
theorem F64_call {a0 : Value} {w : World} {R : Value → World → Prop} (h : F64 a0 w R) : CALL Tryz.prog 64 [a0] w R :=
  call_of (g := cfg64) ent mixed Tryz.func64 (Nat.le_of_ble_eq_true (by kernel_rfl)) (by kernel_rfl) (F64_eq a0 w R ▸ h)
set_option linter.unusedVariables false
set_option linter.unusedSimpArgs false
open Rep (rep)
theorem at_int {w : World} {g e o : Nat} {cs : List Value} {x : Int} (hB : Blk g e w cs) (ho : cs[o]? = some (.int .i64 x)) (hx : I64 x) : At w g o x := by
  refine ⟨[], [.int .i64 x], ⟨rfl, rfl, hx⟩, fun i u hi => ?_⟩
  have : i = 0 := by
    cases i with
    | zero => rfl
    | succ i => simp at hi
  subst this
  simp only [List.getElem?_cons_zero, Option.some.injEq] at hi
  subst hi
  have := hB.range o _ ho
  rw [Nat.zero_add] at this
  exact this
section
variable {W0 w w' : World} {b e m g6 g7 g8 : Nat} {c : DCode} {kc : List Value} {c6 c7 c8 : List Nat} {x9 x10 y9 y10 : Value}
theorem FC.cells (h : FC W0 w b e c kc m g6 g7 g8 c6 c7 c8 x9 x10) (hc : ChgI b (b + 1) w w') (hB : Blk b e w' (kc ++ [.slice (some ⟨m, 0, none⟩) c.ins.length c.ins.length, sl g6 c.procs.length, sl g7 c.procs.length, sl g8 c.procs.length, y9, y10])) : FC W0 w' b e c kc m g6 g7 g8 c6 c7 c8 y9 y10 :=
  ⟨h.wb.cells hc hB, mine_chg h.m6 hc.one (by simp [h.n6]), mine_chg h.m7 hc.one (by simp [h.n7]), mine_chg h.m8 hc.one (by simp [h.n8]), h.n6, h.n7, h.n8, h.d67, h.d68, h.d78⟩
/-- one of the last two cells -/
theorem FC.store9 {x : Nat} {K : World → Prop} (h : FC W0 w b e c kc m g6 g7 g8 c6 c7 c8 x9 x10) (k : ∀ w', FC W0 w' b e c kc m g6 g7 g8 c6 c7 c8 (.int .i64 (x : Int)) x10 → K w') : OPU Tryz.prog (Instr.storeAt 3 (.pointer (some ⟨b, 0 + 9, none⟩)) (.int .i64 (x : Int))) w K := by
  have hl : 9 < (kc ++ [Value.slice (some ⟨m, 0, none⟩) c.ins.length c.ins.length, sl g6 c.procs.length, sl g7 c.procs.length, sl g8 c.procs.length, x9, x10]).length := by rw [List.length_append, h.wb.k5]; simp
  refine opu_blkC (α := Raw) (lo := 0) (hi := 0) ty3 rfl rfl h.wb.blk hl (ownI_raw rfl) fun w2 hc2 hB2 => ?_
  have := h.wb.set 4 (.int .i64 (x : Int))
  rw [show 5 + 4 = 0 + 9 by omega] at this
  rw [this] at hB2
  exact k w2 (h.cells hc2 hB2)
theorem FC.store10 {x : Nat} {K : World → Prop} (h : FC W0 w b e c kc m g6 g7 g8 c6 c7 c8 x9 x10) (k : ∀ w', FC W0 w' b e c kc m g6 g7 g8 c6 c7 c8 x9 (.int .i64 (x : Int)) → K w') : OPU Tryz.prog (Instr.storeAt 3 (.pointer (some ⟨b, 0 + 10, none⟩)) (.int .i64 (x : Int))) w K := by
  have hl : 10 < (kc ++ [Value.slice (some ⟨m, 0, none⟩) c.ins.length c.ins.length, sl g6 c.procs.length, sl g7 c.procs.length, sl g8 c.procs.length, x9, x10]).length := by rw [List.length_append, h.wb.k5]; simp
  refine opu_blkC (α := Raw) (lo := 0) (hi := 0) ty3 rfl rfl h.wb.blk hl (ownI_raw rfl) fun w2 hc2 hB2 => ?_
  have := h.wb.set 5 (.int .i64 (x : Int))
  rw [show 5 + 5 = 0 + 10 by omega] at this
  rw [this] at hB2
  exact k w2 (h.cells hc2 hB2)
end
theorem mainProc_ok {w : World} {b : Nat} {c : DCode} (hA : At w b 0 c) (hc : CodeR c) :
    CALL Tryz.prog 196 [.pointer (some ⟨b, 0, none⟩)] w fun r w' => Ext w w' ∧ r = .int .i64 (mainN c : Nat) := by
  refine F196_call ?_
  unfold F196
  refine NIL.mk rfl ?_
  refine rd_fld fd144_0 ?_
  refine rd_fld fd35_2 ?_
  refine rd_load ty22 (at_DCode_2 hA) (Ext.refl _) fun v15 h15 => ?_
  refine (indexStr_ok h15 (Ext.refl _)).mono ?_
  rintro _ w2 ⟨hx2, rfl⟩
  have := (main_lt' hc).1
  unfold mainS at this
  rw [this]
  exact ⟨hx2, rfl⟩
/-- the roots, while they are found -/
structure RM (c : DCode) (r : Nat) : Prop where
  lt : r < 2 ^ c.procs.length
  self : r.testBit (mainN c) = true
  snd : ∀ q, r.testBit q = true → RootP c q
noncomputable def usR (c : DCode) (r : Nat) : Nat := orL (frs c) (bitsL r)
theorem frs_bit {c : DCode} {q r : Nat} (hq : q < c.procs.length) : (nat0 (frs c) q).testBit r = true ↔ r < c.procs.length ∧ FromP c q r := by rw [frs_at hq, setN_bit]
theorem usR_bit {c : DCode} (h8 : c.procs.length ≤ 8) {r p : Nat} (h : RM c r) : (usR c r).testBit p = true ↔ ∃ q, q < c.procs.length ∧ r.testBit q = true ∧ p < c.procs.length ∧ FromP c q p := by
  unfold usR
  rw [orL_mask h.lt (by omega)]
  exact ⟨fun ⟨i, h1, h2, h3⟩ => ⟨i, h1, h2, (frs_bit h1).1 h3⟩, fun ⟨i, h1, h2, h3⟩ => ⟨i, h1, h2, (frs_bit h1).2 h3⟩⟩
theorem usR_lt {c : DCode} (h8 : c.procs.length ≤ 8) {r : Nat} (h : RM c r) : usR c r < 2 ^ c.procs.length := mask_lt fun p hp => by
  obtain ⟨_, _, _, h3, _⟩ := (usR_bit h8 h).1 hp; exact h3
theorem RM.start {c : DCode} (hc : CodeR c) : RM c (2 ^ mainN c) := ⟨Nat.pow_lt_pow_right (by omega) (main_lt' hc).2, by simp [Nat.testBit_two_pow], fun q hq => by simp [Nat.testBit_two_pow] at hq; exact hq ▸ .main⟩
theorem RM.more_bit {c : DCode} (h8 : c.procs.length ≤ 8) {r q : Nat} (h : RM c r) : (orL (cls c 5) (bitsL (usR c r))).testBit q = true ↔ ∃ p, p < c.procs.length ∧ (usR c r).testBit p = true ∧ q < c.procs.length ∧ OpsP c p 5 q := by
  rw [orL_mask (usR_lt h8 h) (by omega)]
  exact ⟨fun ⟨i, h1, h2, h3⟩ => ⟨i, h1, h2, (cls_bit h1).1 h3⟩, fun ⟨i, h1, h2, h3⟩ => ⟨i, h1, h2, (cls_bit h1).2 h3⟩⟩
theorem RM.more {c : DCode} (h8 : c.procs.length ≤ 8) {r : Nat} (h : RM c r) : RM c (r ||| orL (cls c 5) (bitsL (usR c r))) := by
  refine ⟨Nat.or_lt_two_pow h.lt (mask_lt fun q hq => by obtain ⟨_, _, _, h3, _⟩ := (h.more_bit h8).1 hq; exact h3), by rw [Nat.testBit_or, h.self]; rfl, fun q hq => ?_⟩
  rw [Nat.testBit_or, Bool.or_eq_true] at hq
  rcases hq with hq | hq
  · exact h.snd q hq
  · obtain ⟨p, h1, h2, h3, h4⟩ := (h.more_bit h8).1 hq
    obtain ⟨s, h5, h6, _, h7⟩ := (usR_bit h8 h).1 h2
    exact .spawn (h.snd s h6) h7 h4 h3
theorem RM.fin {c : DCode} (hc : CodeR c) (h8 : c.procs.length ≤ 8) {r : Nat} (h : RM c r) (he : r ||| orL (cls c 5) (bitsL (usR c r)) = r) : r = rootsN c ∧ usR c r = usedN c := by
  have hall : ∀ q, RootP c q → r.testBit q = true := fun q hq => by
    induction hq with
    | main => exact h.self
    | @spawn s p q h0 h1 h2 hq ih =>
      have hs := h0.lt hc
      rw [← he, Nat.testBit_or, (h.more_bit h8).2 ⟨p, h1.lt hs, (usR_bit h8 h).2 ⟨s, hs, ih, h1.lt hs, h1⟩, hq, h2⟩]
      simp
  refine ⟨eq_setN fun q => ⟨fun hq => ⟨(h.snd q hq).lt hc, h.snd q hq⟩, fun hq => hall q hq.2⟩, eq_setN fun p => ?_⟩
  rw [usR_bit h8 h]
  constructor
  · rintro ⟨q, h1, h2, h3, h4⟩
    exact ⟨h3, q, h.snd q h2, h4⟩
  · rintro ⟨h3, q, h1, h2⟩
    exact ⟨q, h1.lt hc, hall q h1, h3, h2⟩
theorem findRoots_ok {w W0 : World} {b e m g6 g7 g8 : Nat} {c : DCode} {kc : List Value} {x9 x10 : Value} (H : FC W0 w b e c kc m g6 g7 g8 (cls c 4) (cls c 5) (frs c) x9 x10) (hc : CodeR c) :
    CALL Tryz.prog 128 [.pointer (some ⟨b, 0, none⟩)] w fun r w' => r = .tuple #[] ∧ FC W0 w' b e c kc m g6 g7 g8 (cls c 4) (cls c 5) (frs c) (.int .i64 (rootsN c : Nat)) (.int .i64 (usedN c : Nat)) := by
  refine F128_call ?_
  unfold F128
  have h8 := hc.1.procs8
  have hml := (main_lt' hc).2
  refine (mainProc_ok H.wb.code_at hc).mono ?_
  rintro _ w1 ⟨hx1, rfl⟩
  have H1 := H.step hx1
  refine rd_uint (by kernel_rfl) u77 (by omega) ?_
  refine rd_shl1 (by omega) ?_
  have hR := RM.start hc
  have h8' : 2 ^ c.procs.length ≤ 256 := Nat.pow_le_pow_right (n := 2) (by omega) h8.1
  refine LOOPI.mk (fun mm us w' => ∃ (s : Nat) (ag : Bool) (y : Value), us = [.int .i64 (s : Int), .bool ag] ∧ mm = (256 - s) + (if ag then 1 else 0) ∧ FC W0 w' b e c kc m g6 g7 g8 (cls c 4) (cls c 5) (frs c) x9 y ∧ RM c s ∧ (ag = false → s = rootsN c ∧ y = .int .i64 (usedN c : Nat))) (256 - 2 ^ mainN c + 1) ⟨2 ^ mainN c, true, x10, rfl, rfl, H1, hR, fun e => by cases e⟩ ?_
  rintro mm u2 w2 ⟨s, ag, y, hu, hm, H2, hR2, hend⟩
  simp only [List.map_cons, List.map_nil, List.cons.injEq, and_true] at hu
  obtain ⟨hu1, hu2⟩ := hu
  rw [hu1, hu2]
  have hs256 : s < 256 := Nat.lt_of_lt_of_le hR2.lt h8'
  refine br_b (fun hag => ?_) (fun hag => ?_)
  · rw [hag, if_pos rfl] at hm
    refine NIL.mk rfl ?_
    refine rd_fld fd144_4 ?_
    refine rd_blkV ty23 H2.wb.blk (H2.wb.cell 3) ?_
    refine (unionOf_ok H2.m8.is (Ext.refl _) (frs256 h8.1) (by rw [frs_len]; exact h8.1) (m := s) (by rw [frs_len]; exact hR2.lt)).mono ?_
    rintro _ w3 ⟨hx3, rfl⟩
    have H3 := H2.step hx3
    have hul := usR_lt h8.1 hR2
    have hu256 : usR c s < 256 := Nat.lt_of_lt_of_le hul h8'
    have hue : orL (frs c) (bitsL s) = usR c s := rfl
    rw [hue]
    refine NIL.mk rfl ?_
    refine rd_fld fd144_6 ?_
    refine H3.store10 fun w4 H4 => ?_
    have hxd := ext_drew w4
    have H5 := H4.step hxd
    generalize World.drew1 w4 = w5 at *
    refine NIL.mk rfl ?_
    refine rd_fld fd144_3 ?_
    refine rd_blkV ty23 H5.wb.blk (H5.wb.cell 2) ?_
    refine NIL.mk rfl ?_
    refine rd_fld fd144_6 ?_
    refine rd_blkV ty3 H5.wb.blk (H5.wb.cell 5) ?_
    refine (unionOf_ok H5.m7.is (Ext.refl _) (cls256 h8.1 5) (by rw [cls_len]; exact h8.1) (m := usR c s) (by rw [cls_len]; exact hul)).mono ?_
    rintro _ w6 ⟨hx6, rfl⟩
    have H6 := H5.step hx6
    have hor := orL_lt (cls256 h8.1 5) (bitsL (usR c s))
    have hR6 := hR2.more h8.1
    have hfin := hR2.fin hc h8.1
    have hgt := fun h => or_gt (m := orL (cls c 5) (bitsL (usR c s))) (n := s) h
    refine ⟨hx6, ?_⟩
    refine rd_or (m := s) (n := orL (cls c 5) (bitsL (usR c s))) (by omega) (by omega) ?_
    have hor2 : s ||| orL (cls c 5) (bitsL (usR c s)) < 256 := Nat.or_lt_two_pow (n := 8) hs256 hor
    generalize s ||| orL (cls c 5) (bitsL (usR c s)) = t at *
    refine rd_neq ?_
    by_cases hts : t = s
    · refine ⟨256 - t, by omega, t, _, _, rfl, ?_, H6, hR6, fun _ => ?_⟩
      · rw [hts]; simp
      · rw [(hfin hts).2]
        exact ⟨by rw [hts]; exact (hfin hts).1, rfl⟩
    · have hd : decide ((t : Int) ≠ (s : Int)) = true := decide_eq_true fun h => hts (Int.ofNat_inj.1 h)
      have := hgt hts
      rw [hd]
      exact ⟨256 - t + 1, by omega, t, true, _, rfl, rfl, H6, hR6, fun e => by cases e⟩
  · obtain ⟨hse, hye⟩ := hend hag
    rw [hye] at H2
    refine NIL.mk rfl ?_
    refine rd_fld fd144_5 ?_
    refine H2.store9 fun w3 H3 => ?_
    rw [hse] at H3
    exact ⟨rfl, H3⟩
theorem FC.wat {W0 w : World} {b e m g6 g7 g8 : Nat} {c : DCode} {kc : List Value} (H : FC W0 w b e c kc m g6 g7 g8 (cls c 4) (cls c 5) (frs c) (.int .i64 (rootsN c : Nat)) (.int .i64 (usedN c : Nat))) (h8 : c.procs.length ≤ 8) : WAt w b c := by
  have h1 : rootsN c < 256 := setN_small h8
  have h2 : usedN c < 256 := setN_small h8
  exact ⟨H.wb.wl, at_of_blk H.wb.blk (H.wb.cell 1) H.m6.is, at_of_blk H.wb.blk (H.wb.cell 2) H.m7.is, at_of_blk H.wb.blk (H.wb.cell 3) H.m8.is, at_int H.wb.blk (H.wb.cell 4) (by unfold I64; omega), at_int H.wb.blk (H.wb.cell 5) (by unfold I64; omega)⟩
theorem worldOf_ok {w W0 : World} {v0 : Value} {c : DCode} (h0 : Is W0 v0 c) (e0 : Ext W0 w) :
    CALL Tryz.prog 64 [v0] w fun r w' => Ext w w' ∧ ((¬ CodeR c ∧ r = .tuple #[.pointer none, .bool false]) ∨ (CodeR c ∧ ∃ b, r = .tuple #[.pointer (some ⟨b, 0, none⟩), .bool true] ∧ WAt w' b c)) := by
  refine F64_call ?_
  unfold F64
  refine op_box h0 e0 fun w1 hx1 hA => ?_
  refine rd_load ty35 hA (Ext.refl _) fun v7 h7 => ?_
  refine (implCodeOk_ok h7 (Ext.refl _)).mono ?_
  rintro _ w2 ⟨hx2, rfl⟩
  refine rd_nodec ?_
  refine br (fun hn => ?_) (fun hy => ?_)
  · exact ⟨hx1.trans hx2, .inl ⟨hn, rfl⟩⟩
  have hc : CodeR c := Decidable.not_not.1 hy
  have h8 := hc.1.procs8
  have hil := hc.f.ins
  have hz0 := (zN_end hc h8.2).2.2
  have hxd := ext_drew w2
  have hx3 := hx2.trans hxd
  generalize World.drew1 w2 = w3 at *
  refine rd_load ty35 hA hx3 fun v10 h10 => ?_
  refine rd_fld fd35_4 ?_
  refine rd_load ty33 (at_DCode_4 hA) hx3 fun v12 h12 => ?_
  refine rd_len u33 h12 ?_
  refine op_makeB (by omega) (by omega) fun w4 hx4 hM4 => ?_
  have hs4 := hx4.size
  have hm4 := hM4.lt _ (List.mem_singleton.2 rfl)
  generalize hm : w3.heap.size = m at *
  have h10' := h10.ext hx3
  have hcells := code_cells h10'
  obtain ⟨F, kc, hr, hkc⟩ := h10'
  obtain ⟨a0, a1, a2, a3, a4, n0, n1, n2, n3, n4, k0, k1, k2, k3, k4, hcv⟩ := hcells
  have hkce : kc = [.slice a0 n0 k0, .slice a1 n1 k1, .slice a2 n2 k2, .slice a3 n3 k3, .slice a4 n4 k4] := by
    rw [hkc] at hcv
    have : (Value.agg kc.toArray) = .agg #[.slice a0 n0 k0, .slice a1 n1 k1, .slice a2 n2 k2, .slice a3 n3 k3, .slice a4 n4 k4] := hcv
    simpa using this
  rw [hcv]
  refine ⟨hx4, ?_⟩
  refine rd_build (cells := #[.slice a0 n0 k0, .slice a1 n1 k1, .slice a2 n2 k2, .slice a3 n3 k3, .slice a4 n4 k4, sl m c.ins.length, .slice none 0 0, .slice none 0 0, .slice none 0 0, .int .i64 0, .int .i64 0]) (by kernel_rfl) ?_
  refine op_boxB fun w5 hx5 hB5 => ?_
  have hB5' : Blk w4.heap.size 144 w5 (kc ++ [sl m c.ins.length, .slice none 0 0, .slice none 0 0, .slice none 0 0, .int .i64 0, .int .i64 0]) := by rw [hkce]; exact hB5
  have hk5 : kc.length = 5 := Rep.len hr
  clear hB5 hcv hkc
  have hM5 := hM4.ext hx5
  have hx35 : Ext w3 w5 := hx4.trans hx5
  generalize hb : w4.heap.size = b at *
  refine rd_fld fd35_3 ?_
  refine rd_load ty23 (at_DCode_3 hA) (hx3.trans hx35) fun v18 h18 => ?_
  have h18 := h18.ext hx3
  refine rd_len u23 h18 ?_
  have hel : c.entry.length = c.procs.length := hc.2.1.1
  rw [hel]
  have hrep0 : List.replicate c.ins.length false = setB c.ins.length (fun i => ∃ p, p < 0 ∧ LiveP c p i) := replicate_setB _ fun i ⟨p, h, _⟩ => by omega
  rw [hrep0] at hM5
  have hcell0 : ∀ {x1 x2 x3 x4 x5 : Value}, (kc ++ [sl m c.ins.length, x1, x2, x3, x4, x5])[0 + 5]? = some (sl m c.ins.length) := by intros; rw [List.getElem?_append_right (by rw [hk5]; omega), hk5]; rfl
  refine loopC c.procs.length (fun k us w' => us = [.int .i64 (k : Int)] ∧ k ≤ c.procs.length ∧ Ext w3 w' ∧ Blk b 144 w' (kc ++ [sl m c.ins.length, .slice none 0 0, .slice none 0 0, .slice none 0 0, .int .i64 0, .int .i64 0]) ∧ Mine [m] w' (sl m c.ins.length) (setB c.ins.length fun i => ∃ p, p < k ∧ LiveP c p i)) 0 (Nat.zero_le _) ⟨rfl, Nat.zero_le _, hx35, hB5', hM5⟩ ?_
  rintro k mk u w6 hkm ⟨hu, hkl, hx6, hB6, hM6⟩
  simp only [List.map_cons, List.map_nil, List.cons.injEq, and_true] at hu
  rw [hu]
  refine rd_lss ?_
  refine br (fun hlt => ?_) (fun hge => ?_)
  · have hk : k < c.procs.length := by omega
    have hke : k < c.entry.length := by omega
    obtain ⟨he1, he2, he3⟩ := eN_eq hc hke
    refine rd_indexN u23 ty3 (i := k) h18 hke fun b5 o5 hA5 => ?_
    rw [en_get hke, he1] at hA5
    refine rd_loadI ty3 hA5 hx6 fun _ => ?_
    refine NIL.mk rfl ?_
    refine rd_fld fd144_1 ?_
    refine rd_blkV ty72 hB6 hcell0 ?_
    refine rd_elt (α := Bool) rfl u72 ty4 he2 ?_
    refine opu_elt (α := Bool) rfl ty4 hM6 setB_len he2 mine_boolT fun w7 hc7 hm7 => ?_
    have hB7 := hB6.chgF hc7 (by simp; omega)
    have hx7 : Ext w3 w7 := hx6.chgF hc7 (by simp [hm])
    have hmk7 : ∀ i, mkd ((setB c.ins.length fun i => ∃ p, p < k ∧ LiveP c p i).set (eN c k) true) i ↔ (i < c.ins.length ∧ ∃ p, p < k ∧ LiveP c p i) ∨ i = eN c k := fun i => by
      rw [mkd_set (by rw [setB_len]; exact he2), mkd_setB]
    have hl7 : ((setB c.ins.length fun i => ∃ p, p < k ∧ LiveP c p i).set (eN c k) true).length = c.ins.length := by rw [List.length_set, setB_len]
    generalize (setB c.ins.length fun i => ∃ p, p < k ∧ LiveP c p i).set (eN c k) true = ms7 at *
    refine NIL.mk rfl ?_
    refine rd_fld fd144_1 ?_
    refine rd_blkV ty72 hB7 hcell0 ?_
    have hK7 : KAt w3 w7 b c := ⟨F, kc, hr, blk_left hB7, hB7.lt⟩
    refine (spread_ok hK7 hx7 hc rfl he2 hm7 hl7 (by omega) (by omega) ?_).mono ?_
    · intro i hi hne j hj
      rcases (hmk7 i).1 hi with ⟨h1, p, h2, h3⟩ | h
      · have hil := nextN_lt hc h1 hj
        exact (hmk7 j).2 (.inl ⟨hil.1, p, h2, live_next h3 hj⟩)
      · exact absurd h hne
    rintro _ w8 ⟨rfl, hc8, hM8⟩
    have hset : (setB c.ins.length fun i => mkd ms7 i ∨ RP (nextN c) (eN c k) i) = setB c.ins.length fun i => ∃ p, p < k + 1 ∧ LiveP c p i := setB_congr fun i hi => by
      rw [hmk7]
      constructor
      · rintro ((⟨_, p, h2, h3⟩ | h) | h)
        · exact ⟨p, by omega, h3⟩
        · exact ⟨k, by omega, .inl h⟩
        · exact ⟨k, by omega, .inr h⟩
      · rintro ⟨p, h2, h3⟩
        by_cases e : p = k
        · subst e
          rcases h3 with h3 | h3
          · exact .inl (.inr h3)
          · exact .inr h3
        · exact .inl (.inl ⟨hi, p, by omega, h3⟩)
    rw [hset] at hM8
    refine rd_inc (by omega) ?_
    exact ⟨mk - 1, by omega, k + 1, by omega, rfl, by omega, hx7.chgI hc8 (by omega), hB7.chgI hc8 (by omega), hM8⟩
  have hke : k = c.procs.length := by omega
  have hal : (setB c.ins.length fun i => ∃ p, p < k ∧ LiveP c p i) = setB c.ins.length (AllLive c) := by rw [hke]; rfl
  rw [hal] at hM6
  have HW : WB w3 w6 b 144 c kc m (.slice none 0 0) (.slice none 0 0) (.slice none 0 0) (.int .i64 0) (.int .i64 0) := ⟨hx6, hB6, ⟨F, hr⟩, hM6, by omega, by omega, by omega⟩
  refine (findCalls_ok HW hc).mono ?_
  rintro _ w7 ⟨rfl, g6, g7, g8, H7⟩
  refine (findRoots_ok H7 hc).mono ?_
  rintro _ w8 ⟨rfl, H8⟩
  exact ⟨hx1.trans (hx3.trans H8.wb.ext), .inr ⟨hc, b, rfl, H8.wat h8.1⟩⟩
end Go.Proofs.YtjgfldfbljmhhaaGreat
namespace Go.Proofs.YtjgfldfbljmhhaaGreat
open Go.Shelf
def Tryz.sortOrder_ren : Go.Shelf.Ren := ⟨fun | 6 => 143 | 15 => 209 | 14 => 208 | 28 => 256 | 29 => 257 | 20 => 248 | 21 => 249 | 22 => 250 | 23 => 251 | 24 => 252 | 25 => 253 | 26 => 254 | 27 => 255 | 46 => 289 | 47 => 290 | 48 => 291 | 49 => 292 | 50 => 293 | 57 => 314 | n => n, fun | 22 => 48 | 24 => 93 | 25 => 158 | 3 => 3 | 39 => 77 | 0 => 0 | 53 => 238 | 55 => 168 | 4 => 4 | 46 => 231 | 45 => 230 | 50 => 235 | 5 => 5 | 9 => 9 | 66 => 255 | 70 => 259 | 76 => 271 | 77 => 272 | n => n, fun | n => n⟩
theorem Tryz.sortOrder : SlLaysF0.n6 Tryz.prog Tryz.sortOrder_ren := {
  mixed := by kernel_rfl,
  f6 := ⟨Tryz.f143.name, by kernel_rfl, Tryz.func143.trans (congrArg some (by kernel_rfl))⟩,
  f14 := ⟨Tryz.f208.name, by kernel_rfl, Tryz.func208.trans (congrArg some (by kernel_rfl))⟩,
  f15 := Tryz.func209.trans (congrArg some (by kernel_rfl)),
  f20 := ⟨Tryz.f248.name, by kernel_rfl, Tryz.func248.trans (congrArg some (by kernel_rfl))⟩,
  f21 := ⟨Tryz.f249.name, by kernel_rfl, Tryz.func249.trans (congrArg some (by kernel_rfl))⟩,
  f22 := ⟨Tryz.f250.name, by kernel_rfl, Tryz.func250.trans (congrArg some (by kernel_rfl))⟩,
  f23 := ⟨Tryz.f251.name, by kernel_rfl, Tryz.func251.trans (congrArg some (by kernel_rfl))⟩,
  f24 := ⟨Tryz.f252.name, by kernel_rfl, Tryz.func252.trans (congrArg some (by kernel_rfl))⟩,
  f25 := ⟨Tryz.f253.name, by kernel_rfl, Tryz.func253.trans (congrArg some (by kernel_rfl))⟩,
  f26 := ⟨Tryz.f254.name, by kernel_rfl, Tryz.func254.trans (congrArg some (by kernel_rfl))⟩,
  f27 := ⟨Tryz.f255.name, by kernel_rfl, Tryz.func255.trans (congrArg some (by kernel_rfl))⟩,
  f28 := Tryz.func256.trans (congrArg some (by kernel_rfl)),
  f29 := Tryz.func257.trans (congrArg some (by kernel_rfl)),
  f46 := ⟨Tryz.f289.name, by kernel_rfl, Tryz.func289.trans (congrArg some (by kernel_rfl))⟩,
  f47 := Tryz.func290.trans (congrArg some (by kernel_rfl)),
  f48 := Tryz.func291.trans (congrArg some (by kernel_rfl)),
  f49 := ⟨Tryz.f292.name, by kernel_rfl, Tryz.func292.trans (congrArg some (by kernel_rfl))⟩,
  f50 := ⟨Tryz.f293.name, by kernel_rfl, Tryz.func293.trans (congrArg some (by kernel_rfl))⟩,
  f57 := ⟨Tryz.f314.name, by kernel_rfl, Tryz.func314.trans (congrArg some (by kernel_rfl))⟩,
  t0 := Tryz.underlying0,
  a0 := Tryz.isAgg0,
  z0 := Tryz.sizeOf0,
  v0 := Tryz.zeroValue0,
  t3 := Tryz.underlying3,
  a3 := Tryz.isAgg3,
  z3 := Tryz.sizeOf3,
  v3 := Tryz.zeroValue3,
  t4 := Tryz.underlying4,
  a4 := Tryz.isAgg4,
  z4 := Tryz.sizeOf4,
  v4 := Tryz.zeroValue4,
  t5 := Tryz.underlying5,
  a5 := Tryz.isAgg5,
  z5 := Tryz.sizeOf5,
  v5 := Tryz.zeroValue5,
  t9 := Tryz.underlying9,
  a9 := Tryz.isAgg9,
  z9 := Tryz.sizeOf9,
  v9 := Tryz.zeroValue9,
  t22 := Tryz.underlying48,
  a22 := Tryz.isAgg48,
  z22 := Tryz.sizeOf48,
  v22 := Tryz.zeroValue48,
  t25 := Tryz.underlying158,
  a25 := Tryz.isAgg158,
  z25 := Tryz.sizeOf158,
  v25 := Tryz.zeroValue158,
  t39 := Tryz.underlying77,
  a39 := Tryz.isAgg77,
  z39 := Tryz.sizeOf77,
  v39 := Tryz.zeroValue77,
  t45 := Tryz.underlying230,
  a45 := Tryz.isAgg230,
  z45 := Tryz.sizeOf230,
  v45 := Tryz.zeroValue230,
  t46 := Tryz.underlying231,
  a46 := Tryz.isAgg231,
  z46 := Tryz.sizeOf231,
  v46 := Tryz.zeroValue231,
  t50 := Tryz.underlying235,
  a50 := Tryz.isAgg235,
  z50 := Tryz.sizeOf235,
  v50 := Tryz.zeroValue235,
  t53 := Tryz.underlying238,
  a53 := Tryz.isAgg238,
  z53 := Tryz.sizeOf238,
  v53 := Tryz.zeroValue238,
  t55 := Tryz.underlying168,
  a55 := Tryz.isAgg168,
  z55 := Tryz.sizeOf168,
  v55 := Tryz.zeroValue168,
  t66 := Tryz.underlying255,
  a66 := Tryz.isAgg255,
  z66 := Tryz.sizeOf255,
  v66 := Tryz.zeroValue255,
  t70 := Tryz.underlying259,
  a70 := Tryz.isAgg259,
  z70 := Tryz.sizeOf259,
  v70 := Tryz.zeroValue259,
  t76 := Tryz.underlying271,
  a76 := Tryz.isAgg271,
  z76 := Tryz.sizeOf271,
  v76 := Tryz.zeroValue271,
  t77 := Tryz.underlying272,
  a77 := Tryz.isAgg272,
  z77 := Tryz.sizeOf272,
  v77 := Tryz.zeroValue272 }
end Go.Proofs.YtjgfldfbljmhhaaGreat
namespace Go.Sh
set_option linter.unusedVariables false
set_option linter.unusedSimpArgs false
set_option linter.unusedSectionVars false
open Rep (rep)
open Go.Sort Go.Proofs
section
variable {α : Type} [Inhabited α] {enc : α → List Value} {k : Nat}
theorem flat_len (hk : ∀ x, (enc x).length = k) : ∀ (l : List α), (l.flatMap enc).length = l.length * k
  | [] => by simp
  | x :: l => by rw [List.flatMap_cons, List.length_append, hk, flat_len hk l, List.length_cons, Nat.add_mul]; omega
theorem flat_get (hk : ∀ x, (enc x).length = k) (h0 : 0 < k) : ∀ {l : List α} {t : Nat}, t < l.length * k → (l.flatMap enc)[t]? = some ((enc l[t / k]!)[t % k]!)
  | [], t, h => by simp at h
  | x :: l, t, h => by
    rw [List.flatMap_cons]
    rcases Nat.lt_or_ge t k with ht | ht
    · rw [List.getElem?_append_left (by rw [hk]; exact ht), Nat.div_eq_of_lt ht, Nat.mod_eq_of_lt ht]
      have : t < (enc x).length := by rw [hk]; exact ht
      rw [List.getElem?_eq_getElem this]
      simp [this]
    · rw [List.getElem?_append_right (by rw [hk]; exact ht), hk]
      have h' : t - k < l.length * k := by rw [List.length_cons, Nat.add_mul] at h; omega
      rw [flat_get hk h0 h']
      have e1 : t / k = (t - k) / k + 1 := by
        have : t = (t - k) + k := by omega
        conv => lhs; rw [this]
        rw [Nat.add_div_right _ h0]
      have e2 : t % k = (t - k) % k := by
        have : t = (t - k) + k := by omega
        conv => lhs; rw [this]
        rw [Nat.add_mod_right]
      rw [e1, e2]
      simp
theorem flatK_get (hk : ∀ x, (enc x).length = k) (h0 : 0 < k) {l : List α} {t : Nat} (h : t < l.length * k) : (l.flatMap enc)[t]? = some (flatK enc k l.toArray)[t]! := by
  rw [flat_get hk h0 h, get_flatK enc k l.toArray t (by simpa using h)]
  simp
end
section
variable {α : Type} [Rep α] [Flat α] [Inhabited α] {w : World} {enc : α → List Value} {b o n cap : Nat} {l : List α}
theorem cells_enc (henc : ∀ {F w cs} {x : α}, rep F w cs x → cs = enc x) : ∀ {l : List α} {F : List Nat} {xs : List Value}, Cells F w xs l → xs = l.flatMap enc
  | [], _, _, ⟨_, h⟩ => by simp [h]
  | y :: ys, _, _, ⟨F1, F2, c1, c2, _, h, h1, h2⟩ => by rw [h, henc h1, cells_enc henc h2, List.flatMap_cons]
theorem enc_cells {w' : World} (henc : ∀ {F w cs} {x : α}, rep F w cs x → cs = enc x) : ∀ {l : List α}, (∀ x ∈ l, ∃ F cs, rep F w cs x) → Cells [] w' (l.flatMap enc) l
  | [], _ => ⟨rfl, rfl⟩
  | y :: ys, h => by
    obtain ⟨F, cs, hr⟩ := h y (by simp)
    have hF := Flat.flat hr
    subst hF
    have hc := henc hr
    subst hc
    exact ⟨[], [], enc y, ys.flatMap enc, rfl, rfl, Rep.keep hr (by simp), enc_cells henc fun x hx => h x (by simp [hx])⟩
theorem cells_mem : ∀ {l : List α} {F : List Nat} {xs : List Value}, Cells F w xs l → ∀ x ∈ l, ∃ F cs, rep F w cs x
  | y :: ys, _, _, ⟨F1, F2, c1, c2, _, h, h1, h2⟩, x, hx => by
    rcases List.mem_cons.1 hx with rfl | hx
    · exact ⟨_, _, h1⟩
    · exact cells_mem h2 x hx
/-- what the sort asks of the row -/
theorem holdsK_of (henc : ∀ {F w cs} {x : α}, rep F w cs x → cs = enc x) (hk : ∀ x, (enc x).length = Rep.size α) (hw : ∃ c e, w.heap[b]? = some (.cells c e (0, 0))) {xs : List Value} (hc : Cells [] w xs l) (hr : w.rangeAt b o xs) : HoldsK enc (Rep.size α) w b o l.toArray := by
  intro j hj
  rw [size_flatK] at hj
  have hj' : j < l.length * Rep.size α := by simpa using hj
  have := cells_enc henc hc
  subst this
  have h1 := hr j _ (flatK_get hk Rep.pos hj')
  refine ⟨h1, ?_⟩
  obtain ⟨c, e, he⟩ := hw
  simp [World.frozen?, he]
/-- what is left of it -/
theorem sorted_mine (henc : ∀ {F w cs} {x : α}, rep F w cs x → cs = enc x) (hk : ∀ x, (enc x).length = Rep.size α) {d' : Array α} {m : Nat} {os : Array Obj} {w3 : World} (hw3 : w3 = sortWorldK enc (Rep.size α) w b o m d' os) (hw : ∃ c e, w.heap[b]? = some (.cells c e (0, 0))) {xs : List Value} (hc : Cells [] w xs l) (hr : w.rangeAt b o xs)
    (h1 : l.length ≤ cap) (h2 : cap ≤ maxLen) (hl : d'.size = l.length) (hp : ∀ x ∈ d'.toList, x ∈ l) : Chg [b] w w3 ∧ Mine [b] w3 (.slice (some ⟨b, o, none⟩) l.length cap) d'.toList := by
  subst hw3
  have hH := holdsK_of henc hk hw hc hr
  obtain ⟨c, e, he⟩ := hw
  have hb : b < w.heap.size := (Array.getElem?_eq_some_iff.1 he).1
  have hsz : (putRowK enc (Rep.size α) (Sort.ahead w m) b o d').heap.size = w.heap.size := by simp [putRowK, putRow, mapBlock, Sort.ahead]
  have hblk : ∀ i, i < w.heap.size → i ≠ b → (sortWorldK enc (Rep.size α) w b o m d' os).heap[i]? = w.heap[i]? := fun i hi hne => by
    unfold sortWorldK
    rw [heap_grow_old _ _ (by rw [hsz]; exact hi)]
    simp [putRowK, putRow, mapBlock, Sort.ahead, Array.getElem?_modify, hne.symm]
  have hbb : ∃ c', (sortWorldK enc (Rep.size α) w b o m d' os).heap[b]? = some (.cells c' e (0, 0)) := by
    unfold sortWorldK
    rw [heap_grow_old _ _ (by rw [hsz]; exact hb)]
    exact ⟨_, by simp [putRowK, putRow, mapBlock, Sort.ahead, Array.getElem?_modify, he, onCells]; rfl⟩
  have hsz2 : w.heap.size ≤ (sortWorldK enc (Rep.size α) w b o m d' os).heap.size := by
    unfold sortWorldK grow
    rw [Array.size_append, hsz]; omega
  refine ⟨⟨rfl, rfl, rfl, hsz2, fun i hi hm => hblk i hi fun e => hm (by simp [e])⟩, ⟨⟨_, ⟨some ⟨b, o, none⟩, cap, [], d'.toList.flatMap enc, rfl, by simpa [hl] using h1, h2, ?_, .inr ⟨b, o, rfl, rfl, ?_, by omega⟩⟩, by simp [mkv, Rep.agg, hl]⟩, by simp, fun i hi => ?_⟩⟩
  · exact enc_cells (w := w) henc fun x hx => cells_mem hc x (hp x hx)
  · intro j v hv
    have hj : j < d'.toList.length * Rep.size α := by
      have := (List.getElem?_eq_some_iff.1 hv).1
      rwa [flat_len hk] at this
    rw [flatK_get hk Rep.pos hj, Option.some.injEq] at hv
    have hj2 : j < (flatK enc (Rep.size α) d').size := by rw [size_flatK]; simpa using hj
    have := cell?_putRow id (Sort.ahead w m) b o (flatK enc (Rep.size α) l.toArray) (flatK enc (Rep.size α) d') hH (by simp [hl]) j hj2
    unfold sortWorldK
    rw [cell?_grow _ _ _ (by rw [hsz]; exact hb)]
    show (putRow id (Sort.ahead w m) b o (flatK enc (Rep.size α) d')).cell? _ = _
    rw [this, ← hv]
    simp
  · simp only [List.mem_cons, List.not_mem_nil, or_false] at hi
    subst hi
    obtain ⟨c', hc'⟩ := hbb
    exact ⟨c', e, hc'⟩
end
end Go.Sh
namespace Go.Proofs.YtjgfldfbljmhhaaGreat
open Go Go.Sh Go.Proofs
set_option linter.unusedVariables false
/-- cmp.isNaN[int] -/
def F258 (a0 : Value) (w : World) (R : Value → World → Prop) : Prop :=
  RD Tryz.prog (bin .neq 3 (.tmp 0) (.tmp 0) a0 a0) w fun x5 =>
  R x5 w
def cfg258 : Cfg := { ext := extL, joins := [], loops := [], draws := [], pars := [] }
theorem F258_eq (a0 : Value) (w : World) (R : Value → World → Prop) : vcF Tryz.prog cfg258 Tryz.f258 [a0] w R = F258 a0 w R := by kernel_rfl
theorem F258_call {a0 : Value} {w : World} {R : Value → World → Prop} (h : F258 a0 w R) : CALL Tryz.prog 258 [a0] w R :=
  call_of (g := cfg258) ent mixed Tryz.func258 (Nat.le_of_ble_eq_true (by kernel_rfl)) (by kernel_rfl) (F258_eq a0 w R ▸ h)
/-- cmp.Compare[int] -/
def F210 (a0 a1 : Value) (w : World) (R : Value → World → Prop) : Prop :=
  CALL Tryz.prog 258 [a0] w fun x8 w =>
  CALL Tryz.prog 258 [a1] w fun x10 w =>
  BR x8
   (BR x10
    (R (Value.int .i64 0) w)
    (R (Value.int .i64 (-1)) w))
   (BR x10
    (R (Value.int .i64 1) w)
    (RD Tryz.prog (bin .lss 3 (.tmp 0) (.tmp 0) a0 a1) w fun x16 =>
    BR x16
     (R (Value.int .i64 (-1)) w)
     (RD Tryz.prog (bin .gtr 3 (.tmp 0) (.tmp 0) a0 a1) w fun x19 =>
     BR x19
      (R (Value.int .i64 1) w)
      (R (Value.int .i64 0) w))))
def cfg210 : Cfg := { ext := extL, joins := [], loops := [], draws := [], pars := [] }
theorem F210_eq (a0 a1 : Value) (w : World) (R : Value → World → Prop) : vcF Tryz.prog cfg210 Tryz.f210 [a0, a1] w R = F210 a0 a1 w R := by kernel_rfl
theorem F210_call {a0 a1 : Value} {w : World} {R : Value → World → Prop} (h : F210 a0 a1 w R) : CALL Tryz.prog 210 [a0, a1] w R :=
  call_of (g := cfg210) ent mixed Tryz.func210 (Nat.le_of_ble_eq_true (by kernel_rfl)) (by kernel_rfl) (F210_eq a0 a1 w R ▸ h)
/-- slices.Compare[[]int,int] -/
def F145 (a0 a1 : Value) (w : World) (R : Value → World → Prop) : Prop :=
  RD Tryz.prog (Builtin.len_ #[23] 3 [a0].toArray) w fun x10 =>
  LOOPI [11] [(Value.int .i64 0)] w fun u2 w next2 =>
   RD Tryz.prog (bin .lss 3 (.tmp 0) (.tmp 0) (u2 11) x10) w fun x12 =>
   BR x12
    (RD Tryz.prog (Instr.indexAt 23 a0 (u2 11)) w fun x14 =>
    RD Tryz.prog (Instr.loadAt 3 x14) w fun x15 =>
    RD Tryz.prog (Builtin.len_ #[23] 3 [a1].toArray) w fun x18 =>
    RD Tryz.prog (bin .geq 3 (.tmp 0) (.tmp 0) (u2 11) x18) w fun x19 =>
    BR x19
     (R (Value.int .i64 1) w)
     (RD Tryz.prog (Instr.indexAt 23 a1 (u2 11)) w fun x22 =>
     RD Tryz.prog (Instr.loadAt 3 x22) w fun x23 =>
     CALL Tryz.prog 210 [x15, x23] w fun x26 w =>
     RD Tryz.prog (bin .neq 3 (.tmp 0) (.const undef) x26 (Value.int .i64 0)) w fun x28 =>
     BR x28
      (R x26 w)
      (RD Tryz.prog (bin .add 3 (.tmp 0) (.const undef) (u2 11) (Value.int .i64 1)) w fun x30 =>
      next2 [x30] w)))
    (RD Tryz.prog (Builtin.len_ #[23] 3 [a0].toArray) w fun x32 =>
    RD Tryz.prog (Builtin.len_ #[23] 3 [a1].toArray) w fun x34 =>
    RD Tryz.prog (bin .lss 3 (.tmp 0) (.tmp 0) x32 x34) w fun x35 =>
    BR x35
     (R (Value.int .i64 (-1)) w)
     (R (Value.int .i64 0) w))
def cfg145 : Cfg := { ext := extL, joins := [], loops := [(2, 2147482096, [11])], draws := [], pars := [] }
theorem F145_eq (a0 a1 : Value) (w : World) (R : Value → World → Prop) : vcF Tryz.prog cfg145 Tryz.f145 [a0, a1] w R = F145 a0 a1 w R := by kernel_rfl
theorem F145_call {a0 a1 : Value} {w : World} {R : Value → World → Prop} (h : F145 a0 a1 w R) : CALL Tryz.prog 145 [a0, a1] w R :=
  call_of (g := cfg145) ent mixed Tryz.func145 (Nat.le_of_ble_eq_true (by kernel_rfl)) (by kernel_rfl) (F145_eq a0 a1 w R ▸ h)
set_option linter.unusedVariables false
set_option linter.unusedSimpArgs false
theorem zlIc : zeroL Tryz.prog 3 = some [.int .i64 0] := by kernel_rfl
def cmpI (x y : Int) : Int := if x < y then -1 else if y < x then 1 else 0
def cmpL : List Int → List Int → Int
  | [], [] => 0
  | [], _ :: _ => -1
  | _ :: _, [] => 1
  | x :: l, y :: m => if cmpI x y ≠ 0 then cmpI x y else cmpL l m
theorem isNaN_ok {w : World} {x : Int} : CALL Tryz.prog 258 [.int .i64 x] w fun r w' => w' = w ∧ r = .bool false := by
  refine F258_call ?_
  unfold F258
  exact rd_neq ⟨rfl, by simp⟩
theorem compareI_ok {w : World} {x y : Int} : CALL Tryz.prog 210 [.int .i64 x, .int .i64 y] w fun r w' => w' = w ∧ r = .int .i64 (cmpI x y) := by
  refine F210_call ?_
  unfold F210
  refine isNaN_ok.mono ?_
  rintro _ _ ⟨rfl, rfl⟩
  refine isNaN_ok.mono ?_
  rintro _ _ ⟨rfl, rfl⟩
  refine br_b (fun h => by cases h) (fun _ => ?_)
  refine br_b (fun h => by cases h) (fun _ => ?_)
  refine rd_lss ?_
  refine br (fun h => ⟨rfl, by rw [cmpI, if_pos h]⟩) (fun h => ?_)
  refine rd_gtr ?_
  refine br (fun h2 => ⟨rfl, by rw [cmpI, if_neg h, if_pos h2]⟩) (fun h2 => ⟨rfl, by rw [cmpI, if_neg h, if_neg h2]⟩)
theorem rd_lenV {P : Program} {w : World} {K : Value → Prop} {t ty e : TypeId} {a : Option Addr} {n c : Nat} (ht : P.underlying t = some (.slice e)) (k : K (.int .i64 (n : Int))) :
    RD P (Builtin.len_ #[t] ty [Value.slice a n c].toArray) w K := rd_of (fun w' _ => by simp [Builtin.len_, run_underlying ht]; rfl) k
def vI (l : List Int) : List Value := l.map fun x => .int .i64 x
theorem vI_get {l : List Int} {k : Nat} (h : k < l.length) : (vI l)[k]? = some (.int .i64 l[k]) := by simp [vI, h]
theorem cmpL_step {l m : List Int} {k : Nat} (h1 : k < l.length) (h2 : k < m.length) : cmpL (l.drop k) (m.drop k) = if cmpI l[k] m[k] ≠ 0 then cmpI l[k] m[k] else cmpL (l.drop (k + 1)) (m.drop (k + 1)) := by
  rw [List.drop_eq_getElem_cons h1, List.drop_eq_getElem_cons h2, cmpL]
theorem compareL_ok {w : World} {g1 g2 e1 e2 c1 c2 : Nat} {l m : List Int} (h1 : Blk g1 e1 w (vI l)) (h2 : Blk g2 e2 w (vI m)) (hl : l.length ≤ 1000) (hm : m.length ≤ 1000) :
    CALL Tryz.prog 145 [.slice (some ⟨g1, 0, none⟩) l.length c1, .slice (some ⟨g2, 0, none⟩) m.length c2] w fun r w' => w' = w ∧ r = .int .i64 (cmpL l m) := by
  refine F145_call ?_
  unfold F145
  refine rd_lenV u23 ?_
  refine loopC l.length (fun k us w' => us = [.int .i64 (k : Int)] ∧ w' = w ∧ k ≤ m.length ∧ cmpL l m = cmpL (l.drop k) (m.drop k)) 0 (Nat.zero_le _) ⟨rfl, rfl, Nat.zero_le _, rfl⟩ ?_
  rintro k mk u w2 hkm ⟨hu, rfl, hkl, hc⟩
  simp only [List.map_cons, List.map_nil, List.cons.injEq, and_true] at hu
  rw [hu]
  refine rd_lss ?_
  refine br (fun hlt => ?_) (fun hge => ?_)
  · have hk1 : k < l.length := by omega
    refine rd_indexG u23 ty3 hk1 ?_
    rw [Nat.mul_one]
    refine rd_blkV ty3 h1 (vI_get hk1) ?_
    refine rd_lenV u23 ?_
    refine rd_geq ?_
    refine br (fun hge => ?_) (fun hlt2 => ?_)
    · refine ⟨rfl, ?_⟩
      have e0 : m.drop k = [] := List.drop_eq_nil_of_le (by omega)
      rw [hc, List.drop_eq_getElem_cons hk1, e0]; rfl
    · have hk2 : k < m.length := by omega
      refine rd_indexG u23 ty3 hk2 ?_
      rw [Nat.mul_one]
      refine rd_blkV ty3 h2 (vI_get hk2) ?_
      refine compareI_ok.mono ?_
      rintro _ _ ⟨rfl, rfl⟩
      have hst := cmpL_step hk1 hk2
      refine rd_neq ?_
      refine br (fun hne => ?_) (fun heq => ?_)
      · exact ⟨rfl, by rw [hc, hst, if_pos hne]⟩
      · refine rd_inc (by omega) ?_
        exact ⟨mk - 1, by omega, k + 1, by omega, rfl, rfl, by omega, by rw [hc, hst, if_neg heq]⟩
  · have hk : k = l.length := by omega
    subst hk
    refine rd_lenV u23 ?_
    refine rd_lenV u23 ?_
    refine rd_lss ?_
    rw [List.drop_length] at hc
    refine br (fun hlt2 => ⟨rfl, ?_⟩) (fun hge2 => ⟨rfl, ?_⟩)
    · rw [hc, List.drop_eq_getElem_cons (by omega)]; rfl
    · rw [hc, List.drop_eq_nil_of_le (by omega)]; rfl
section
variable {P : Program} {w : World} {K : Value → World → Prop}
theorem op_boxE {t : TypeId} {cs : Array Value} (k : K (.pointer (some ⟨w.heap.size, 0, none⟩)) (w.alloc (.cells cs t))) : OP P (Instr.box t (.agg cs)) w K :=
  ⟨_, w.alloc (.cells cs t), by simp [Instr.box, newVar, newRow, Value.cells], k⟩
theorem op_build3E {t e : TypeId} {by_ : Nat} {x y z : Int} (ht : P.underlying t = some (.slice e)) (he : tyI P e = some (1, by_, false)) (hz : zeroL P e = some [.int .i64 0])
    (k : K (.slice (some ⟨w.heap.size, 0, none⟩) 3 3) (w.alloc (.cells (vI [x, y, z]).toArray e))) : OP P (Instr.buildSlice t 3 #[(0, .int .i64 x), (1, .int .i64 y), (2, .int .i64 z)]) w K := by
  unfold zeroL at hz
  cases hi : P.info? e with
  | none => simp [hi] at hz
  | some i =>
    simp only [hi] at hz
    obtain ⟨v, hv, hvc⟩ := Option.map_eq_some_iff.1 hz
    refine ⟨_, w.alloc (.cells (vI [x, y, z]).toArray e), ?_, k⟩
    have hvc' : v.cells = #[.int .i64 0] := Array.ext' (by simpa using hvc)
    have e1 : ∀ n : Int, (Value.int .i64 n).cells = #[.int .i64 n] := fun _ => rfl
    simp only [Instr.buildSlice, Sem.run_bind, run_underlying ht, Result.andThen_ok, run_sizeOf' he]
    have e2 : Array.range 3 = #[0, 1, 2] := by decide
    simp [zeroValue, typeInfo, hi, hv, newRow, Instr.fill, hvc', vI, e1, e2]
end
/-- two of three numbers -/
def i3 (a b c : Int) : Array Value := #[.int .i64 a, .int .i64 b, .int .i64 c]
def GrowsTo (w w' : World) : Prop := ∃ q os, w' = Go.Sort.grow (w.drewN q) os
theorem grows_allocs {w : World} (o1 o2 o3 o4 : Obj) : GrowsTo w ((((w.alloc o1).alloc o2).alloc o3).alloc o4) :=
  ⟨0, #[o1] ++ #[o2] ++ #[o3] ++ #[o4], by
    rw [Go.Sort.alloc_eq_grow, Go.Sort.alloc_eq_grow, Go.Sort.alloc_eq_grow, Go.Sort.alloc_eq_grow, Go.Sort.grow_grow, Go.Sort.grow_grow, Go.Sort.grow_grow]; rfl⟩
/-- the order of races -/
def ltR (x y : DRace) : Prop := x.g < y.g ∨ (x.g = y.g ∧ (x.a < y.a ∨ (x.a = y.a ∧ x.b < y.b)))
theorem cmpI_lt {x y : Int} (h : x < y) : cmpI x y = -1 := by rw [cmpI, if_pos h]
theorem cmpI_gt {x y : Int} (h : y < x) : cmpI x y = 1 := by rw [cmpI, if_neg (by omega), if_pos h]
theorem cmpI_eq {x y : Int} (h : x = y) : cmpI x y = 0 := by rw [cmpI, if_neg (by omega), if_neg (by omega)]
end Go.Proofs.YtjgfldfbljmhhaaGreat
namespace Go.Sh
set_option linter.unusedVariables false
set_option linter.unusedSimpArgs false
set_option linter.unusedSectionVars false
open Rep (rep)
section
variable {P : Program} {w : World} {α : Type} [Rep α] [Flat α] {b o n cap k : Nat} {l : List α}
/-- a slice of one's own of flat data that holds something: its parts -/
theorem mine_parts {F : List Nat} {v : Value} (hm : Mine F w v l) (hl : l ≠ []) : ∃ b o cap xs, v = .slice (some ⟨b, o, none⟩) l.length cap ∧ F = [b] ∧ l.length ≤ cap ∧ cap ≤ maxLen ∧ Cells [] w xs l ∧ w.rangeAt b o xs ∧ (∃ c e, w.heap[b]? = some (.cells c e (0, 0))) := by
  obtain ⟨⟨cs, ⟨a, cap, Fi, xs, rfl, h1, h2, hc, h4⟩, rfl⟩, hn, hw⟩ := hm
  rcases h4 with ⟨h4, _⟩ | ⟨b, o, rfl, rfl, hr, hb⟩
  · exact absurd h4 hl
  have hFi := Cells.flat (xs := xs) hc
  subst hFi
  exact ⟨b, o, cap, xs, rfl, rfl, h1, h2, hc, hr, hw b (by simp)⟩
end
end Go.Sh
namespace Go.Proofs.YtjgfldfbljmhhaaGreat
open Go Go.Sh Go.Proofs Go.Sort
set_option linter.unusedVariables false
/-- (*impl.world).orders$1 -/
def F144 (a0 a1 : Value) (w : World) (R : Value → World → Prop) : Prop :=
  OP Tryz.prog (Instr.box 93 a0) w fun x2 w =>
  OP Tryz.prog (Instr.box 93 a1) w fun x3 w =>
  RD Tryz.prog (Instr.fieldAt 93 x2 0) w fun x5 =>
  RD Tryz.prog (Instr.loadAt 3 x5) w fun x6 =>
  RD Tryz.prog (Instr.fieldAt 93 x2 1) w fun x7 =>
  RD Tryz.prog (Instr.loadAt 3 x7) w fun x8 =>
  RD Tryz.prog (Instr.fieldAt 93 x2 2) w fun x9 =>
  RD Tryz.prog (Instr.loadAt 3 x9) w fun x10 =>
  OP Tryz.prog (Instr.buildSlice 23 3 #[(0, x6), (1, x8), (2, x10)]) w fun x11 w =>
  RD Tryz.prog (Instr.fieldAt 93 x3 0) w fun x12 =>
  RD Tryz.prog (Instr.loadAt 3 x12) w fun x13 =>
  RD Tryz.prog (Instr.fieldAt 93 x3 1) w fun x14 =>
  RD Tryz.prog (Instr.loadAt 3 x14) w fun x15 =>
  RD Tryz.prog (Instr.fieldAt 93 x3 2) w fun x16 =>
  RD Tryz.prog (Instr.loadAt 3 x16) w fun x17 =>
  OP Tryz.prog (Instr.buildSlice 23 3 #[(0, x13), (1, x15), (2, x17)]) w fun x18 w =>
  CALL Tryz.prog 145 [x11, x18] w fun x19 w =>
  R x19 w
def cfg144 : Cfg := { ext := extL, joins := [], loops := [], draws := [], pars := [] }
theorem F144_eq (a0 a1 : Value) (w : World) (R : Value → World → Prop) : vcF Tryz.prog cfg144 Tryz.f144 [a0, a1] w R = F144 a0 a1 w R := by kernel_rfl
theorem F144_call {a0 a1 : Value} {w : World} {R : Value → World → Prop} (h : F144 a0 a1 w R) : CALL Tryz.prog 144 [a0, a1] w R :=
  call_of (g := cfg144) ent mixed Tryz.func144 (Nat.le_of_ble_eq_true (by kernel_rfl)) (by kernel_rfl) (F144_eq a0 a1 w R ▸ h)
set_option linter.unusedVariables false
set_option linter.unusedSimpArgs false
open Rep (rep)
structure DOrder where
  fr : Int
  to : Int
  at_ : Int
theorem DOrder.ext_iff {x y : DOrder} : x = y ↔ (x.fr = y.fr ∧ x.to = y.to ∧ x.at_ = y.at_) := ⟨fun h => by rw [h]; exact ⟨rfl, rfl, rfl⟩, fun h => by obtain ⟨h0, h1, h2⟩ := h; cases x; cases y; simp only at h0 h1 h2; simp only [h0, h1, h2]⟩
instance : DecidableEq DOrder := fun x y => decidable_of_iff (x.fr = y.fr ∧ x.to = y.to ∧ x.at_ = y.at_) DOrder.ext_iff.symm
instance : Rep DOrder := Rep.via fun x => (x.fr, x.to, x.at_)
theorem at_DOrder_0 {w : World} {b o : Nat} {x : DOrder} (h : At w b o x) : At w b (o + 0) x.fr := at_fst (α := Int) (β := Int × Int) (p := (x.fr, x.to, x.at_)) h
theorem at_DOrder_1 {w : World} {b o : Nat} {x : DOrder} (h : At w b o x) : At w b (o + 1) x.to := at_fst (α := Int) (β := Int) (p := (x.to, x.at_)) (at_snd (α := Int) (β := Int × Int) (p := (x.fr, x.to, x.at_)) h)
theorem at_DOrder_2 {w : World} {b o : Nat} {x : DOrder} (h : At w b o x) : At w b (o + 2) x.at_ := at_snd (α := Int) (β := Int) (p := (x.to, x.at_)) (at_snd (α := Int) (β := Int × Int) (p := (x.fr, x.to, x.at_)) h)
instance : RepZ DOrder := ⟨⟨(RepZ.zv : Int), (RepZ.zv : Int), (RepZ.zv : Int)⟩, RepZ.zc (Int × Int × Int), fun w => RepZ.zr (α := Int × Int × Int) w⟩
instance : Flat DOrder := ⟨fun h => Flat.flat (α := Int × Int × Int) h⟩
/-- what is compared of orders -/
def ordI (x : DOrder) : List Int := [x.fr, x.to, x.at_]
def cmpO (x y : DOrder) : Int := cmpL (ordI x) (ordI y)
theorem ordCmp_ok {w : World} {x y : DOrder} : CALL Tryz.prog 144 [.agg (i3 x.fr x.to x.at_), .agg (i3 y.fr y.to y.at_)] w fun r w' => r = .int .i64 (cmpO x y) ∧ GrowsTo w w' := by
  refine F144_call ?_
  unfold F144
  refine op_boxE ?_
  have hB1 : Blk w.heap.size 93 (w.alloc (.cells (i3 x.fr x.to x.at_) 93)) (vI (ordI x)) := heap_alloc_new w _
  refine op_boxE ?_
  generalize hw1 : w.alloc (.cells (i3 x.fr x.to x.at_) 93) = w1 at *
  have hB2 : Blk w1.heap.size 93 (w1.alloc (.cells (i3 y.fr y.to y.at_) 93)) (vI (ordI y)) := heap_alloc_new w1 _
  have hx2 := ext_alloc w1 (.cells (i3 y.fr y.to y.at_) 93)
  generalize hw2 : w1.alloc (.cells (i3 y.fr y.to y.at_) 93) = w2 at *
  have hB12 := hB1.ext hx2
  refine rd_fld fd93_0 ?_
  refine rd_blkV ty3 hB12 rfl ?_
  refine rd_fld fd93_1 ?_
  refine rd_blkV ty3 hB12 rfl ?_
  refine rd_fld fd93_2 ?_
  refine rd_blkV ty3 hB12 rfl ?_
  refine op_build3E u23 ty3 zlIc ?_
  have hx3 := ext_alloc w2 (.cells (vI [x.fr, x.to, x.at_]).toArray 3)
  have hB3 : Blk w2.heap.size 3 (w2.alloc (.cells (vI [x.fr, x.to, x.at_]).toArray 3)) (vI (ordI x)) := heap_alloc_new w2 _
  generalize hw3 : w2.alloc (.cells (vI [x.fr, x.to, x.at_]).toArray 3) = w3 at *
  have hB23 := hB2.ext hx3
  refine rd_fld fd93_0 ?_
  refine rd_blkV ty3 hB23 rfl ?_
  refine rd_fld fd93_1 ?_
  refine rd_blkV ty3 hB23 rfl ?_
  refine rd_fld fd93_2 ?_
  refine rd_blkV ty3 hB23 rfl ?_
  refine op_build3E u23 ty3 zlIc ?_
  have hx4 := ext_alloc w3 (.cells (vI [y.fr, y.to, y.at_]).toArray 3)
  have hB4 : Blk w3.heap.size 3 (w3.alloc (.cells (vI [y.fr, y.to, y.at_]).toArray 3)) (vI (ordI y)) := heap_alloc_new w3 _
  have hg : GrowsTo w (w3.alloc (.cells (vI [y.fr, y.to, y.at_]).toArray 3)) := by rw [← hw3, ← hw2, ← hw1]; exact grows_allocs _ _ _ _
  refine (compareL_ok (l := ordI x) (m := ordI y) (hB3.ext hx4) hB4 (by simp [ordI]) (by simp [ordI])).mono ?_
  rintro _ _ ⟨rfl, rfl⟩
  exact ⟨rfl, hg⟩
/-- the order of orders -/
def ltO (x y : DOrder) : Prop := x.fr < y.fr ∨ (x.fr = y.fr ∧ (x.to < y.to ∨ (x.to = y.to ∧ x.at_ < y.at_)))
theorem cmpO_lt {x y : DOrder} : cmpO x y < 0 ↔ ltO x y := by
  unfold cmpO ordI ltO
  simp only [cmpL]
  rcases Int.lt_trichotomy x.fr y.fr with h | h | h
  · rw [cmpI_lt h]; simp; omega
  · rw [cmpI_eq h]
    rcases Int.lt_trichotomy x.to y.to with h2 | h2 | h2
    · rw [cmpI_lt h2]; simp; omega
    · rw [cmpI_eq h2]
      rcases Int.lt_trichotomy x.at_ y.at_ with h3 | h3 | h3
      · rw [cmpI_lt h3]; simp; omega
      · rw [cmpI_eq h3]; simp; omega
      · rw [cmpI_gt h3]; simp; omega
    · rw [cmpI_gt h2]; simp; omega
  · rw [cmpI_gt h]; simp; omega
instance (x y : DOrder) : Decidable (ltO x y) := by unfold ltO; infer_instance
theorem ltO_irrefl (x : DOrder) : ¬ ltO x x := by unfold ltO; omega
theorem ltO_trans {x y z : DOrder} (h : ltO x y) (k : ltO y z) : ltO x z := by unfold ltO at *; omega
theorem ltO_total {x y : DOrder} (h : ¬ ltO x y) (k : ¬ ltO y x) : x = y := by
  unfold ltO at *
  exact DOrder.ext_iff.2 ⟨by omega, by omega, by omega⟩
theorem sortedO_ext : ∀ {l m : List DOrder}, l.Pairwise ltO → m.Pairwise ltO → (∀ x, x ∈ l ↔ x ∈ m) → l = m
  | [], [], _, _, _ => rfl
  | [], y :: m, _, _, h => by have := (h y).2 (by simp); cases this
  | x :: l, [], _, _, h => by have := (h x).1 (by simp); cases this
  | x :: l, y :: m, h1, h2, h => by
    rw [List.pairwise_cons] at h1 h2
    have hxy : x = y := by
      rcases List.mem_cons.1 ((h x).1 (by simp)) with e | hm
      · exact e
      · rcases List.mem_cons.1 ((h y).2 (by simp)) with e | hl
        · exact e.symm
        · exact absurd (ltO_trans (h1.1 y hl) (h2.1 x hm)) (ltO_irrefl x)
    subst hxy
    congr 1
    refine sortedO_ext h1.2 h2.2 fun z => ⟨fun hz => ?_, fun hz => ?_⟩
    · rcases List.mem_cons.1 ((h z).1 (by simp [hz])) with rfl | h'
      · exact absurd (h1.1 z hz) (ltO_irrefl z)
      · exact h'
    · rcases List.mem_cons.1 ((h z).2 (by simp [hz])) with rfl | h'
      · exact absurd (h2.1 z hz) (ltO_irrefl z)
      · exact h'
instance : Inhabited DOrder := ⟨⟨0, 0, 0⟩⟩
def encO (x : DOrder) : List Value := [.int .i64 x.fr, .int .i64 x.to, .int .i64 x.at_]
theorem encO_rep : ∀ {F : List Nat} {w : World} {cs : List Value} {x : DOrder}, Rep.rep F w cs x → cs = encO x := by
  intro F w cs x h
  obtain ⟨F1, F2, c1, c2, rfl, rfl, ⟨rfl, rfl, _⟩, ⟨F3, F4, c3, c4, rfl, rfl, ⟨rfl, rfl, _⟩, ⟨rfl, rfl, _⟩⟩⟩ := h
  rfl
theorem ltOf_cmpO {x y : DOrder} : ltOf cmpO x y = decide (ltO x y) := by
  unfold ltOf
  rw [decide_eq_decide]
  exact cmpO_lt
theorem ltO_swo : SWO (ltOf cmpO) := by
  refine ⟨fun x => ?_, fun x y z h k => ?_, fun x y z h k => ?_⟩
  · rw [ltOf_cmpO, decide_eq_false_iff_not]; exact ltO_irrefl x
  · rw [ltOf_cmpO, decide_eq_true_eq] at *; exact ltO_trans h k
  · rw [ltOf_cmpO, decide_eq_false_iff_not] at *
    intro hc
    unfold ltO at *
    omega
/-- a list of orders in order -/
def srtO (l : List DOrder) : List DOrder := l.mergeSort fun x y => !(ltOf cmpO) y x
theorem srtO_perm (l : List DOrder) : (srtO l).Perm l := List.mergeSort_perm l _
theorem srtO_len (l : List DOrder) : (srtO l).length = l.length := (srtO_perm l).length_eq
theorem srtO_pw (l : List DOrder) : (srtO l).Pairwise fun x y => ¬ ltO y x := by
  have := List.pairwise_mergeSort (le := fun x y => !(ltOf cmpO) y x) (fun a b c h1 h2 => by
    simp only [ltOf_cmpO, Bool.not_eq_true', decide_eq_false_iff_not] at *
    unfold ltO at *; omega) (fun a b => by
    simp only [ltOf_cmpO, Bool.or_eq_true, Bool.not_eq_true', decide_eq_false_iff_not]
    unfold ltO; omega) l
  exact this.imp fun h => by simpa [ltOf_cmpO] using h
theorem sortO_ok {w : World} {lo hi : Nat} {v : Value} {l : List DOrder} (h : OwnI lo hi w v l) (hn : l.length ≤ 1073741824) :
    CALL Tryz.prog 143 [v, .func (.func 144) #[] #[]] w fun r w' => ChgI lo hi w w' ∧ OwnI lo hi w' v (srtO l) := by
  obtain ⟨F, hM, hF⟩ := h
  by_cases hne : l = []
  · subst hne
    obtain ⟨a, cap, hv⟩ : ∃ a cap, v = .slice a 0 cap := by
      obtain ⟨cs, ⟨a, cap, G, xs, h, _⟩, hv⟩ := hM.own
      exact ⟨a, cap, by rw [hv, h]; rfl⟩
    subst hv
    refine ⟨(AnyF.slices_SortFunc_none Tryz.sortOrder a cap _ w).mono ?_⟩
    rintro e w' ⟨he, rfl⟩
    refine ⟨_, he, ChgI.refl _, F, ?_, hF⟩
    have : srtO [] = [] := List.eq_nil_of_length_eq_zero (by rw [srtO_len]; rfl)
    rw [this]; exact hM
  obtain ⟨b, o, cap, xs, rfl, rfl, h1, h2, hcc, hrr, hww⟩ := mine_parts hM hne
  have henc := @encO_rep
  have hk : ∀ x, (encO x).length = Rep.size DOrder := fun _ => rfl
  obtain ⟨c, e, hbe⟩ := hww
  have hb : b < w.heap.size := (Array.getElem?_eq_some_iff.1 hbe).1
  have hcmp : CmpLays Tryz.prog 144 #[] encO 3 cmpO b o l.toArray.size w := fun m os dk _ x y => by
    have := ordCmp_ok (w := sortWorldK encO 3 w b o m dk os) (x := x) (y := y)
    obtain ⟨h⟩ := this
    refine h.mono ?_
    rintro e w' ⟨v, he, hv, q, os', hw'⟩
    exact ⟨by rw [he, hv], q, os', hw'⟩
  refine ⟨(AnyQ.slices_SortFunc_total Tryz.sortOrder 3 Tryz.isAgg93 Tryz.sizeOf93 encO (fun _ => rfl) (fun x v hv => by
      simp only [encO, List.mem_cons, List.not_mem_nil, or_false] at hv
      rcases hv with rfl | rfl | rfl <;> rfl) cmpO ltO_swo 144 #[] b o cap l.toArray w (run_callFunc (ent 144 (by decide) (by kernel_rfl))) hcmp (holdsK_of henc hk ⟨c, e, hbe⟩ hcc hrr) hb (by simp; omega) (fun x y h k => by
      rw [ltOf_cmpO, decide_eq_false_iff_not] at *; exact ltO_total h k)).mono ?_⟩
  rintro ex w' ⟨he, n, os, hw'⟩
  have hs := sorted_mine henc hk (cap := cap) hw' ⟨c, e, hbe⟩ hcc hrr h1 h2 (by simp) (fun x hx => by simpa [List.mem_mergeSort] using hx)
  refine ⟨_, he, ?_, [b], ?_, hF⟩
  · exact hs.1.toI (fun i hi => hF i hi)
  · exact hs.2
end Go.Proofs.YtjgfldfbljmhhaaGreat
namespace Go.Proofs.YtjgfldfbljmhhaaGreat
open Go Go.Sh Go.Proofs
set_option linter.unusedVariables false
set_option linter.unusedVariables false
set_option linter.unusedSimpArgs false
instance : Flat DRace := ⟨fun h => by obtain ⟨F1, F2, c1, c2, rfl, rfl, ⟨rfl, _⟩, ⟨F3, F4, c3, c4, rfl, rfl, ⟨rfl, _⟩, ⟨rfl, _⟩⟩⟩ := h; rfl⟩
section
variable {α : Type} [DecidableEq α]
end
end Go.Proofs.YtjgfldfbljmhhaaGreat
namespace Go.Proofs.YtjgfldfbljmhhaaGreat
open Go Go.Sh Go.Proofs
set_option linter.unusedVariables false
set_option linter.unusedVariables false
set_option linter.unusedSimpArgs false
def clashP (a b : DTouch) : Prop := a.global = b.global ∧ (a.write = true ∨ b.write = true) ∧ (0 ≤ a.held ∧ a.held ≤ 63) ∧ (0 ≤ b.held ∧ b.held ≤ 63) ∧ a.held.toNat &&& b.held.toNat = 0
instance (a b : DTouch) : Decidable (clashP a b) := by unfold clashP; infer_instance
def raceOf (a b : DTouch) : DRace := ⟨a.global, min a.at_ b.at_, max a.at_ b.at_⟩
instance (x y : DRace) : Decidable (ltR x y) := by unfold ltR; infer_instance
end Go.Proofs.YtjgfldfbljmhhaaGreat
namespace Go.Proofs.YtjgfldfbljmhhaaGreat
open Go Go.Sh Go.Proofs Go.Sort
set_option linter.unusedVariables false
set_option linter.unusedSimpArgs false
instance : Inhabited DRace := ⟨⟨0, 0, 0⟩⟩
end Go.Proofs.YtjgfldfbljmhhaaGreat
namespace Go.Proofs.YtjgfldfbljmhhaaGreat
open Go Go.Sh Go.Proofs
set_option linter.unusedVariables false
set_option linter.unusedVariables false
set_option linter.unusedSimpArgs false
theorem flat_own {α : Type} [Rep α] [Flat α] {w : World} {lo hi : Nat} {v : Value} {x : α} (h : Is w v x) : OwnI lo hi w v x := by
  obtain ⟨F, cs, hr, hv⟩ := h
  have hF := Flat.flat hr
  subst hF
  exact ⟨[], ⟨⟨cs, hr, hv⟩, List.nodup_nil, Wr.nil w⟩, by simp⟩
end Go.Proofs.YtjgfldfbljmhhaaGreat
namespace Go.Proofs.YtjgfldfbljmhhaaGreat
open Go Go.Sh Go.Proofs
set_option linter.unusedVariables false
set_option linter.unusedVariables false
set_option linter.unusedSimpArgs false
/-- the races of two touches, of a touch and lists -/
def clR (a b : DTouch) : List DRace := if clashP a b then [raceOf a b] else []
def gB (a : DTouch) (bs : List DTouch) : List DRace := bs.flatMap (clR a)
def hA (bs xs : List DTouch) : List DRace := xs.flatMap fun a => gB a bs
def hU (T : Nat → List DTouch) (xs : List DTouch) (t : Nat) : List DRace := (List.range t).flatMap fun u => hA (T u) xs
def hT (T : Nat → List DTouch) (n : Nat) : List DRace := (List.range n).flatMap fun t => hU T (T t) t
theorem range_flat {β : Type} {f : Nat → List β} (n : Nat) : (List.range (n + 1)).flatMap f = (List.range n).flatMap f ++ f n := by
  rw [List.range_succ, List.flatMap_append]; simp
end Go.Proofs.YtjgfldfbljmhhaaGreat
namespace Go.Proofs.YtjgfldfbljmhhaaGreat
open Go Go.Sh Go.Proofs
set_option linter.unusedVariables false
set_option linter.unusedSimpArgs false
open Rep (rep)
/-- a lock is asked for at a place while another may be held -/
def OrdP (c : DCode) (fr to i : Nat) : Prop := MetP c i ∧ (insAt c i).op = 6 ∧ agN c i = to ∧ MayP c i fr
def mkO (fr to i : Nat) : DOrder := ⟨fr, to, i⟩
theorem MayP.locks {c : DCode} (hc : CodeR c) {i l : Nat} (h : MayP c i l) : l < c.locks.length := by
  induction h with
  | lock hm ho ha hj => subst ha; exact (ag_lock hc (hm.lt hc) (.inl ho)).2.1
  | pass _ _ _ _ _ ih => exact ih
  | call _ _ _ ih => exact ih
  | back _ _ _ _ _ ih => exact ih
open Classical in
noncomputable def ordI1 (c : DCode) (fr to i : Nat) : List DOrder := if OrdP c fr to i then [mkO fr to i] else []
noncomputable def ordI2 (c : DCode) (fr to : Nat) : List DOrder := (List.range c.ins.length).flatMap (ordI1 c fr to)
noncomputable def ordI3 (c : DCode) (fr : Nat) : List DOrder := (List.range c.locks.length).flatMap (ordI2 c fr)
/-- the orders of a code -/
noncomputable def ordL (c : DCode) : List DOrder := (List.range c.locks.length).flatMap (ordI3 c)
theorem mem_ordI1 {c : DCode} {fr to i : Nat} {x : DOrder} : x ∈ ordI1 c fr to i ↔ OrdP c fr to i ∧ x = mkO fr to i := by
  unfold ordI1; split
  · rename_i h; simp [h]
  · rename_i h; simp [h]
theorem mem_ordL {c : DCode} (hc : CodeR c) {x : DOrder} : x ∈ ordL c ↔ ∃ fr to i, OrdP c fr to i ∧ x = mkO fr to i := by
  unfold ordL ordI3 ordI2
  simp only [List.mem_flatMap, List.mem_range, mem_ordI1]
  constructor
  · rintro ⟨fr, _, to, _, i, _, h⟩; exact ⟨fr, to, i, h⟩
  · rintro ⟨fr, to, i, h, e⟩
    have hi := h.1.lt hc
    exact ⟨fr, h.2.2.2.locks hc, to, h.2.2.1 ▸ (ag_lock hc hi (.inl h.2.1)).2.1, i, hi, h, e⟩
theorem flatLen {α β : Type} {f : α → List β} {B : Nat} : ∀ {l : List α}, (∀ a ∈ l, (f a).length ≤ B) → (l.flatMap f).length ≤ l.length * B
  | [], _ => by simp
  | a :: l, h => by
    have h1 := h a (by simp)
    have h2 := flatLen (l := l) fun b hb => h b (by simp [hb])
    simp only [List.flatMap_cons, List.length_append, List.length_cons, Nat.add_mul]
    omega
theorem ordI1_len (c : DCode) (fr to i : Nat) : (ordI1 c fr to i).length ≤ 1 := by unfold ordI1; split <;> simp
theorem ordP1_len (c : DCode) (fr to k : Nat) : ((List.range k).flatMap (ordI1 c fr to)).length ≤ k := by
  have := flatLen (l := List.range k) fun a _ => ordI1_len c fr to a
  simpa using this
theorem ordP2_len {c : DCode} (hn : c.ins.length ≤ 1500) (fr k : Nat) : ((List.range k).flatMap (ordI2 c fr)).length ≤ k * 1500 := by
  have := flatLen (l := List.range k) (f := ordI2 c fr) (B := 1500) fun a _ => Nat.le_trans (ordP1_len c fr a _) hn
  rw [List.length_range] at this; exact this
theorem ordP3_len {c : DCode} (hn : c.ins.length ≤ 1500) (hl : c.locks.length ≤ 6) (k : Nat) : ((List.range k).flatMap (ordI3 c)).length ≤ k * 9000 := by
  have := flatLen (l := List.range k) (f := ordI3 c) (B := 9000) fun a _ => by
    have := ordP2_len hn a c.locks.length
    unfold ordI3; omega
  rw [List.length_range] at this; exact this
theorem ordL_len {c : DCode} (hc : CodeR c) : (ordL c).length ≤ 54000 := by
  have h6 := hc.1.locks6
  exact Nat.le_trans (ordP3_len hc.f.ins h6 _) (by omega)
theorem ordL_pw (c : DCode) : (ordL c).Pairwise ltO := by
  unfold ordL ordI3 ordI2
  have hr : ∀ n, (List.range n).Pairwise (fun a b => a < b) := fun n => List.pairwise_lt_range
  refine List.pairwise_flatMap.2 ⟨fun fr _ => List.pairwise_flatMap.2 ⟨fun to _ => List.pairwise_flatMap.2 ⟨fun i _ => ?_, (hr _).imp ?_⟩, (hr _).imp ?_⟩, (hr _).imp ?_⟩
  · unfold ordI1; split <;> simp
  · intro a b hab x hx y hy
    obtain ⟨_, rfl⟩ := mem_ordI1.1 hx
    obtain ⟨_, rfl⟩ := mem_ordI1.1 hy
    exact .inr ⟨rfl, .inr ⟨rfl, Int.ofNat_lt.2 hab⟩⟩
  · intro a b hab x hx y hy
    simp only [List.mem_flatMap, mem_ordI1] at hx hy
    obtain ⟨_, _, _, rfl⟩ := hx
    obtain ⟨_, _, _, rfl⟩ := hy
    exact .inr ⟨rfl, .inl (Int.ofNat_lt.2 hab)⟩
  · intro a b hab x hx y hy
    simp only [List.mem_flatMap, mem_ordI1] at hx hy
    obtain ⟨_, _, _, _, _, rfl⟩ := hx
    obtain ⟨_, _, _, _, _, rfl⟩ := hy
    exact .inl (Int.ofNat_lt.2 hab)
/-- of one place, as the program finds them -/
def ordW (c : DCode) (i : Nat) (l : Int) : DOrder := ⟨l, agN c i, i⟩
open Classical in
noncomputable def ordA (c : DCode) (i : Nat) : List DOrder := if MetP c i ∧ (insAt c i).op = 6 then (bitsL (nat0 (mayN c) i)).map (ordW c i) else []
noncomputable def ordB (c : DCode) (k : Nat) : List DOrder := (List.range k).flatMap (ordA c)
theorem mem_bitsM {m : Nat} (hm : m < 64) {x : Int} : x ∈ bitsL m ↔ ∃ i : Nat, x = (i : Int) ∧ m.testBit i = true := by
  unfold bitsL
  rw [mem_bitsTo]
  constructor
  · rintro ⟨i, _, h⟩; exact ⟨i, h⟩
  · rintro ⟨i, h, hb⟩; exact ⟨i, by have := bit_lt6 hm hb; omega, h, hb⟩
theorem bitsTo_pw (m : Nat) : ∀ k, (bitsTo m k).Pairwise (fun a b => a < b)
  | 0 => by simp [bitsTo]
  | k + 1 => by
    rw [bitsTo]
    split
    · refine List.pairwise_append.2 ⟨bitsTo_pw m k, by simp, fun a ha b hb => ?_⟩
      obtain ⟨i, hi, rfl, _⟩ := mem_bitsTo.1 ha
      simp only [List.mem_singleton] at hb
      omega
    · exact bitsTo_pw m k
theorem mem_ordA {c : DCode} {i : Nat} {x : DOrder} (hi : i < c.ins.length) : x ∈ ordA c i ↔ ∃ fr to, OrdP c fr to i ∧ fr < 6 ∧ x = mkO fr to i := by
  unfold ordA
  split
  · rename_i h
    rw [mayN_at hi]
    simp only [List.mem_map, mem_bitsM m6_lt, m6_bit]
    constructor
    · rintro ⟨_, ⟨l, rfl, h6, hm⟩, rfl⟩; exact ⟨l, agN c i, ⟨h.1, h.2, rfl, hm⟩, h6, rfl⟩
    · rintro ⟨fr, to, hp, h6, rfl⟩
      refine ⟨fr, ⟨fr, rfl, h6, hp.2.2.2⟩, ?_⟩
      unfold ordW mkO
      rw [hp.2.2.1]
  · rename_i h
    constructor
    · intro h; cases h
    · rintro ⟨fr, to, hp, _⟩; exact absurd ⟨hp.1, hp.2.1⟩ h
theorem ordA_len {c : DCode} {i : Nat} : (ordA c i).length ≤ 64 := by
  unfold ordA; split
  · rw [List.length_map]; exact bitsTo_len _ 64
  · simp
theorem ordB_len (c : DCode) (k : Nat) : (ordB c k).length ≤ k * 64 := by
  have := flatLen (l := List.range k) fun a _ => ordA_len (c := c) (i := a)
  rw [List.length_range] at this; exact this
theorem ltO_total' (x y : DOrder) : ltO x y ∨ x = y ∨ ltO y x := by
  by_cases h1 : ltO x y
  · exact .inl h1
  by_cases h2 : ltO y x
  · exact .inr (.inr h2)
  exact .inr (.inl (ltO_total h1 h2))
theorem srtO_ordB {c : DCode} (hc : CodeR c) : srtO (ordB c c.ins.length) = ordL c := by
  have hmem : ∀ x, x ∈ ordB c c.ins.length ↔ x ∈ ordL c := fun x => by
    rw [mem_ordL hc]
    unfold ordB
    simp only [List.mem_flatMap, List.mem_range]
    constructor
    · rintro ⟨i, hi, hx⟩
      obtain ⟨fr, to, h, _, e⟩ := (mem_ordA hi).1 hx
      exact ⟨fr, to, i, h, e⟩
    · rintro ⟨fr, to, i, h, e⟩
      have hi := h.1.lt hc
      have := h.2.2.2.locks hc
      have h6 := hc.1.locks6
      exact ⟨i, hi, (mem_ordA hi).2 ⟨fr, to, h, by omega, e⟩⟩
  have hnd : (ordB c c.ins.length).Pairwise (fun x y => x ≠ y) := by
    unfold ordB
    refine List.pairwise_flatMap.2 ⟨fun i _ => ?_, List.pairwise_lt_range.imp ?_⟩
    · unfold ordA; split
      · refine List.pairwise_map.2 ((bitsTo_pw _ _).imp fun {a b} h e => ?_)
        have := congrArg DOrder.fr e
        unfold ordW at this; simp only at this; omega
      · simp
    · intro a b hab x hx y hy e
      have h1 : ∀ {i : Nat} {x : DOrder}, x ∈ ordA c i → x.at_ = i := fun {i x} hx => by
        unfold ordA at hx; split at hx
        · obtain ⟨l, _, rfl⟩ := List.mem_map.1 hx; rfl
        · cases hx
      have := h1 hx
      have h2 := h1 hy
      rw [e, h2] at this
      omega
  refine sortedO_ext ?_ (ordL_pw c) fun x => (srtO_perm _).mem_iff.trans (hmem x)
  have h1 := srtO_pw (ordB c c.ins.length)
  have h2 : (srtO (ordB c c.ins.length)).Pairwise (fun x y => x ≠ y) := (srtO_perm _).symm.pairwise hnd (fun h e => h e.symm)
  refine (List.pairwise_and_iff.2 ⟨h1, h2⟩).imp fun {x y} h => ?_
  rcases ltO_total' x y with h3 | h3 | h3
  · exact h3
  · exact absurd h3 h.2
  · exact absurd h3 h.1
end Go.Proofs.YtjgfldfbljmhhaaGreat
