/-
  Parts of the proof, put together by program.
-/
import Derived.Test.YtjgfldfbljmhhaaGreatPSeenAll5
namespace Go.Proofs.YtjgfldfbljmhhaaGreat
open Go Go.Sh Go.Proofs
set_option linter.unusedVariables false
def F217 (a0 a1 a2 : Value) (w : World) (R : Value → World → Prop) : Prop :=
 OP Tryz.prog (Instr.box 35 a0) w fun x3 w =>
 OP Tryz.prog (Instr.box 37 a1) w fun x4 w =>
 OP Tryz.prog (Instr.alloc 37 true (.tuple #[])) w fun x6 w =>
 RD Tryz.prog (Instr.loadAt 37 x4) w fun x12 =>
 CALL Tryz.prog 267 [x12] w fun x13 w =>
 OP Tryz.prog (Instr.alloc 37 true (.tuple #[])) w fun x7 w =>
 OPU Tryz.prog (Instr.storeAt 37 x7 x13) w fun w =>
 RD Tryz.prog (Instr.fieldAt 37 x7 2) w fun x14 =>
 RD Tryz.prog (Instr.loadAt 27 x14) w fun x15 =>
 RD Tryz.prog (Instr.indexAt 27 x15 a2) w fun x17 =>
 RD Tryz.prog (Instr.loadAt 23 x17) w fun x18 =>
 RD Tryz.prog (Builtin.len_ #[23] 3 [x18].toArray) w fun x19 =>
 RD Tryz.prog (bin .sub 3 (.tmp 0) (.const undef) x19 (Value.int .i64 1)) w fun x20 =>
 RD Tryz.prog (Instr.fieldAt 37 x7 2) w fun x21 =>
 RD Tryz.prog (Instr.loadAt 27 x21) w fun x22 =>
 RD Tryz.prog (Instr.indexAt 27 x22 a2) w fun x24 =>
 RD Tryz.prog (Instr.loadAt 23 x24) w fun x25 =>
 RD Tryz.prog (Instr.indexAt 23 x25 x20) w fun x27 =>
 RD Tryz.prog (Instr.loadAt 3 x27) w fun x28 =>
 RD Tryz.prog (Instr.fieldAt 35 x3 4) w fun x29 =>
 RD Tryz.prog (Instr.loadAt 33 x29) w fun x30 =>
 RD Tryz.prog (Instr.indexAt 33 x30 x28) w fun x32 =>
 RD Tryz.prog (Instr.loadAt 136 x32) w fun x33 =>
 OP Tryz.prog (Instr.alloc 136 true (.tuple #[])) w fun x10 w =>
 OPU Tryz.prog (Instr.storeAt 136 x10 x33) w fun w =>
 RD Tryz.prog (bin .add 3 (.tmp 0) (.const undef) x28 (Value.int .i64 1)) w fun x35 =>
 JOIN [11] (fun J30 =>
 RD Tryz.prog (Instr.fieldAt 136 x10 0) w fun x36 =>
 RD Tryz.prog (Instr.loadAt 3 x36) w fun x37 =>
 RD Tryz.prog (bin .eql 3 (.tmp 0) (.const undef) x37 (Value.int .i64 1)) w fun x39 =>
 BR x39
 ((fun w => RD Tryz.prog (Instr.fieldAt 37 x7 0) w fun x40 =>
 RD Tryz.prog (Instr.loadAt 23 x40) w fun x41 =>
 RD Tryz.prog (Instr.fieldAt 136 x10 1) w fun x42 =>
 RD Tryz.prog (Instr.loadAt 3 x42) w fun x43 =>
 RD Tryz.prog (Instr.fieldAt 136 x10 2) w fun x44 =>
 RD Tryz.prog (Instr.loadAt 134 x44) w fun x45 =>
 RD Tryz.prog (Instr.fieldAt 35 x3 0) w fun x46 =>
 RD Tryz.prog (Instr.loadAt 22 x46) w fun x47 =>
 RD Tryz.prog (Instr.fieldAt 37 x4 0) w fun x48 =>
 RD Tryz.prog (Instr.loadAt 23 x48) w fun x49 =>
 (fun w_ => CALL Tryz.prog 268 [x45, x47, x49] w_ fun x50 w =>
 Ext w_ w ∧
 RD Tryz.prog (Instr.indexAt 23 x41 x43) w fun x51 =>
 OPU Tryz.prog (Instr.storeAt 3 x51 x50) w fun w =>
 J30 [x35] w) w) (World.drew1 w))
 (RD Tryz.prog (bin .eql 3 (.tmp 0) (.const undef) x37 (Value.int .i64 2)) w fun x53 =>
 BR x53
 (RD Tryz.prog (Instr.fieldAt 136 x10 2) w fun x54 =>
 RD Tryz.prog (Instr.loadAt 134 x54) w fun x55 =>
 RD Tryz.prog (Instr.fieldAt 35 x3 0) w fun x56 =>
 RD Tryz.prog (Instr.loadAt 22 x56) w fun x57 =>
 RD Tryz.prog (Instr.fieldAt 37 x4 0) w fun x58 =>
 RD Tryz.prog (Instr.loadAt 23 x58) w fun x59 =>
 CALL Tryz.prog 268 [x55, x57, x59] w fun x60 w =>
 RD Tryz.prog (bin .eql 3 (.tmp 0) (.const undef) x60 (Value.int .i64 0)) w fun x61 =>
 BR x61
 (RD Tryz.prog (Instr.fieldAt 136 x10 3) w fun x62 =>
 RD Tryz.prog (Instr.loadAt 3 x62) w fun x63 =>
 J30 [x63] w)
 (J30 [x35] w))
 (RD Tryz.prog (bin .eql 3 (.tmp 0) (.const undef) x37 (Value.int .i64 3)) w fun x65 =>
 BR x65
 (RD Tryz.prog (Instr.fieldAt 136 x10 3) w fun x66 =>
 RD Tryz.prog (Instr.loadAt 3 x66) w fun x67 =>
 J30 [x67] w)
 (RD Tryz.prog (bin .eql 3 (.tmp 0) (.const undef) x37 (Value.int .i64 4)) w fun x69 =>
 BR x69
 ((fun w => XR fun X => RDX Tryz.prog X (Instr.fieldAt 37 x7 2) w fun x70 =>
 RDX Tryz.prog X (Instr.loadAt 27 x70) w fun x71 =>
 RDX Tryz.prog X (Instr.fieldAt 37 x7 2) w fun x73 =>
 RDX Tryz.prog X (Instr.loadAt 27 x73) w fun x74 =>
 RDX Tryz.prog X (Instr.indexAt 27 x74 a2) w fun x76 =>
 RDX Tryz.prog X (Instr.loadAt 23 x76) w fun x77 =>
 RDX Tryz.prog X (Instr.fieldAt 35 x3 3) w fun x78 =>
 RDX Tryz.prog X (Instr.loadAt 23 x78) w fun x79 =>
 RDX Tryz.prog X (Instr.fieldAt 136 x10 1) w fun x80 =>
 RDX Tryz.prog X (Instr.loadAt 3 x80) w fun x81 =>
 RDX Tryz.prog X (Instr.indexAt 23 x79 x81) w fun x82 =>
 RDX Tryz.prog X (Instr.loadAt 3 x82) w fun x83 =>
 (fun w_ => OP Tryz.prog (Instr.buildSlice 23 1 #[(0, x83)]) w_ fun x84 w =>
 ExtX X w_ w ∧
 ((fun w_ => OP Tryz.prog (Builtin.append_ #[23, 23] 23 [x77, x84].toArray) w_ fun x85 w =>
 ExtX X w_ w ∧
 (RDX Tryz.prog X (Instr.indexAt 27 x71 a2) w fun x86 =>
 OPU Tryz.prog (Instr.storeAt 23 x86 x85) w fun w =>
 RD Tryz.prog (Instr.loadAt 37 x7) w fun x87 =>
 OPU Tryz.prog (Instr.storeAt 37 x6 x87) w fun w =>
 RD Tryz.prog (loadRes 37 x6) w fun r6 => R r6 w)) w)) w) (World.drew1 w))
 (RD Tryz.prog (bin .eql 3 (.tmp 0) (.const undef) x37 (Value.int .i64 5)) w fun x89 =>
 BR x89
 (RD Tryz.prog (Instr.fieldAt 37 x7 2) w fun x90 =>
 RD Tryz.prog (Instr.loadAt 27 x90) w fun x91 =>
 RD Tryz.prog (Builtin.len_ #[27] 3 [x91].toArray) w fun x92 =>
 RD Tryz.prog (bin .lss 3 (.tmp 0) (.const undef) x92 (Value.int .i64 6)) w fun x93 =>
 BR x93
 ((fun w => RD Tryz.prog (Instr.fieldAt 37 x7 2) w fun x94 =>
 RD Tryz.prog (Instr.loadAt 27 x94) w fun x95 =>
 RD Tryz.prog (Instr.fieldAt 35 x3 3) w fun x96 =>
 RD Tryz.prog (Instr.loadAt 23 x96) w fun x97 =>
 RD Tryz.prog (Instr.fieldAt 136 x10 1) w fun x98 =>
 RD Tryz.prog (Instr.loadAt 3 x98) w fun x99 =>
 RD Tryz.prog (Instr.indexAt 23 x97 x99) w fun x100 =>
 RD Tryz.prog (Instr.loadAt 3 x100) w fun x101 =>
 (fun w_ => OP Tryz.prog (Instr.buildSlice 23 1 #[(0, x101)]) w_ fun x102 w =>
 Ext w_ w ∧
 ((fun w_ => OP Tryz.prog (Instr.buildSlice 27 1 #[(0, x102)]) w_ fun x103 w =>
 Ext w_ w ∧
 (OP Tryz.prog (Builtin.append_ #[27, 27] 27 [x95, x103].toArray) w fun x104 w =>
 RD Tryz.prog (Instr.fieldAt 37 x7 2) w fun x105 =>
 OPU Tryz.prog (Instr.storeAt 27 x105 x104) w fun w =>
 J30 [x35] w)) w)) w) (World.drew1 w))
 (J30 [x35] w))
 (RD Tryz.prog (bin .eql 3 (.tmp 0) (.const undef) x37 (Value.int .i64 6)) w fun x107 =>
 BR x107
 (RD Tryz.prog (Instr.fieldAt 37 x7 1) w fun x108 =>
 RD Tryz.prog (Instr.loadAt 23 x108) w fun x109 =>
 RD Tryz.prog (Instr.fieldAt 136 x10 1) w fun x110 =>
 RD Tryz.prog (Instr.loadAt 3 x110) w fun x111 =>
 RD Tryz.prog (Instr.indexAt 23 x109 x111) w fun x113 =>
 OPU Tryz.prog (Instr.storeAt 3 x113 a2) w fun w =>
 J30 [x35] w)
 (RD Tryz.prog (bin .eql 3 (.tmp 0) (.const undef) x37 (Value.int .i64 7)) w fun x115 =>
 BR x115
 (RD Tryz.prog (Instr.fieldAt 37 x7 1) w fun x116 =>
 RD Tryz.prog (Instr.loadAt 23 x116) w fun x117 =>
 RD Tryz.prog (Instr.fieldAt 136 x10 1) w fun x118 =>
 RD Tryz.prog (Instr.loadAt 3 x118) w fun x119 =>
 RD Tryz.prog (Instr.indexAt 23 x117 x119) w fun x120 =>
 RD Tryz.prog (Instr.loadAt 3 x120) w fun x121 =>
 RD Tryz.prog (bin .eql 3 (.tmp 0) (.tmp 0) x121 a2) w fun x123 =>
 BR x123
 (RD Tryz.prog (Instr.fieldAt 37 x7 1) w fun x124 =>
 RD Tryz.prog (Instr.loadAt 23 x124) w fun x125 =>
 RD Tryz.prog (Instr.fieldAt 136 x10 1) w fun x126 =>
 RD Tryz.prog (Instr.loadAt 3 x126) w fun x127 =>
 RD Tryz.prog (Instr.indexAt 23 x125 x127) w fun x128 =>
 OPU Tryz.prog (Instr.storeAt 3 x128 (Value.int .i64 (-1))) w fun w =>
 J30 [x35] w)
 (J30 [x35] w))
 (RD Tryz.prog (bin .eql 3 (.tmp 0) (.const undef) x37 (Value.int .i64 9)) w fun x130 =>
 BR x130
 ((fun w => RD Tryz.prog (Instr.fieldAt 37 x7 2) w fun x131 =>
 RD Tryz.prog (Instr.loadAt 27 x131) w fun x132 =>
 RD Tryz.prog (Instr.fieldAt 37 x7 2) w fun x134 =>
 RD Tryz.prog (Instr.loadAt 27 x134) w fun x135 =>
 RD Tryz.prog (Instr.indexAt 27 x135 a2) w fun x137 =>
 RD Tryz.prog (Instr.loadAt 23 x137) w fun x138 =>
 RD Tryz.prog (Instr.sliceAt 23 x138 none (some x20) none) w fun x140 =>
 RD Tryz.prog (Instr.indexAt 27 x132 a2) w fun x141 =>
 OPU Tryz.prog (Instr.storeAt 23 x141 x140) w fun w =>
 RD Tryz.prog (bin .gtr 3 (.tmp 0) (.const undef) x20 (Value.int .i64 0)) w fun x143 =>
 BR x143
 (RD Tryz.prog (Instr.fieldAt 37 x7 2) w fun x144 =>
 RD Tryz.prog (Instr.loadAt 27 x144) w fun x145 =>
 RD Tryz.prog (Instr.indexAt 27 x145 a2) w fun x147 =>
 RD Tryz.prog (Instr.loadAt 23 x147) w fun x148 =>
 RD Tryz.prog (bin .sub 3 (.tmp 0) (.const undef) x20 (Value.int .i64 1)) w fun x150 =>
 RD Tryz.prog (Instr.indexAt 23 x148 x150) w fun x151 =>
 RD Tryz.prog (Instr.loadAt 3 x151) w fun x152 =>
 RD Tryz.prog (bin .add 3 (.tmp 0) (.const undef) x152 (Value.int .i64 1)) w fun x153 =>
 RD Tryz.prog (Instr.indexAt 23 x148 x150) w fun x154 =>
 OPU Tryz.prog (Instr.storeAt 3 x154 x153) w fun w =>
 RD Tryz.prog (Instr.loadAt 37 x7) w fun x155 =>
 OPU Tryz.prog (Instr.storeAt 37 x6 x155) w fun w =>
 RD Tryz.prog (loadRes 37 x6) w fun r6 => R r6 w)
 (RD Tryz.prog (Instr.loadAt 37 x7) w fun x155 =>
 OPU Tryz.prog (Instr.storeAt 37 x6 x155) w fun w =>
 RD Tryz.prog (loadRes 37 x6) w fun r6 => R r6 w)) (World.drew1 w))
 (J30 [x35] w))))))))) (fun u30 w =>
 RD Tryz.prog (Instr.fieldAt 37 x7 2) w fun x156 =>
 RD Tryz.prog (Instr.loadAt 27 x156) w fun x157 =>
 RD Tryz.prog (Instr.indexAt 27 x157 a2) w fun x159 =>
 RD Tryz.prog (Instr.loadAt 23 x159) w fun x160 =>
 RD Tryz.prog (Instr.indexAt 23 x160 x20) w fun x163 =>
 OPU Tryz.prog (Instr.storeAt 3 x163 (u30 11)) w fun w =>
 RD Tryz.prog (Instr.loadAt 37 x7) w fun x164 =>
 OPU Tryz.prog (Instr.storeAt 37 x6 x164) w fun w =>
 RD Tryz.prog (loadRes 37 x6) w fun r6 => R r6 w)
def cfg217 : Cfg := { ext := extL, joins := [(30, 91343852333181432387730302044767688659776309248, [11])], loops := [], draws := [(8, [0, 1, 2, 3, 4, 5, 6, 7, 8, 9, 10, 11, 12], 1024), (15, [0, 1, 2, 3, 4, 5, 6, 7, 8, 9, 10, 11, 12, 13, 14, 15, 16, 17], 49152), (19, [0, 1, 2, 3, 4, 5, 6, 7, 8, 9, 10, 11, 12], 768), (26, [0, 1, 2, 3, 4, 5, 6, 7, 8, 9, 10, 11], 0)], pars := [], xs := [15] }
theorem F217_eq (a0 a1 a2 : Value) (w : World) (R : Value → World → Prop) : vcF Tryz.prog cfg217 Tryz.f217 [a0, a1, a2] w R = F217 a0 a1 a2 w R := by kernel_rfl
theorem F217_call {a0 a1 a2 : Value} {w : World} {R : Value → World → Prop} (h : F217 a0 a1 a2 w R) : CALL Tryz.prog 217 [a0, a1, a2] w R :=
  call_of (g := cfg217) ent mixed Tryz.func217 (Nat.le_of_ble_eq_true (by kernel_rfl)) (by kernel_rfl) (F217_eq a0 a1 a2 w R ▸ h)
set_option linter.unusedVariables false
set_option linter.unusedSimpArgs false
theorem rd_cutT {P : Program} {w : World} {t e : TypeId} {by_ : Nat} {u : Value} {l : List Int} {G : List Nat} {k : Nat} {K : Value → Prop} (ht : P.underlying t = some (.slice e)) (he : tyI P e = some (1, by_, false)) (hm : Mine G w u l) (hk : k ≤ l.length) (hne : l ≠ [])
    (kk : ∀ b a cap v G', u = .slice (some ⟨b, a, none⟩) l.length cap → Mine G' w v (l.take k) → (∀ c ∈ G', c ∈ G) → (0 < k → v = .slice (some ⟨b, a, none⟩) k cap) → K v) : RD P (Instr.sliceAt t u none (some (.int .i64 (k : Int))) none) w K := by
  obtain ⟨⟨cs, ⟨a, cap, Fi, xs, rfl, h1, h2, hc, h4⟩, rfl⟩, hn, hw⟩ := hm
  rcases h4 with ⟨h4, _⟩ | ⟨b, o, rfl, rfl, hr, hb⟩
  · exact absurd h4 hne
  have hFi := Cells.flat (xs := xs) hc
  subst hFi
  have hbd : ∀ w', (Instr.sliceBounds true l.length cap none (some (.int .i64 (k : Int))) none).run P w' = .ok (0, k, cap) w' := fun w' => by
    have h5 : (k : Int) ≤ (cap : Int) := by omega
    simp [Instr.sliceBounds, Instr.sliceBound, asIntOf, h5]
    intro h6
    omega
  have e0 : l = l.take k ++ l.drop k := by simp
  have hc' := hc
  rw [e0] at hc'
  obtain ⟨F1, F2, x1, x2, hFF, rfl, c1, c2⟩ := Cells.split hc'
  obtain ⟨rfl, rfl⟩ := List.append_eq_nil_iff.1 hFF.symm
  have hlk : (l.take k).length = k := by simp; omega
  have hval : ∃ v : Value, (∀ w', (Instr.sliceAt t (.slice (some ⟨b, o, none⟩) l.length cap) none (some (.int .i64 (k : Int))) none).run P w' = .ok v w') ∧ v = .slice (some ⟨b, o, none⟩) k cap := by
    refine ⟨_, fun w' => ?_, rfl⟩
    simp only [Instr.sliceAt, Instr.slice, Sem.run_bind, run_underlying ht, Result.andThen_ok, hbd, run_sizeOf' he]
    simp [Addr.add_mid]
  obtain ⟨v, hrun, rfl⟩ := hval
  refine rd_of (fun w' _ => hrun w') ?_
  by_cases h0 : k = 0
  · subst h0
    refine kk b o cap _ [] rfl ?_ (by simp) (fun h => by omega)
    have : l.take 0 = [] := by simp
    rw [this]
    exact ⟨⟨_, ⟨some ⟨b, o, none⟩, cap, [], [], rfl, Nat.zero_le _, h2, ⟨rfl, rfl⟩, .inl ⟨rfl, rfl⟩⟩, rfl⟩, List.nodup_nil, Wr.nil w⟩
  · refine kk b o cap _ [b] rfl ?_ (by simp) (fun _ => rfl)
    refine ⟨⟨_, ⟨some ⟨b, o, none⟩, cap, [], x1, rfl, by rw [hlk]; omega, h2, c1, .inr ⟨b, o, rfl, rfl, (rangeAt_append hr).1, hb⟩⟩, by rw [hlk]; rfl⟩, by simp, hw.sub (by simp)⟩
theorem l21Step_ok {w W0 W1 : World} {v0 v1 : Value} {c : DCode} {s : DState} {t : Int} (h0 : Is W0 v0 c) (e0 : Ext W0 w) (h1 : Is W1 v1 s) (e1 : Ext W1 w) (hc : CodeR c) (hs : StateR c s) (hgo : GoR c s t) :
    CALL Tryz.prog 217 [v0, v1, .int .i64 t] w fun r w' => Ext w w' ∧ Own w.heap.size w' r (stepD c s t) := by
  obtain ⟨tn, rfl, htn, hne, hl8, hat⟩ := go_facts hs hgo.1
  have hatlt := at_lt hs tn
  have hat0 : 0 ≤ atOf s tn := hgo.1
  have hpos := List.length_pos_iff.2 hne
  refine F217_call ?_
  unfold F217
  refine op_box h0 e0 fun w1 hx1 hA1 => ?_
  refine op_box h1 (e1.trans hx1) fun w2 hx2 hA2 => ?_
  refine op_alloc zlSt fun w3 hx3 hB3 => ?_
  have hg3 := hB3.lt
  have hs1 := hx1.size
  have hs2 := hx2.size
  refine rd_load ty37 hA2 hx3 fun v12 h12 => ?_
  refine (l21Copy_ok h12 hx3 (stSz_of hc hs)).mono ?_
  rintro r13 w4 ⟨hx4, z, o13, hz⟩
  have hs4 := hx4.size
  refine op_varZ (α := DStV) zlSt fun w5 hx5 hv5 => ?_
  have hs5 := hx5.size
  have hg5 := hv5.lt
  refine opu_varA ty37 hv5 (o13.ext hx5) (by omega) fun w6 hc6 hv6 => ?_
  have hs6 := hc6.size
  have hx36 : Ext w3 w6 := Ext.chgI (hx4.trans hx5) hc6 (by omega)
  have hzl : z.stacks.l.map RV.l = s.stacks := congrArg DState.stacks hz
  have hzn : tn < z.stacks.l.length := by have := congrArg List.length hzl; simp at this; omega
  refine rd_fld fd37_2 ?_
  refine rd_load (α := RIntss) ty27 (at_DStV_2 hv6.at) (Ext.refl w6) fun v15 k15 => ?_
  obtain ⟨rfl, h15⟩ := is_rv k15
  refine rd_indexN (α := RInts) u27 ty23 h15 hzn fun b17 o17 hA17 => ?_
  refine rd_load (α := RInts) ty23 hA17 (Ext.refl w6) fun v18 k18 => ?_
  obtain ⟨rfl, h18⟩ := is_rv k18
  obtain ⟨x, hx⟩ : ∃ x, x = z.stacks.l[tn] := ⟨_, rfl⟩
  have hxl : x.l = stk s tn := by
    have e1 : (z.stacks.l.map RV.l)[tn]? = s.stacks[tn]? := by rw [hzl]
    rw [List.getElem?_map, List.getElem?_eq_getElem hzn, List.getElem?_eq_getElem htn] at e1
    have e2 := Option.some.inj e1
    rw [hx, e2]
    exact stk_get (t := (tn : Int)) (by simpa using htn)
  rw [← hx] at h18 ⊢
  refine rd_len u23 h18 ?_
  refine rd_sub (by unfold I64; rw [hxl]; omega) ?_
  obtain ⟨top, htop⟩ : ∃ top : Nat, (x.l.length : Int) - 1 = top := ⟨x.l.length - 1, by rw [hxl]; omega⟩
  have htl : top < x.l.length := by omega
  rw [htop]
  have hx7 := Ext.refl w6
  have hs7 := hx7.size
  have hx16 : Ext w1 w6 := hx2.trans (hx3.trans hx36)
  have hx26 : Ext w2 w6 := hx3.trans hx36
  refine rd_fld fd37_2 ?_
  refine rd_loadV ty27 (at_DStV_2 hv6.at) (Ext.refl w6) ?_
  refine rd_indexN (α := RInts) u27 ty23 h15 hzn fun b24 o24 hA24 => ?_
  rw [← hx] at hA24
  refine rd_loadV ty23 hA24 (Ext.refl w6) ?_
  refine rd_indexN u23 ty3 h18 htl fun b26 o26 hA26 => ?_
  have hget : x.l[top] = atOf s tn := by
    rw [st_get, hat, hxl]
    congr 1
    rw [hxl] at htop; omega
  rw [hget] at hA26
  refine rd_loadI ty3 hA26 hx7 fun hI27 => ?_
  refine rd_fld fd35_4 ?_
  refine rd_load ty33 (at_DCode_4 hA1) hx16 fun v23 h23 => ?_
  refine rd_index u33 ty136 h23 hgo.1 (by omega) fun b28 o28 hA28 => ?_
  rw [insAt_get] at hA28
  refine rd_load ty136 hA28 hx16 fun v29 h29 => ?_
  refine op_var zl136 rfl ty136 rfl h29 hx16 fun w8 hx8 hA10 hV10 => ?_
  have hs8 := hx8.size
  have hins := hc.f.ins
  refine rd_add (by unfold I64; omega) ?_
  have hR := atI_right hc hs hgo.1
  obtain ⟨I, hI⟩ : ∃ I, I = atI c s tn := ⟨_, rfl⟩
  have hA10 : At w8 w6.heap.size 0 I := by rw [hI]; exact hA10
  have hx68 := hx7.trans hx8
  have hv8 : VarI w3.heap.size w8.heap.size w8 w4.heap.size z := (hv6.ext hx68).mono (Nat.le_refl _) (by omega)
  have hx38 : Ext w3 w8 := hx36.trans hx68
  have hres : ∀ (zz : DState) (w9 : World), Ext w3 w9 → VarI w3.heap.size w9.heap.size w9 w4.heap.size zz → zz = stepD c s tn →
      RD Tryz.prog (Instr.loadAt 37 (.pointer (some ⟨w4.heap.size, 0, none⟩))) w9 fun x148 => OPU Tryz.prog (Instr.storeAt 37 (.pointer (some ⟨w2.heap.size, 0, none⟩)) x148) w9 fun w' =>
        RD Tryz.prog (loadRes 37 (.pointer (some ⟨w2.heap.size, 0, none⟩))) w' fun r6 => Ext w w' ∧ Own w.heap.size w' r6 (stepD c s tn) := by
    intro zz w9 hx9 hv9 he
    have hs9 := hx9.size
    refine rd_varI ty37 hv9 (Ext.refl w9) fun v148 o148 => ?_
    obtain ⟨a, b, c', rfl⟩ := agg3S o148
    refine opu_blkS (α := DState) ty37 rfl (hB3.ext hx9) rfl o148 fun w10 hc10 hB10 => ?_
    refine rd_blkR hB10 ty37 ?_
    refine ⟨Ext.chgI (hx1.trans (hx2.trans (hx3.trans hx9))) hc10 (by omega), ?_⟩
    have := o148.chg hc10 (by omega)
    rw [he] at this
    exact this.own.mono (by omega)
  refine JOIN.mk (fun us w' => us = [.int .i64 (nextOf c s tn)] ∧ Ext w3 w' ∧ ∃ z' : DStV, VarI w3.heap.size w'.heap.size w' w4.heap.size z' ∧ z'.vars = (restOf c s tn).vars ∧ z'.owner = (restOf c s tn).owner ∧ z'.stacks.l.map RV.l = (restOf c s tn).stacks ∧ z'.stacks.l[tn]? = some x ∧ (I.op ≠ 4 ∧ I.op ≠ 9)) ?_ ?_
  · refine rd_fld fd136_0 ?_
    refine rd_loadI ty3 (at_DIns_0 hA10) (Ext.refl w8) fun _ => ?_
    have hzv : z.vars = s.vars := congrArg DState.vars hz
    have hzo : z.owner = s.owner := congrArg DState.owner hz
    have hzx : z.stacks.l[tn]? = some x := by rw [List.getElem?_eq_getElem hzn, hx]
    have same : ∀ w9, Ext w8 w9 → (I.op ≠ 1 ∧ I.op ≠ 4 ∧ I.op ≠ 5 ∧ I.op ≠ 6 ∧ I.op ≠ 7 ∧ I.op ≠ 9) → ∃ z' : DStV, VarI w3.heap.size w9.heap.size w9 w4.heap.size z' ∧ z'.vars = (restOf c s tn).vars ∧ z'.owner = (restOf c s tn).owner ∧ z'.stacks.l.map RV.l = (restOf c s tn).stacks ∧ z'.stacks.l[tn]? = some x ∧ (I.op ≠ 4 ∧ I.op ≠ 9) := by
      rintro w9 hx9 ⟨q1, q4, q5, q6, q7, q9⟩
      have he : restOf c s tn = s := by unfold restOf; rw [← hI, if_neg q1, if_neg q5, if_neg q6, if_neg q7]
      rw [he]
      exact ⟨z, (hv8.ext hx9).mono (Nat.le_refl _) hx9.size, hzv, hzo, hzl, hzx, q4, q9⟩
    have hnext : I.op ≠ 2 → I.op ≠ 3 → nextOf c s tn = atOf s tn + 1 := fun q2 q3 => by unfold nextOf; rw [← hI, if_neg q2, if_neg q3]
    refine rd_eql ?_
    refine br (fun q1 => ?_) (fun q1 => ?_)
    · have hx9 := ext_drew w8
      have hs9 := hx9.size
      have hg8 := hv8.lt
      obtain ⟨har0, har1⟩ := set_arg hc hs hat0 (hI ▸ q1)
      rw [← hI] at har0 har1
      obtain ⟨ar, har⟩ : ∃ ar : Nat, I.arg = ar := ⟨I.arg.toNat, by omega⟩
      have har2 : ar < z.vars.length := by rw [hzv]; omega
      obtain ⟨u, b, a, cap, hr, hIs, hu, hst⟩ := var_vars (hv8.ext hx9) (by omega) har2
      refine rd_fld fd37_0 ?_
      refine rd_cell ty23 hr ?_
      refine rd_fld fd136_1 ?_
      refine rd_loadI ty3 (at_DIns_1 hA10) hx9 fun _ => ?_
      refine rd_fld fd136_2 ?_
      refine rd_load ty134 (at_DIns_2 hA10) hx9 fun v54 h54 => ?_
      refine rd_fld fd35_0 ?_
      refine rd_load ty22 (at_DCode_0 hA1) (hx16.trans (hx68.trans hx9)) fun v56 h56 => ?_
      refine rd_fld fd37_0 ?_
      refine rd_load ty23 (at_DState_0 hA2) (hx26.trans (hx68.trans hx9)) fun v58 h58 => ?_
      have hok : termOk 6 I.term = true := by
        have := hR.2.2.1
        rw [← hI, if_pos (.inl q1)] at this
        exact this.1
      refine (specWorked_ok h54 hx9 h56 (hx16.trans (hx68.trans hx9)) h58 (hx26.trans (hx68.trans hx9)) hok).mono ?_
      rintro _ w10 ⟨hx10, rfl⟩
      refine ⟨hx10, ?_⟩
      have hs10 := hx10.size
      rw [har]
      refine rd_idxU u23 ty3 hu har2 ?_
      have hwr := workT_range c.globals s.vars 6 I.term
      refine hst w10 hx10 _ (by unfold I64; omega) _ fun w11 hc11 hv11 => ?_
      have hs11 := hc11.size
      have hrest : restOf c s tn = ⟨s.vars.set I.arg.toNat (workT c.globals s.vars 6 I.term), s.owner, s.stacks⟩ := by unfold restOf; rw [← hI, if_pos q1]
      refine ⟨by rw [hnext (by omega) (by omega)], Ext.chgI ((hx38.trans hx9).trans hx10) hc11 (by omega), _, hv11.mono (Nat.le_refl _) (by omega), ?_, ?_, ?_, hzx, by omega, by omega⟩
      · rw [hrest, hzv, har]; rfl
      · rw [hrest]; exact hzo
      · rw [hrest]; exact hzl
    refine rd_eql ?_
    refine br (fun q2 => ?_) (fun q2 => ?_)
    · refine rd_fld fd136_2 ?_
      refine rd_load ty134 (at_DIns_2 hA10) (Ext.refl w8) fun v54 h54 => ?_
      refine rd_fld fd35_0 ?_
      refine rd_load ty22 (at_DCode_0 hA1) (hx16.trans hx68) fun v56 h56 => ?_
      refine rd_fld fd37_0 ?_
      refine rd_load ty23 (at_DState_0 hA2) (hx26.trans hx68) fun v58 h58 => ?_
      have hok : termOk 6 I.term = true := by
        have := hR.2.2.1
        rw [← hI, if_pos (.inr q2)] at this
        exact this.1
      refine (specWorked_ok h54 (Ext.refl w8) h56 (hx16.trans hx68) h58 (hx26.trans hx68) hok).mono ?_
      rintro _ w9 ⟨hx9, rfl⟩
      refine rd_eql ?_
      refine br (fun q => ?_) (fun q => ?_)
      · refine rd_fld fd136_3 ?_
        refine rd_loadI ty3 (at_DIns_3 hA10) hx9 fun _ => ?_
        exact ⟨by unfold nextOf; rw [← hI, if_pos q2, if_pos q], hx38.trans hx9, same w9 hx9 (by omega)⟩
      · exact ⟨by unfold nextOf; rw [← hI, if_pos q2, if_neg q], hx38.trans hx9, same w9 hx9 (by omega)⟩
    refine rd_eql ?_
    refine br (fun q3 => ?_) (fun q3 => ?_)
    · refine rd_fld fd136_3 ?_
      refine rd_loadI ty3 (at_DIns_3 hA10) (Ext.refl w8) fun _ => ?_
      exact ⟨by unfold nextOf; rw [← hI, if_neg q2, if_pos q3], hx38, same w8 (Ext.refl w8) (by omega)⟩
    have hn := hnext q2 q3
    refine rd_eql ?_
    refine br (fun q4 => ?_) (fun q4 => ?_)
    · have hx9 := ext_drew w8
      have hs9 := hx9.size
      have hg8 := hv8.lt
      obtain ⟨har0, har1⟩ := proc_arg hc hs hat0 (.inl (hI ▸ q4))
      rw [← hI] at har0 har1
      obtain ⟨ar, har⟩ : ∃ ar : Nat, I.arg = ar := ⟨I.arg.toNat, by omega⟩
      obtain ⟨F, hO, hF⟩ := hv6.ext (hx68.trans hx9)
      have hlt := hO.lts
      obtain ⟨G1, hL1⟩ := lens_DStV_2 (Lens.var hO)
      obtain ⟨b2, a2, cap2, G2, hv2, hG21, hL2⟩ := hL1.elemV hzn
      rw [← hx] at hL2
      obtain ⟨cs1, ⟨rfl, _⟩, hr1, _, _, hg1, _⟩ := hL1.here
      obtain ⟨cs, ⟨rfl, hrow⟩, hr2, hnG, _, hb2, _⟩ := hL2.here
      have hG2F : ∀ c ∈ G2, c ∈ F := fun c hcm => by
        rcases List.mem_cons.1 (hL2.sub c (by simp [hcm])) with rfl | h
        · exact absurd (hG21 _ (by simp [hcm])) hg1
        · exact h
      have hGb : ∀ c ∈ G2, w3.heap.size ≤ c ∧ c < w4.heap.size := fun c hcm => hF c (hG2F c hcm)
      have hX3 : ∀ c, c ∈ G2 → w3.heap.size ≤ c := fun c hcm => (hGb c hcm).1
      have hx39 := hx38.trans hx9
      refine XR.mk (fun c => c ∈ G2) ?_
      refine rdx_fld fd37_2 ?_
      refine rdx_cell ty27 hr1 (fun h => by have := hGb _ h; omega) ?_
      refine rdx_fld fd37_2 ?_
      refine rdx_cell ty27 hr1 (fun h => by have := hGb _ h; omega) ?_
      refine rdx_of_rd (w0 := w3) hX3 hx39 ?_
      refine rd_idxU u27 ty23 hv2 hzn ?_
      refine rdx_cell ty23 hr2 hb2 ?_
      refine rdx_fld fd35_3 ?_
      refine rdx_of_rd (w0 := w3) hX3 hx39 ?_
      refine rd_load ty23 (at_DCode_3 hA1) (hx2.trans hx3) fun v74 h74 => ?_
      refine rdx_fld fd136_1 ?_
      refine rdx_cell ty3 (rangeAt_ext (at_cell (at_DIns_1 hA10)) hx9) (fun h => by have := hGb _ h; omega) ?_
      rw [har]
      refine rdx_of_rd (w0 := w3) hX3 hx39 ?_
      refine rd_indexN u23 ty3 h74 (by omega) fun b77 o77 hA77 => ?_
      rw [en_get] at hA77
      refine rdx_of_rd (w0 := w3) hX3 hx39 ?_
      refine rd_loadI ty3 hA77 (hx2.trans hx3) fun hI78 => ?_
      refine op_pushB (β := Int) (G := G2) u23 ty3 z3 zc3 (by decide) hrow hnG (mine_int hI78) (by simp) (by rw [maxLen_eq, hxl]; omega) (by rw [hxl]; omega) (fun w10 v80 w11 G' hx10 hc11 hR11 hN11 hs11 => ?_) fun sv w10 hx10 hop => ⟨hx10.toX, hop⟩
      refine ⟨hc11.toX (fun c h => h), ?_⟩
      have hs10 := hx10.size
      have hs11' := hc11.size
      have hc911 : Chg G2 (World.drew1 w8) w11 := (hx10.chg G2).trans hc11
      have hx311 : Ext w3 w11 := Ext.chgI hx39 (hc911.toI (lo := w3.heap.size) (hi := w4.heap.size) hGb) (Nat.le_refl _)
      refine rdx_of_rd (w0 := w3) hX3 hx311 ?_
      refine rd_idxU u27 ty23 hv2 hzn ?_
      refine opu_pushed ty23 hL2 hlt hc911 hR11 hN11 (fun c hcm => ?_) fun w12 hc12 ⟨F', hO', hF'⟩ => ?_
      · rcases hs11 c hcm with h | h | h
        · exact .inl h
        · simp at h
        · exact .inr h
      have hs12 := hc12.size
      have hcI : ChgI w3.heap.size w8.heap.size (World.drew1 w8) w12 := hc12.toI fun c hcm => by
        have := hL2.sub c hcm
        rcases List.mem_cons.1 this with rfl | h
        · exact ⟨by omega, hg8⟩
        · have := hF c h; omega
      refine hres _ w12 (Ext.chgI hx39 hcI (Nat.le_refl _)) (varI_er ⟨F', hO', fun c hcm => ?_⟩) ?_
      · have h1 := hO'.lts c (by simp [hcm])
        rcases hF' c hcm with h | h
        · rcases List.mem_cons.1 h with rfl | h
          · obtain ⟨_, _, _, _, _, hnn, _⟩ := hO'; exact absurd hcm hnn
          · have := hF c h; omega
        · omega
      · unfold stepD DStV.er
        have e1 : ((tn : Int)).toNat = tn := by omega
        rw [← hI, if_pos q4]
        simp only [DState.mk.injEq, hzv, hzo, true_and]
        rw [List.map_set, hzl, hxl, e1, har, Int.toNat_natCast]
    refine rd_eql ?_
    refine br (fun q5 => ?_) (fun q5 => ?_)
    · have hg8 := hv8.lt
      obtain ⟨har0, har1⟩ := proc_arg hc hs hat0 (.inr (hI ▸ q5))
      rw [← hI] at har0 har1
      obtain ⟨ar, har⟩ : ∃ ar : Nat, I.arg = ar := ⟨I.arg.toNat, by omega⟩
      have hzlen : z.stacks.l.length = s.stacks.length := by have := congrArg List.length hzl; simpa using this
      refine rd_fld fd37_2 ?_
      refine rd_load (α := RIntss) ty27 (at_DStV_2 hv8.at) (Ext.refl w8) fun v86 k86 => ?_
      obtain ⟨rfl, h86⟩ := is_rv k86
      refine rd_len u27 h86 ?_
      rw [hzlen]
      refine rd_lss ?_
      refine br (fun qq => ?_) (fun qq => ?_)
      · have hx9 := ext_drew w8
        have hs9 := hx9.size
        obtain ⟨F, hO, hF⟩ := hv8.ext hx9
        have hlt := hO.lts
        obtain ⟨G1, hL1⟩ := lens_DStV_2 (Lens.var hO)
        refine rd_fld fd37_2 ?_
        refine rd_loadV ty27 (at_DStV_2 hv8.at) hx9 ?_
        refine rd_fld fd35_3 ?_
        refine rd_load ty23 (at_DCode_3 hA1) (hx16.trans (hx68.trans hx9)) fun v92 h92 => ?_
        refine rd_fld fd136_1 ?_
        refine rd_loadI ty3 (at_DIns_1 hA10) hx9 fun _ => ?_
        rw [har]
        refine rd_indexN u23 ty3 h92 (by omega) fun b95 o95 hA95 => ?_
        rw [en_get] at hA95
        refine rd_loadI ty3 hA95 (hx16.trans (hx68.trans hx9)) fun hI96 => ?_
        refine op_build1R (β := Int) u23 ty3 z3 (by decide) (mine_int hI96) fun v97 w10 hx10 r97 => ?_
        refine ⟨hx10, ?_⟩
        have hs10 := hx10.size
        obtain ⟨GX, hMX, hGX⟩ := ownI_rv r97
        obtain ⟨cs, ⟨rfl, hrow⟩, _, hnG, _⟩ := hL1.here
        have hGlt : ∀ c ∈ G1, c < (World.drew1 w8).heap.size := fun c hcm => hlt c (hL1.sub c (by simp [hcm]))
        refine op_pushB (β := RInts) (G := G1) (w := w10) u27 ty23 z23 zc23 (by decide) (hrow.keep fun c hcm => hx10.heap (hGlt c hcm)) hnG hMX (fun c hcm hg => by have := hGX c hcm; have := hGlt c hg; omega) (by rw [maxLen_eq, hzlen]; omega) (by rw [hzlen]; omega) (fun w11 v99 w12 G' hx11 hc12' hR12 hN12 hs12 => ?_) fun sv w11 hx11 hop => ⟨hx11, hop⟩
        have hc12 : Chg G1 w10 w12 := (hx11.chg G1).trans hc12'
        refine rd_fld fd37_2 ?_
        refine opu_pushed ty27 hL1 hlt ((hx10.chg G1).trans hc12) hR12 hN12 (fun c hcm => ?_) fun w13 hc13 ⟨F', hO', hF'⟩ => ?_
        · rcases hs12 c hcm with h | h | h
          · exact .inl h
          · exact .inr (hGX c h).1
          · exact .inr (by omega)
        have hs13 := hc13.size
        have hcI : ChgI w3.heap.size w8.heap.size (World.drew1 w8) w13 := hc13.toI fun c hcm => by
          have := hL1.sub c hcm
          rcases List.mem_cons.1 this with rfl | h
          · exact ⟨by omega, hg8⟩
          · exact hF c h
        have hrest : restOf c s tn = ⟨s.vars, s.owner, s.stacks ++ [[en c I.arg.toNat]]⟩ := by unfold restOf; rw [← hI, if_neg q1, if_pos q5, if_pos (by omega)]
        refine ⟨by rw [hn], Ext.chgI (hx38.trans hx9) hcI (Nat.le_refl _), _, ⟨F', hO', fun c hcm => ?_⟩, ?_, ?_, ?_, ?_, by omega, by omega⟩
        · have h1 := hO'.lts c (by simp [hcm])
          rcases hF' c hcm with h | h
          · rcases List.mem_cons.1 h with rfl | h
            · obtain ⟨_, _, _, _, _, hnn, _⟩ := hO'; exact absurd hcm hnn
            · have := hF c h; omega
          · omega
        · rw [hrest]; exact hzv
        · rw [hrest]; exact hzo
        · rw [hrest]
          simp only [List.map_append, List.map_cons, List.map_nil, hzl, har, Int.toNat_natCast]
        · show (z.stacks.l ++ _)[tn]? = some x
          rw [List.getElem?_append_left hzn]; exact hzx
      · have hrest : restOf c s tn = s := by unfold restOf; rw [← hI, if_neg q1, if_pos q5, if_neg (by omega)]
        refine ⟨by rw [hn], hx38, z, hv8, ?_, ?_, ?_, hzx, by omega, by omega⟩
        · rw [hrest]; exact hzv
        · rw [hrest]; exact hzo
        · rw [hrest]; exact hzl
    refine rd_eql ?_
    refine br (fun q6 => ?_) (fun q6 => ?_)
    · have hg8 := hv8.lt
      obtain ⟨har0, har1⟩ := atI_lock hc hs hat0 (.inl (hI ▸ q6))
      rw [← hI] at har0 har1
      obtain ⟨ar, har⟩ : ∃ ar : Nat, I.arg = ar := ⟨I.arg.toNat, by omega⟩
      have har2 : ar < z.owner.length := by rw [hzo]; omega
      obtain ⟨u, b, a, cap, hr, hIs, hu, hst⟩ := var_owner hv8 (by omega) har2
      refine rd_fld fd37_1 ?_
      refine rd_cell ty23 hr ?_
      refine rd_fld fd136_1 ?_
      refine rd_loadI ty3 (at_DIns_1 hA10) (Ext.refl w8) fun _ => ?_
      rw [har]
      refine rd_idxU u23 ty3 hu har2 ?_
      have hmany := hs.2.2.1
      refine hst w8 (Ext.refl w8) _ (by unfold I64; omega) _ fun w11 hc11 hv11 => ?_
      have hs11 := hc11.size
      have hrest : restOf c s tn = ⟨s.vars, s.owner.set I.arg.toNat tn, s.stacks⟩ := by unfold restOf; rw [← hI, if_neg q1, if_neg q5, if_pos q6]
      refine ⟨by rw [hn], Ext.chgI hx38 hc11 (by omega), _, hv11.mono (Nat.le_refl _) (by omega), ?_, ?_, ?_, hzx, by omega, by omega⟩
      · rw [hrest]; exact hzv
      · rw [hrest, hzo, har]; rfl
      · rw [hrest]; exact hzl
    refine rd_eql ?_
    refine br (fun q7 => ?_) (fun q7 => ?_)
    · have hg8 := hv8.lt
      obtain ⟨har0, har1⟩ := atI_lock hc hs hat0 (.inr (hI ▸ q7))
      rw [← hI] at har0 har1
      obtain ⟨ar, har⟩ : ∃ ar : Nat, I.arg = ar := ⟨I.arg.toNat, by omega⟩
      have har2 : ar < z.owner.length := by rw [hzo]; omega
      obtain ⟨u, b, a, cap, hr, hIs, hu, hst⟩ := var_owner hv8 (by omega) har2
      refine rd_fld fd37_1 ?_
      refine rd_cell ty23 hr ?_
      refine rd_fld fd136_1 ?_
      refine rd_loadI ty3 (at_DIns_1 hA10) (Ext.refl w8) fun _ => ?_
      rw [har]
      refine rd_indexN u23 ty3 hIs har2 fun b115 o115 hA115 => ?_
      refine rd_loadI ty3 hA115 (Ext.refl w8) fun _ => ?_
      have how : z.owner[ar] = ow s I.arg := by
        have : ar < s.owner.length := by rw [← hzo]; exact har2
        rw [har, ← ow_get this]
        congr 1
      rw [how]
      refine rd_eql ?_
      refine br (fun qq => ?_) (fun qq => ?_)
      · refine rd_fld fd37_1 ?_
        refine rd_cell ty23 hr ?_
        refine rd_fld fd136_1 ?_
        refine rd_loadI ty3 (at_DIns_1 hA10) (Ext.refl w8) fun _ => ?_
        rw [har]
        refine rd_idxU u23 ty3 hu har2 ?_
        refine hst w8 (Ext.refl w8) _ (by unfold I64; omega) _ fun w11 hc11 hv11 => ?_
        have hs11 := hc11.size
        have hrest : restOf c s tn = ⟨s.vars, s.owner.set I.arg.toNat (-1), s.stacks⟩ := by unfold restOf; rw [← hI, if_neg q1, if_neg q5, if_neg q6, if_pos q7, if_pos qq]
        refine ⟨by rw [hn], Ext.chgI hx38 hc11 (by omega), _, hv11.mono (Nat.le_refl _) (by omega), ?_, ?_, ?_, hzx, by omega, by omega⟩
        · rw [hrest]; exact hzv
        · rw [hrest, hzo, har]; rfl
        · rw [hrest]; exact hzl
      · have hrest : restOf c s tn = s := by unfold restOf; rw [← hI, if_neg q1, if_neg q5, if_neg q6, if_pos q7, if_neg qq]
        refine ⟨by rw [hn], hx38, z, hv8, ?_, ?_, ?_, hzx, by omega, by omega⟩
        · rw [hrest]; exact hzv
        · rw [hrest]; exact hzo
        · rw [hrest]; exact hzl
    refine rd_eql ?_
    refine br (fun q9 => ?_) (fun q9 => ?_)
    · have hx9 := ext_drew w8
      have hs9 := hx9.size
      have hg8 := hv8.lt
      have hx39 := hx38.trans hx9
      obtain ⟨F, hO, hF⟩ := hv6.ext (hx68.trans hx9)
      have hlt := hO.lts
      obtain ⟨G1v, hL1v⟩ := lens_DStV_2 (Lens.var hO)
      obtain ⟨b2v, a2v, cap2v, G2v, hv2v, hG21v, hL2v⟩ := hL1v.elemV hzn
      rw [← hx] at hL2v
      obtain ⟨cs1, ⟨rfl, _⟩, hr1v, _, _, hg1v, _⟩ := hL1v.here
      obtain ⟨cs2, ⟨rfl, hrow2⟩, hr2v, _, _, _, hwb2⟩ := hL2v.here
      have hOs : OAt F (World.drew1 w8) w4.heap.size 0 s := by have := oat_er hO; rwa [hz] at this
      obtain ⟨G1, hL1⟩ := lens_DState_2 (Lens.var hOs)
      obtain ⟨_, _, _, _, _, hgG1, _⟩ := hL1.here
      obtain ⟨u1, b2, a2, cap2, G2, hr1, hIs1, hu1, hL2⟩ := hL1.elem htn
      have hu : u1 = z.stacks.v := rangeAt_inj hr1 hr1v
      refine rd_fld fd37_2 ?_
      refine rd_cell ty27 hr1 ?_
      refine rd_fld fd37_2 ?_
      refine rd_cell ty27 hr1 ?_
      refine rd_idxU u27 ty23 hu1 htn ?_
      have hbb : b2 = b2v ∧ a2 = a2v := by
        rw [hu, hv2v] at hu1
        simp only [Value.slice.injEq, Option.some.injEq, Addr.mk.injEq] at hu1
        exact ⟨hu1.1.1.symm, hu1.1.2.1.symm⟩
      obtain ⟨rfl, rfl⟩ := hbb
      obtain ⟨ux, hMx, hrx, hGx, _⟩ := hL2.row
      obtain ⟨_, _, _, _, _, hb2G2, _⟩ := hL2.here
      have hux : ux = x.v := rangeAt_inj hrx hr2v
      have hsl : s.stacks[tn] = x.l := by rw [hxl]; exact stk_get (t := (tn : Int)) (by simpa using htn)
      rw [hux, hsl] at hMx
      refine rd_cell ty23 hr2v ?_
      refine rd_cutT u23 ty3 hMx (by omega) (by rw [hxl]; exact hne) fun bx ax capx v132 G' hxv hM' hG' hv' => ?_
      refine rd_idxU u27 ty23 hu1 htn ?_
      have hb2G' : b2 ∉ G' := fun h => hb2G2 (hG' _ h)
      have hb2g : b2 ≠ w4.heap.size := fun e => hg1v (e ▸ hG21v b2 (by simp))
      have hrep' := mine_cell rfl hM'.own
      have hone' : v132.oneCell' = true := Rep.one hrep' v132 (by simp)
      refine opu_cell ty23 hwb2 hr2v hrow2.one hone' fun w10 hch hr10 => ?_
      have hkeep' : ∀ c ∈ G', w10.heap[c]? = (World.drew1 w8).heap[c]? := fun c hcm => hch.chg.block c (hM'.lt c hcm) (by simp; exact fun e => hb2G' (e ▸ hcm))
      obtain ⟨cb, eb, hcb⟩ := hwb2
      obtain ⟨cb', hcb', _⟩ := hch.cell cb eb hcb
      have hOy : OAt G' w10 b2 (a2 + tn * Rep.size (List Int)) (x.l.take top) := ⟨[v132], Rep.keep hrep' hkeep', hr10, hM'.nodup, hM'.wr.keep hkeep', hb2G', cb', eb, hcb'⟩
      have hg10 : w10.heap[w4.heap.size]? = (World.drew1 w8).heap[w4.heap.size]? := hch.chg.block _ (hlt _ (by simp)) (by simp; exact fun e => hb2g e.symm)
      obtain ⟨F', hO', hF'⟩ := hL2.back w10 G' (x.l.take top) (hch.mono (Nat.le_refl _) (Nat.le_refl _) (by simp)) hOy (fun c hcm => .inl (hG' c hcm))
      have hs10 := hch.chg.size
      have hFb : ∀ c ∈ F', w3.heap.size ≤ c ∧ c < w4.heap.size := fun c hcm => by
        have hin : c ∈ w4.heap.size :: F := by
          rcases hF' c hcm with h | h
          · exact h
          · exact hGx c (hG' c h)
        rcases List.mem_cons.1 hin with rfl | h
        · obtain ⟨_, _, _, _, _, hnn, _⟩ := hO'; exact absurd hcm hnn
        · exact hF c h
      have hb2F : b2 ∈ w4.heap.size :: F := hL2.sub b2 (by simp)
      have hcI : ChgI w3.heap.size w8.heap.size (World.drew1 w8) w10 := hch.chg.toI fun c hcm => by
        simp only [List.mem_cons, List.not_mem_nil, or_false] at hcm
        subst hcm
        rcases List.mem_cons.1 hb2F with h | h
        · rw [h]; exact ⟨by omega, hg8⟩
        · have := hF _ h; omega
      have hx310 : Ext w3 w10 := Ext.chgI hx39 hcI (Nat.le_refl _)
      have e1 : ((tn : Int)).toNat = tn := by omega
      have hlen : x.l.length = top + 1 := by omega
      have htop8 : top < 8 := by have h := htl; rw [hxl] at h; omega
      refine rd_gtr ?_
      refine br (fun hp => ?_) (fun hp => ?_)
      · refine rd_fld fd37_2 ?_
        refine rd_cell ty27 (rangeAt_keep hr1 hg10) ?_
        refine rd_idxU u27 ty23 hu1 htn ?_
        refine rd_cell ty23 hr10 ?_
        refine rd_sub (by unfold I64; omega) ?_
        obtain ⟨tp, htp⟩ : ∃ tp : Nat, (top : Int) - 1 = tp := ⟨top - 1, by omega⟩
        rw [htp]
        obtain ⟨G1', hL1'⟩ := lens_DState_2 (Lens.var hO')
        have hk' : tn < (s.stacks.set tn (x.l.take top)).length := by simpa using htn
        obtain ⟨u1', b2', a2', cap2', G2', hr1', _, hu1', hL2'⟩ := hL1'.elem hk'
        have hu' : u1' = u1 := rangeAt_inj hr1' (rangeAt_keep hr1 hg10)
        have hbb' : b2' = b2 ∧ a2' = a2 := by
          rw [hu', hu1] at hu1'
          simp only [Value.slice.injEq, Option.some.injEq, Addr.mk.injEq] at hu1'
          exact ⟨hu1'.1.1.symm, hu1'.1.2.1.symm⟩
        obtain ⟨rfl, rfl⟩ := hbb'
        have hel : (s.stacks.set tn (x.l.take top))[tn]'hk' = x.l.take top := List.getElem_set_self ..
        simp only [hel] at hL2'
        obtain ⟨uy, by', ay', capy', G3', hry, hIsy, huy, hL3'⟩ := hL2'.elem (k := tp) (by simp; omega)
        have huy' : uy = v132 := rangeAt_inj hry hr10
        have hv132 := hv' (by omega)
        have hbx : by' = bx ∧ ay' = ax := by
          rw [huy', hv132] at huy
          simp only [Value.slice.injEq, Option.some.injEq, Addr.mk.injEq] at huy
          exact ⟨huy.1.1.symm, huy.1.2.1.symm⟩
        obtain ⟨rfl, rfl⟩ := hbx
        refine rd_idxU u23 ty3 hv132 (k := tp) (by omega) ?_
        have hval : (x.l.take top)[tp]'(by simp; omega) = st x.l tp := by
          rw [List.getElem_take, st_get]
        refine rd_loadI ty3 hL3'.here.at (Ext.refl w10) fun hI140 => ?_
        rw [hval]
        have hstr : 0 ≤ st x.l tp ∧ st x.l tp < c.ins.length := by
          have hmem := hs.2.2.2.2.2 x.l (by rw [← hsl]; exact List.getElem_mem _)
          exact hmem.2.1 tp (by omega)
        refine rd_add (by unfold I64; omega) ?_
        refine rd_idxU u23 ty3 hv132 (k := tp) (by omega) ?_
        have hg10' : w4.heap.size < w10.heap.size := by omega
        refine opu_varM (α := DState) (lo := w3.heap.size) (hi := w10.heap.size) ty3 hL3' (fun c hcm => by have := hFb c hcm; omega) (by omega) (mine_int (x := st x.l tp + 1) (by unfold I64; omega)) fun w11 hc11 hv11 => ?_
        have hs11 := hc11.size
        refine hres _ w11 (Ext.chgI hx310 hc11 (Nat.le_refl _)) (hv11.mono (Nat.le_refl _) (by omega)) ?_
        unfold stepD
        rw [← hI, if_neg q4, if_pos q9]
        simp only [DState.mk.injEq, true_and, e1, List.set_set]
        congr 1
        unfold popped
        rw [← hxl, hlen, if_neg (by omega), show top + 1 - 1 = top by omega, show top + 1 - 2 = tp by omega]
      · refine hres _ w10 hx310 ⟨F', hO', fun c hcm => by have := hFb c hcm; omega⟩ ?_
        unfold stepD
        rw [← hI, if_neg q4, if_pos q9]
        simp only [DState.mk.injEq, true_and, e1]
        congr 1
        unfold popped
        have ht0 : top = 0 := by omega
        subst ht0
        rw [← hxl, hlen]
        simp
    · exact ⟨by rw [hn], hx38, same w8 (Ext.refl w8) (by omega)⟩
  · rintro uj w9 ⟨hu, hx9, z', hv9, hz1, hz2, hz3, hz4, ho4, ho9⟩
    simp only [List.map_cons, List.map_nil, List.cons.injEq, and_true] at hu
    rw [hu]
    have hs9 := hx9.size
    obtain ⟨hk', hxk⟩ := List.getElem?_eq_some_iff.1 hz4
    have hg9 := hv9.lt
    obtain ⟨F, hO, hF⟩ := hv9
    obtain ⟨G1, hL1⟩ := lens_DStV_2 (Lens.var hO)
    obtain ⟨b2, a2, cap2, G2, hv2, _, hL2⟩ := hL1.elemV hk'
    rw [hxk] at hL2
    obtain ⟨cs1, ⟨rfl, _⟩, hr1, _⟩ := hL1.here
    obtain ⟨cs2, ⟨rfl, _⟩, hr2, _⟩ := hL2.here
    refine rd_fld fd37_2 ?_
    refine rd_cell ty27 hr1 ?_
    refine rd_idxU u27 ty23 hv2 hk' ?_
    refine rd_cell ty23 hr2 ?_
    refine rd_elemV (e := 3) u23 ty3 hL2 htl fun b3 o3 G3 hL3 => ?_
    have hI64 : I64 (nextOf c s tn) := by
      have hto : I.op = 2 ∨ I.op = 3 → I64 I.to := fun h => by
        have := hR.2.2.2
        rw [← hI, if_pos h] at this
        obtain ⟨i, hi, _, _, hpr⟩ := hc.f.find hc.1.procs8.2 hat0 hatlt.2
        have h1 := hc.f.nonneg hi
        have h2 := (hc.f.lt i hi).2
        rw [hpr, endOf_eq, Int.toNat_natCast] at this
        unfold I64; omega
      unfold nextOf
      rw [← hI]
      split
      · split
        · exact hto (.inl (by assumption))
        · unfold I64; omega
      · split
        · exact hto (.inr (by assumption))
        · unfold I64; omega
    refine opu_varM ty3 hL3 hF (by omega) (mine_int hI64) fun w10 hc10 hv10 => ?_
    have hs10 := hc10.size
    refine hres _ w10 (Ext.chgI hx9 hc10 (Nat.le_refl _)) (varI_er (hv10.mono (Nat.le_refl _) (by omega))) ?_
    unfold stepD DStV.er
    rw [← hI, if_neg ho4, if_neg ho9]
    simp only [DState.mk.injEq, hz1, hz2, true_and]
    have e1 : ((tn : Int)).toNat = tn := by omega
    have e2 : (stk s tn).length - 1 = top := by rw [← hxl]; omega
    rw [List.map_set, hz3, hxl, e1, e2]
end Go.Proofs.YtjgfldfbljmhhaaGreat
namespace Go.Sh
set_option linter.unusedVariables false
set_option linter.unusedSimpArgs false
open Go.RowKit (Below)
open Rep (rep)
section
variable {P : Program} {w w0 w' : World} {α β : Type} [Rep α] [Rep β] {lo hi e g o : Nat}
theorem op_buildR {t : TypeId} {by_ : Nat} {u : Value} {x : β} {lo2 hi2 : Nat} {K : Value → World → Prop} (ht : P.underlying t = some (.slice e)) (he : tyI P e = some (Rep.size β, by_, Rep.agg β)) (hz : zeroOf P e = true) (hsz : Rep.size β ≤ 1000) (hx : OwnI lo2 hi2 w u x) (hlo : lo2 ≤ w.heap.size)
    (k : ∀ v w', Ext w w' → RowI lo2 w'.heap.size e w' v [x] → K v w') : OP P (Instr.buildSlice t 1 #[(0, u)]) w K := by
  obtain ⟨F, ⟨⟨cs, hr, rfl⟩, hn, hw⟩, hF⟩ := hx
  have hcl := mkv_cells hr
  have hlen := Rep.len hr
  have hvs : (mkv β cs).cells.size = Rep.size β := by rw [← Array.length_toList, hcl, hlen]
  obtain ⟨i, d, hi, hd, hs, hby, hg⟩ := tyI_info he
  unfold zeroOf at hz
  rw [hi] at hz
  obtain ⟨z, hz⟩ := Option.isSome_iff_exists.1 hz
  have hpos := Rep.pos (α := β)
  have hFlt := Rep.lt hr
  have hxx := ext_alloc w (.cells (mkv β cs).cells e)
  have hnew := (Array.getElem?_eq_some_iff.1 (heap_alloc_new w (.cells (mkv β cs).cells e))).1
  refine ⟨_, w.alloc (.cells (mkv β cs).cells e), ?_, k (.slice (some ⟨w.heap.size, 0, none⟩) 1 1) _ hxx (.inr ⟨w.heap.size :: F, ⟨cs, F, ⟨by simp [hlen], .inr ⟨w.heap.size, 1, (mkv β cs).cells, rfl, Nat.zero_le _, heap_alloc_new w _, Nat.le_refl _, by rw [maxLen_eq]; omega, by rw [hvs, Nat.one_mul], ?_⟩⟩, Cells.single (rep_ext hr hxx), rfl, hw.ext hxx⟩, ?_, ?_⟩)⟩
  · have hne : ¬ Rep.size β = 0 := by omega
    have h24 : ¬ 2 ^ 24 < Rep.size β := by omega
    simp only [Instr.buildSlice, Sem.run_bind, run_underlying ht, Result.andThen_ok, run_sizeOf' he, Nat.one_mul]
    simp [h24, hne, zeroValue, typeInfo, hi, hz, fill_one _ _ _ hvs, newRow]
  · rw [hcl, List.length_singleton, Nat.one_mul, List.take_of_length_le (by omega)]
  · exact List.nodup_cons.2 ⟨fun h => by have := hFlt _ h; omega, hn⟩
  · intro b hb
    rcases List.mem_cons.1 hb with rfl | hb
    · exact ⟨hlo, hnew⟩
    · exact ⟨(hF b hb).1, by have := hFlt b hb; have := hxx.size; omega⟩
theorem op_boxV {t : TypeId} {v : Value} {x : α} {K : Value → World → Prop} (ha : Rep.agg α = true) (h : OwnI lo hi w v x) (k : ∀ w', Ext w w' → VarI lo hi w' w.heap.size x → K (.pointer (some ⟨w.heap.size, 0, none⟩)) w') : OP P (Instr.box t v) w K := by
  obtain ⟨F, ⟨⟨cs, hr, rfl⟩, hn, hw⟩, hF⟩ := h
  have : mkv α cs = .agg cs.toArray := by simp [mkv, ha]
  rw [this]
  refine op_boxB fun w' hx hB => k w' hx ⟨F, ⟨cs, rep_ext hr hx, ?_, hn, hw.ext hx, fun hm => by have := Rep.lt hr _ hm; omega, _, _, hB⟩, hF⟩
  simpa using hB.range
theorem at_rv {x : RV β e} (h : At w g o x) : Is w x.v x.l := by
  obtain ⟨F, cs, ⟨rfl, hR⟩, hr⟩ := h
  exact hR.own.is
theorem at_rvr {x : RV β e} (h : At w g o x) : w.rangeAt g o [x.v] := by
  obtain ⟨F, cs, ⟨rfl, hR⟩, hr⟩ := h
  exact hr
theorem rdx_blkS {X : Nat → Prop} {t by_ g e : Nat} {cs : List Value} {K : Value → Prop} (hB : Blk g e w cs) (ht : tyI P t = some (cs.length, by_, true)) (hX : ¬ X g) (k : K (.agg cs.toArray)) : RDX P X (Instr.loadAt t (.pointer (some ⟨g, 0, none⟩))) w K := by
  refine ⟨_, fun w' hx' => ?_, k⟩
  obtain ⟨v, h1, h2⟩ := rd_blkS (P := P) (w := w') (K := fun v => v = .agg cs.toArray) (hB.keep (hx'.block g hB.lt hX)) ht rfl
  rw [← h2]; exact h1 w' (Ext.refl _)
theorem op_pushF {t ty : TypeId} {by_ by2 : Nat} {x : α} {s : RV β e} {upd : RV β e → α} {u : Value} {y : β} {lo2 hi2 : Nat} {K : World → Prop} {C : Value → World → Prop} (ht : P.underlying t = some (.slice e)) (he : tyI P e = some (Rep.size β, by_, Rep.agg β)) (hz : zeroOf P e = true)
    (hzc : (P.info? e).map (fun i => (i.zero.map (·.cells.size))) = some (some (Rep.size β))) (hsz : Rep.size β ≤ 1000) (hft : tyI P t = some (1, by2, false)) (hv : VarI lo hi w0 g x) (hg : lo ≤ g ∧ g < hi) (hx0 : Ext w0 w)
    (hL : ∀ {F : List Nat}, OAt F w0 g 0 x → ∃ G, Lens (VH g) (g :: F) w0 g o G s upd) (hx : OwnI lo2 hi2 w u y) (hl : hi ≤ lo2) (hl2 : w0.heap.size ≤ lo2) (hlo : lo ≤ w0.heap.size) (hm : s.l.length + 1 ≤ maxLen) (hb : (s.l.length + 1) * by_ ≤ 140737488355328)
    (k : ∀ v' w3, ChgI lo hi w0 w3 → VarI lo w3.heap.size w3 g (upd ⟨v', s.l ++ [y]⟩) → K w3)
    (hC : ∀ a w1, Ext w w1 → OP P (Builtin.append_ #[t, t] ty [s.v, a].toArray) w1 (fun r w2 => ExtX (fun b => lo ≤ b ∧ b < hi ∧ b ≠ g) w1 w2 ∧ OPU P (Instr.storeAt t (.pointer (some ⟨g, o, none⟩)) r) w2 K) → C a w1) : OP P (Instr.buildSlice t 1 #[(0, u)]) w C := by
  obtain ⟨F, hO, hF⟩ := hv
  obtain ⟨G, hLL⟩ := hL hO
  obtain ⟨cs, ⟨rfl, hrow⟩, hr, hnG, hw, hbG, hwb⟩ := hLL.here
  have hlt := hO.lts
  have hgF : g ∉ F := by obtain ⟨_, _, _, _, _, h, _⟩ := hO; exact h
  have hGs : ∀ c ∈ G, c ∈ g :: F := fun c hc => hLL.sub c (by simp [hc])
  have hGF : ∀ c ∈ G, c ∈ F := fun c hc => by
    rcases List.mem_cons.1 (hGs c hc) with h | h
    · exact absurd (h ▸ hc) hbG
    · exact h
  obtain ⟨GX, hMX, hGX⟩ := hx
  refine op_pushB (K := fun w1 r w2 => ExtX (fun b => lo ≤ b ∧ b < hi ∧ b ≠ g) w1 w2 ∧ OPU P (Instr.storeAt t (.pointer (some ⟨g, o, none⟩)) r) w2 K) ht he hz hzc hsz (hrow.keep fun c hc => hx0.heap (hlt c (hGs c hc))) hnG hMX (fun c hcm hcg => by have := hGX c hcm; have := hF c (hGF c hcg); omega) hm hb (fun w1 v' w2 G' hx1 hc2 hR2 hN2 hs2 => ⟨?_, ?_⟩) hC
  · exact hc2.toX fun c hc => ⟨(hF c (hGF c hc)).1, (hF c (hGF c hc)).2, fun e => hbG (e ▸ hc)⟩
  · refine opu_pushed hft hLL hlt (((hx0.trans hx1).chg G).trans hc2) hR2 hN2 (fun c hcm => ?_) fun w3 hc3 ⟨F', hO', hF'⟩ => ?_
    · rcases hs2 c hcm with h | h | h
      · exact .inl h
      · exact .inr (by have := hGX c h; omega)
      · exact .inr (Nat.le_trans hx0.size h)
    · refine k v' w3 (hc3.toI fun c hc => ?_) ⟨F', hO', fun c hc => ⟨?_, hO'.lts c (by simp [hc])⟩⟩
      · rcases List.mem_cons.1 hc with rfl | hc
        · exact hg
        · exact hF c (hGF c hc)
      · rcases hF' c hc with h | h
        · rcases List.mem_cons.1 h with rfl | h
          · exact hg.1
          · exact (hF c h).1
        · omega
end
end Go.Sh
namespace Go.Sh
set_option linter.unusedVariables false
open Rep (rep)
abbrev RSts := RV DState 37
structure DTrail where
  states : RSts
  ahead : RInts
  went : RInts
  whole : Bool
theorem DTrail.ext_iff {x y : DTrail} : x = y ↔ (x.states = y.states ∧ x.ahead = y.ahead ∧ x.went = y.went ∧ x.whole = y.whole) := ⟨fun h => by rw [h]; exact ⟨rfl, rfl, rfl, rfl⟩, fun h => by obtain ⟨h0, h1, h2, h3⟩ := h; cases x; cases y; simp only at h0 h1 h2 h3; simp only [h0, h1, h2, h3]⟩
instance : Rep DTrail := Rep.via fun x => (x.states, x.ahead, x.went, x.whole)
theorem at_DTrail_0 {w : World} {b o : Nat} {x : DTrail} (h : At w b o x) : At w b (o + 0) x.states := at_fst (α := RSts) (β := RInts × RInts × Bool) (p := (x.states, x.ahead, x.went, x.whole)) h
theorem at_DTrail_1 {w : World} {b o : Nat} {x : DTrail} (h : At w b o x) : At w b (o + 1) x.ahead := at_fst (α := RInts) (β := RInts × Bool) (p := (x.ahead, x.went, x.whole)) (at_snd (α := RSts) (β := RInts × RInts × Bool) (p := (x.states, x.ahead, x.went, x.whole)) h)
theorem at_DTrail_2 {w : World} {b o : Nat} {x : DTrail} (h : At w b o x) : At w b (o + 2) x.went := at_fst (α := RInts) (β := Bool) (p := (x.went, x.whole)) (at_snd (α := RInts) (β := RInts × Bool) (p := (x.ahead, x.went, x.whole)) (at_snd (α := RSts) (β := RInts × RInts × Bool) (p := (x.states, x.ahead, x.went, x.whole)) h))
theorem at_DTrail_3 {w : World} {b o : Nat} {x : DTrail} (h : At w b o x) : At w b (o + 3) x.whole := at_snd (α := RInts) (β := Bool) (p := (x.went, x.whole)) (at_snd (α := RInts) (β := RInts × Bool) (p := (x.ahead, x.went, x.whole)) (at_snd (α := RSts) (β := RInts × RInts × Bool) (p := (x.states, x.ahead, x.went, x.whole)) h))
theorem rep_DTrail {w : World} {x : DTrail} {F0 : List Nat} {c0 : List Value} (h0 : rep F0 w c0 x.states) {F1 : List Nat} {c1 : List Value} (h1 : rep F1 w c1 x.ahead) {F2 : List Nat} {c2 : List Value} (h2 : rep F2 w c2 x.went) {F3 : List Nat} {c3 : List Value} (h3 : rep F3 w c3 x.whole) : rep (F0 ++ (F1 ++ (F2 ++ F3))) w (c0 ++ (c1 ++ (c2 ++ c3))) x := mine_prod h0 (mine_prod h1 (mine_prod h2 (h3)))
instance : RepZ DTrail := ⟨⟨(RepZ.zv : RSts), (RepZ.zv : RInts), (RepZ.zv : RInts), (RepZ.zv : Bool)⟩, RepZ.zc (RSts × RInts × RInts × Bool), fun w => RepZ.zr (α := RSts × RInts × RInts × Bool) w⟩
theorem lens_DTrail_0 {γ : Type} {H : List Nat → World → γ → Prop} {F : List Nat} {w : World} {b o : Nat} {G : List Nat} {x : DTrail} {upd : DTrail → γ} (h : Lens H F w b o G x upd) :
    ∃ G1, Lens H F w b (o + 0) G1 x.states (fun y => upd ⟨y, x.ahead, x.went, x.whole⟩) := by
  have h' : Lens H F w b o G (x.states, x.ahead, x.went, x.whole) (fun p : RSts × RInts × RInts × Bool => upd ⟨p.1, p.2.1, p.2.2.1, p.2.2.2⟩) := ⟨h.here, h.sub, fun w' G' y' hc hO hs => h.back w' G' _ hc hO hs⟩
  obtain ⟨G0, h'⟩ := h'.fst
  exact ⟨_, h'⟩
theorem lens_DTrail_1 {γ : Type} {H : List Nat → World → γ → Prop} {F : List Nat} {w : World} {b o : Nat} {G : List Nat} {x : DTrail} {upd : DTrail → γ} (h : Lens H F w b o G x upd) :
    ∃ G1, Lens H F w b (o + 1) G1 x.ahead (fun y => upd ⟨x.states, y, x.went, x.whole⟩) := by
  have h' : Lens H F w b o G (x.states, x.ahead, x.went, x.whole) (fun p : RSts × RInts × RInts × Bool => upd ⟨p.1, p.2.1, p.2.2.1, p.2.2.2⟩) := ⟨h.here, h.sub, fun w' G' y' hc hO hs => h.back w' G' _ hc hO hs⟩
  obtain ⟨G0, h'⟩ := h'.snd
  obtain ⟨G1, h'⟩ := h'.fst
  exact ⟨_, h'⟩
theorem lens_DTrail_2 {γ : Type} {H : List Nat → World → γ → Prop} {F : List Nat} {w : World} {b o : Nat} {G : List Nat} {x : DTrail} {upd : DTrail → γ} (h : Lens H F w b o G x upd) :
    ∃ G1, Lens H F w b (o + 2) G1 x.went (fun y => upd ⟨x.states, x.ahead, y, x.whole⟩) := by
  have h' : Lens H F w b o G (x.states, x.ahead, x.went, x.whole) (fun p : RSts × RInts × RInts × Bool => upd ⟨p.1, p.2.1, p.2.2.1, p.2.2.2⟩) := ⟨h.here, h.sub, fun w' G' y' hc hO hs => h.back w' G' _ hc hO hs⟩
  obtain ⟨G0, h'⟩ := h'.snd
  obtain ⟨G1, h'⟩ := h'.snd
  obtain ⟨G2, h'⟩ := h'.fst
  exact ⟨_, h'⟩
theorem lens_DTrail_3 {γ : Type} {H : List Nat → World → γ → Prop} {F : List Nat} {w : World} {b o : Nat} {G : List Nat} {x : DTrail} {upd : DTrail → γ} (h : Lens H F w b o G x upd) :
    ∃ G1, Lens H F w b (o + 3) G1 x.whole (fun y => upd ⟨x.states, x.ahead, x.went, y⟩) := by
  have h' : Lens H F w b o G (x.states, x.ahead, x.went, x.whole) (fun p : RSts × RInts × RInts × Bool => upd ⟨p.1, p.2.1, p.2.2.1, p.2.2.2⟩) := ⟨h.here, h.sub, fun w' G' y' hc hO hs => h.back w' G' _ hc hO hs⟩
  obtain ⟨G0, h'⟩ := h'.snd
  obtain ⟨G1, h'⟩ := h'.snd
  obtain ⟨G2, h'⟩ := h'.snd
  exact ⟨_, h'⟩
theorem inv_DTrail {w : World} {F : List Nat} {cs : List Value} {x : DTrail} (h : rep F w cs x) : ∃ F0 c0 F1 c1 F2 c2 F3 c3, F = (F0 ++ (F1 ++ (F2 ++ F3))) ∧ cs = (c0 ++ (c1 ++ (c2 ++ c3))) ∧ rep F0 w c0 x.states ∧ rep F1 w c1 x.ahead ∧ rep F2 w c2 x.went ∧ rep F3 w c3 x.whole := by
  obtain ⟨F0, G0, c0, d0, rfl, rfl, h0, h⟩ := h
  obtain ⟨F1, G1, c1, d1, rfl, rfl, h1, h⟩ := h
  obtain ⟨F2, G2, c2, d2, rfl, rfl, h2, h⟩ := h
  exact ⟨_, _, _, _, _, _, _, _, rfl, rfl, h0, h1, h2, h⟩
section
variable {w : World}
theorem ownI_trail {z : DTrail} {lo hi h0 h1 : Nat} (m0 : OwnI lo h0 w z.states.v z.states) (m1 : OwnI h0 h1 w z.ahead.v z.ahead) (m2 : OwnI h1 hi w z.went.v z.went) (hle : lo ≤ h0 ∧ h0 ≤ h1 ∧ h1 ≤ hi) :
    OwnI lo hi w (.agg #[z.states.v, z.ahead.v, z.went.v, .bool z.whole]) z := by
  obtain ⟨F0, M0, B0⟩ := m0
  obtain ⟨F1, M1, B1⟩ := m1
  obtain ⟨F2, M2, B2⟩ := m2
  refine ⟨F0 ++ (F1 ++ (F2 ++ [])), ⟨⟨[z.states.v, z.ahead.v, z.went.v, .bool z.whole], rep_DTrail (mine_cell rfl M0.own) (mine_cell rfl M1.own) (mine_cell rfl M2.own) ⟨rfl, rfl⟩, rfl⟩, ?_, M0.wr.append (M1.wr.append (M2.wr.append (Wr.nil w)))⟩, fun x hx => ?_⟩
  · rw [List.append_nil, List.nodup_append, List.nodup_append]
    refine ⟨M0.nodup, ⟨M1.nodup, M2.nodup, fun p hp q hq e => ?_⟩, fun p hp q hq e => ?_⟩
    · subst e; have := B1 p hp; have := B2 p hq; omega
    · subst e
      have := B0 p hp
      rcases List.mem_append.1 hq with hq | hq
      · have := B1 p hq; omega
      · have := B2 p hq; omega
  · rw [List.append_nil] at hx
    rcases List.mem_append.1 hx with hx | hx
    · have := B0 x hx; omega
    · rcases List.mem_append.1 hx with hx | hx
      · have := B1 x hx; omega
      · have := B2 x hx; omega
theorem trail_inv {lo hi : Nat} {v : Value} {z : DTrail} (h : OwnI lo hi w v z) : v = .agg #[z.states.v, z.ahead.v, z.went.v, .bool z.whole] ∧ RowI lo hi 37 w z.states.v z.states.l ∧ RowI lo hi 3 w z.ahead.v z.ahead.l ∧ RowI lo hi 3 w z.went.v z.went.l := by
  obtain ⟨F, ⟨⟨cs, hr, rfl⟩, hn, hw⟩, hF⟩ := h
  obtain ⟨F0, c0, F1, c1, F2, c2, F3, c3, rfl, rfl, ⟨rfl, h0⟩, ⟨rfl, h1⟩, ⟨rfl, h2⟩, ⟨rfl, rfl⟩⟩ := inv_DTrail hr
  have n0 := nodup_app hn
  have n1 := nodup_app n0.2.1
  have n2 := nodup_app n1.2.1
  exact ⟨rfl, rowI_iff.2 ⟨F0, h0, n0.1, fun b hb => hF b (by simp [hb])⟩, rowI_iff.2 ⟨F1, h1, n1.1, fun b hb => hF b (by simp [hb])⟩, rowI_iff.2 ⟨F2, h2, n2.1, fun b hb => hF b (by simp [hb])⟩⟩
end
def DTrail.er (z : DTrail) : Go.Proofs.YtjgfldfbljmhhaaGreat.Tr := ⟨z.states.l, z.ahead.l, z.went.l, z.whole⟩
end Go.Sh
namespace Go.Proofs.YtjgfldfbljmhhaaGreat
open Go Go.Sh Go.Proofs
set_option linter.unusedVariables false
def F273 (a0 a1 : Value) (w : World) (R : Value → World → Prop) : Prop :=
 OP Tryz.prog (Instr.box 37 a0) w fun x2 w =>
 RD Tryz.prog (Instr.loadAt 37 x2) w fun x4 =>
 RD Tryz.prog (Instr.loadAt 37 a1) w fun x5 =>
 CALL Tryz.prog 274 [x4, x5] w fun x6 w =>
 R x6 w
def cfg273 : Cfg := { ext := extL, joins := [], loops := [], draws := [], pars := [] }
theorem F273_eq (a0 a1 : Value) (w : World) (R : Value → World → Prop) : vcF Tryz.prog cfg273 Tryz.f273 [a0, a1] w R = F273 a0 a1 w R := by kernel_rfl
theorem F273_call {a0 a1 : Value} {w : World} {R : Value → World → Prop} (h : F273 a0 a1 w R) : CALL Tryz.prog 273 [a0, a1] w R :=
  call_of (g := cfg273) ent mixed Tryz.func273 (Nat.le_of_ble_eq_true (by kernel_rfl)) (by kernel_rfl) (F273_eq a0 a1 w R ▸ h)
def F224 (a0 a1 : Value) (w : World) (R : Value → World → Prop) : Prop :=
 OP Tryz.prog (Instr.box 37 a1) w fun x3 w =>
 RD Tryz.prog (Instr.makeFunc (Go.Fn.func 273) [].toArray [x3].toArray) w fun x6 =>
 CALL Tryz.prog 272 [a0, x6] w fun x7 w =>
 R x7 w
def cfg224 : Cfg := { ext := extL, joins := [], loops := [], draws := [], pars := [] }
theorem F224_eq (a0 a1 : Value) (w : World) (R : Value → World → Prop) : vcF Tryz.prog cfg224 Tryz.f224 [a0, a1] w R = F224 a0 a1 w R := by kernel_rfl
theorem F224_call {a0 a1 : Value} {w : World} {R : Value → World → Prop} (h : F224 a0 a1 w R) : CALL Tryz.prog 224 [a0, a1] w R :=
  call_of (g := cfg224) ent mixed Tryz.func224 (Nat.le_of_ble_eq_true (by kernel_rfl)) (by kernel_rfl) (F224_eq a0 a1 w R ▸ h)
def F159 (a0 a1 : Value) (w : World) (R : Value → World → Prop) : Prop :=
 OP Tryz.prog (Instr.box 35 a0) w fun x2 w =>
 OP Tryz.prog (Instr.alloc 179 true (.tuple #[])) w fun x4 w =>
 CALL Tryz.prog 220 [a1, (Value.int .i64 1), (Value.int .i64 150)] w fun x10 w =>
 RD Tryz.prog (Instr.loadAt 35 x2) w fun x11 =>
 CALL Tryz.prog 221 [x11] w fun x12 w =>
 OP Tryz.prog (Instr.buildSlice 103 1 #[(0, x12)]) w fun x13 w =>
 OP Tryz.prog (Instr.buildSlice 23 1 #[(0, (Value.int .i64 (-1)))]) w fun x14 w =>
 OP Tryz.prog (Instr.buildSlice 23 1 #[(0, (Value.int .i64 (-1)))]) w fun x15 w =>
 RD Tryz.prog (Instr.build 179 #[(0, x13), (1, x14), (2, x15), (3, (Value.bool true))]) w fun x16 =>
 OP Tryz.prog (Instr.alloc 179 true (.tuple #[])) w fun x5 w =>
 OPU Tryz.prog (Instr.storeAt 179 x5 x16) w fun w =>
 LOOPI [6] [(Value.int .i64 0)] w fun u4 w next4 =>
 RD Tryz.prog (Instr.fieldAt 179 x5 0) w fun x18 =>
 RD Tryz.prog (Instr.loadAt 103 x18) w fun x19 =>
 RD Tryz.prog (Builtin.len_ #[103] 3 [x19].toArray) w fun x20 =>
 RD Tryz.prog (bin .lss 3 (.tmp 0) (.tmp 0) (u4 6) x20) w fun x21 =>
 BR x21
 (RD Tryz.prog (Instr.fieldAt 179 x5 0) w fun x24 =>
 RD Tryz.prog (Instr.loadAt 103 x24) w fun x25 =>
 RD Tryz.prog (Instr.indexAt 103 x25 (u4 6)) w fun x27 =>
 RD Tryz.prog (Instr.fieldAt 37 x27 2) w fun x28 =>
 RD Tryz.prog (Instr.loadAt 27 x28) w fun x29 =>
 RD Tryz.prog (Builtin.len_ #[27] 3 [x29].toArray) w fun x30 =>
 LOOPI [31] [(Value.int .i64 0)] w fun u7 w next7 =>
 RD Tryz.prog (bin .lss 3 (.tmp 0) (.tmp 0) (u7 31) x30) w fun x32 =>
 BR x32
 ((fun w => RD Tryz.prog (Instr.loadAt 35 x2) w fun x34 =>
 RD Tryz.prog (Instr.fieldAt 179 x5 0) w fun x35 =>
 RD Tryz.prog (Instr.loadAt 103 x35) w fun x36 =>
 RD Tryz.prog (Instr.indexAt 103 x36 (u4 6)) w fun x38 =>
 RD Tryz.prog (Instr.loadAt 37 x38) w fun x39 =>
 CALL Tryz.prog 222 [x34, x39, (u7 31)] w fun x41 w =>
 RD Tryz.prog (Op.unary .not x41) w fun x42 =>
 BR x42
 (RD Tryz.prog (bin .add 3 (.tmp 0) (.const undef) (u7 31) (Value.int .i64 1)) w fun x81 =>
 next7 [x81] w)
 ((fun w0 => PAR w0 [[(0, 43)], [(1, 44)], [(2, 45), (1, 44)], [(3, 46)], [(4, 47), (2, 45), (3, 46)], [(5, 48), (4, 47)], [(6, 49)], [(7, 50), (0, 43), (5, 48), (6, 49)], [(8, 8)]] (fun Q =>
 (∀ (u10 : Env) (T : Nat → Nat × Nat) (w : World), Ext w0 w → Apart [] w0.heap.size w.heap.size T → (True) → (fun w1 => RD Tryz.prog (Instr.loadAt 35 x2) w fun x43 =>
 Ext w1 w ∧ Q 0 (upd u10 43 x43) (updT T 0 (w1.heap.size, w.heap.size)) w) w) ∧
 (∀ (u10 : Env) (T : Nat → Nat × Nat) (w : World), Ext w0 w → Apart [] w0.heap.size w.heap.size T → (True) → (fun w1 => RD Tryz.prog (Instr.fieldAt 179 x5 0) w fun x44 =>
 Ext w1 w ∧ Q 1 (upd u10 44 x44) (updT T 1 (w1.heap.size, w.heap.size)) w) w) ∧
 (∀ (u10 : Env) (T : Nat → Nat × Nat) (w : World), Ext w0 w → Apart [1] w0.heap.size w.heap.size T → (Q 1 u10 T w ∧ True) → (fun w1 => RD Tryz.prog (Instr.loadAt 103 (u10 44)) w fun x45 =>
 Ext w1 w ∧ Q 2 (upd u10 45 x45) (updT T 2 (w1.heap.size, w.heap.size)) w) w) ∧
 (∀ (u10 : Env) (T : Nat → Nat × Nat) (w : World), Ext w0 w → Apart [] w0.heap.size w.heap.size T → (True) → (fun w1 => Ext w1 w ∧ Q 3 (upd u10 46 (u4 6)) (updT T 3 (w1.heap.size, w.heap.size)) w) w) ∧
 (∀ (u10 : Env) (T : Nat → Nat × Nat) (w : World), Ext w0 w → Apart [2, 3] w0.heap.size w.heap.size T → (Q 2 u10 T w ∧ Q 3 u10 T w ∧ True) → (fun w1 => RD Tryz.prog (Instr.indexAt 103 (u10 45) (u10 46)) w fun x47 =>
 Ext w1 w ∧ Q 4 (upd u10 47 x47) (updT T 4 (w1.heap.size, w.heap.size)) w) w) ∧
 (∀ (u10 : Env) (T : Nat → Nat × Nat) (w : World), Ext w0 w → Apart [4] w0.heap.size w.heap.size T → (Q 4 u10 T w ∧ True) → (fun w1 => RD Tryz.prog (Instr.loadAt 37 (u10 47)) w fun x48 =>
 Ext w1 w ∧ Q 5 (upd u10 48 x48) (updT T 5 (w1.heap.size, w.heap.size)) w) w) ∧
 (∀ (u10 : Env) (T : Nat → Nat × Nat) (w : World), Ext w0 w → Apart [] w0.heap.size w.heap.size T → (True) → (fun w1 => Ext w1 w ∧ Q 6 (upd u10 49 (u7 31)) (updT T 6 (w1.heap.size, w.heap.size)) w) w) ∧
 (∀ (u10 : Env) (T : Nat → Nat × Nat) (w : World), Ext w0 w → Apart [0, 5, 6] w0.heap.size w.heap.size T → (Q 0 u10 T w ∧ Q 5 u10 T w ∧ Q 6 u10 T w ∧ True) → (fun w1 => CALL Tryz.prog 223 [(u10 43), (u10 48), (u10 49)] w fun x50 w =>
 Ext w1 w ∧ Q 7 (upd u10 50 x50) (updT T 7 (w1.heap.size, w.heap.size)) w) w) ∧
 (∀ (u10 : Env) (T : Nat → Nat × Nat) (w : World), Ext w0 w → Apart [] w0.heap.size w.heap.size T → (True) → (fun w1 => OP Tryz.prog (Instr.alloc 37 true (.tuple #[])) w fun x8 w =>
 Ext w1 w ∧ Q 8 (upd u10 8 x8) (updT T 8 (w1.heap.size, w.heap.size)) w) w) ∧
 True)
 (fun Q => ∀ (u10 : Env) (T : Nat → Nat × Nat) (w : World), Ext w0 w → Apart [0, 1, 2, 3, 4, 5, 6, 7, 8] w0.heap.size w.heap.size T → (Q 0 u10 T w ∧ Q 1 u10 T w ∧ Q 2 u10 T w ∧ Q 3 u10 T w ∧ Q 4 u10 T w ∧ Q 5 u10 T w ∧ Q 6 u10 T w ∧ Q 7 u10 T w ∧ Q 8 u10 T w ∧ True) →
 OPU Tryz.prog (Instr.storeAt 37 (u10 8) (u10 50)) w fun w =>
 RD Tryz.prog (Instr.fieldAt 179 x5 0) w fun x51 =>
 RD Tryz.prog (Instr.loadAt 103 x51) w fun x52 =>
 RD Tryz.prog (Instr.loadAt 37 (u10 8)) w fun x53 =>
 CALL Tryz.prog 224 [x52, x53] w fun x54 w =>
 RD Tryz.prog (bin .geq 3 (.tmp 0) (.const undef) x54 (Value.int .i64 0)) w fun x55 =>
 BR x55
 (RD Tryz.prog (bin .add 3 (.tmp 0) (.const undef) (u7 31) (Value.int .i64 1)) w fun x81 =>
 next7 [x81] w)
 (RD Tryz.prog (Instr.fieldAt 179 x5 0) w fun x56 =>
 RD Tryz.prog (Instr.loadAt 103 x56) w fun x57 =>
 RD Tryz.prog (Builtin.len_ #[103] 3 [x57].toArray) w fun x58 =>
 RD Tryz.prog (bin .eql 3 (.tmp 0) (.tmp 0) x58 x10) w fun x60 =>
 BR x60
 (RD Tryz.prog (Instr.fieldAt 179 x5 3) w fun x61 =>
 OPU Tryz.prog (Instr.storeAt 4 x61 (Value.bool false)) w fun w =>
 RD Tryz.prog (Instr.loadAt 179 x5) w fun x62 =>
 OPU Tryz.prog (Instr.storeAt 179 x4 x62) w fun w =>
 RD Tryz.prog (loadRes 179 x4) w fun r4 => R r4 w)
 (RD Tryz.prog (Instr.fieldAt 179 x5 0) w fun x63 =>
 RD Tryz.prog (Instr.loadAt 103 x63) w fun x64 =>
 RD Tryz.prog (Instr.loadAt 37 (u10 8)) w fun x65 =>
 OP Tryz.prog (Instr.buildSlice 103 1 #[(0, x65)]) w fun x66 w =>
 OP Tryz.prog (Builtin.append_ #[103, 103] 103 [x64, x66].toArray) w fun x67 w =>
 RD Tryz.prog (Instr.fieldAt 179 x5 0) w fun x68 =>
 OPU Tryz.prog (Instr.storeAt 103 x68 x67) w fun w =>
 RD Tryz.prog (Instr.fieldAt 179 x5 1) w fun x69 =>
 RD Tryz.prog (Instr.loadAt 23 x69) w fun x70 =>
 OP Tryz.prog (Instr.buildSlice 23 1 #[(0, (u4 6))]) w fun x72 w =>
 OP Tryz.prog (Builtin.append_ #[23, 23] 23 [x70, x72].toArray) w fun x73 w =>
 RD Tryz.prog (Instr.fieldAt 179 x5 1) w fun x74 =>
 OPU Tryz.prog (Instr.storeAt 23 x74 x73) w fun w =>
 RD Tryz.prog (Instr.fieldAt 179 x5 2) w fun x75 =>
 RD Tryz.prog (Instr.loadAt 23 x75) w fun x76 =>
 OP Tryz.prog (Instr.buildSlice 23 1 #[(0, (u7 31))]) w fun x78 w =>
 OP Tryz.prog (Builtin.append_ #[23, 23] 23 [x76, x78].toArray) w fun x79 w =>
 RD Tryz.prog (Instr.fieldAt 179 x5 2) w fun x80 =>
 OPU Tryz.prog (Instr.storeAt 23 x80 x79) w fun w =>
 RD Tryz.prog (bin .add 3 (.tmp 0) (.const undef) (u7 31) (Value.int .i64 1)) w fun x81 =>
 next7 [x81] w)))) (World.drew1 w))) (World.drew1 w))
 (RD Tryz.prog (bin .add 3 (.tmp 0) (.const undef) (u4 6) (Value.int .i64 1)) w fun x23 =>
 next4 [x23] w))
 (RD Tryz.prog (Instr.loadAt 179 x5) w fun x82 =>
 OPU Tryz.prog (Instr.storeAt 179 x4 x82) w fun w =>
 RD Tryz.prog (loadRes 179 x4) w fun r4 => R r4 w)
def cfg159 : Cfg := { ext := extL, joins := [], loops := [(4, 4835703278458516698694080, [6]), (7, 4835703278458514551341440, [31])], draws := [(9, [0, 1, 2, 3, 4, 5, 6, 7, 8], 0)], pars := [(10, 2243003720663296, 9)] }
theorem F159_eq (a0 a1 : Value) (w : World) (R : Value → World → Prop) : vcF Tryz.prog cfg159 Tryz.f159 [a0, a1] w R = F159 a0 a1 w R := by kernel_rfl
theorem F159_call {a0 a1 : Value} {w : World} {R : Value → World → Prop} (h : F159 a0 a1 w R) : CALL Tryz.prog 159 [a0, a1] w R :=
  call_of (g := cfg159) ent mixed Tryz.func159 (Nat.le_of_ble_eq_true (by kernel_rfl)) (by kernel_rfl) (F159_eq a0 a1 w R ▸ h)
set_option linter.unusedVariables false
set_option linter.unusedSimpArgs false
def F220 (a0 a1 a2 : Value) (w : World) (R : Value → World → Prop) : Prop :=
 RD Tryz.prog (bin .lss 3 (.tmp 0) (.tmp 0) a0 a1) w fun x9 =>
 BR x9
 (R a1 w)
 (RD Tryz.prog (bin .lss 3 (.tmp 0) (.tmp 0) a2 a1) w fun x13 =>
 BR x13
 (R a1 w)
 (RD Tryz.prog (Builtin.min_ #[3, 3] 3 [a0, a2].toArray) w fun x18 =>
 R x18 w))
def cfg220 : Cfg := { ext := extL, joins := [], loops := [], draws := [], pars := [] }
theorem F220_eq (a0 a1 a2 : Value) (w : World) (R : Value → World → Prop) : vcF Tryz.prog cfg220 Tryz.f220 [a0, a1, a2] w R = F220 a0 a1 a2 w R := by kernel_rfl
theorem F220_call {a0 a1 a2 : Value} {w : World} {R : Value → World → Prop} (h : F220 a0 a1 a2 w R) : CALL Tryz.prog 220 [a0, a1, a2] w R :=
  call_of (g := cfg220) ent mixed Tryz.func220 (Nat.le_of_ble_eq_true (by kernel_rfl)) (by kernel_rfl) (F220_eq a0 a1 a2 w R ▸ h)
theorem implBrought_ok {w : World} {n : Int} {lo : Int} {hi : Int}    :
    CALL Tryz.prog 220 [.int .i64 n, .int .i64 lo, .int .i64 hi] w fun r w' => Ext w w' ∧ (r = .int .i64 (brought n lo hi)) := by
  refine F220_call ?_
  unfold F220
  refine rd_lss ?_
  refine br (fun c1 => ?_) (fun c1 => ?_)
  · refine ⟨Ext.refl w, ?_⟩
    first | (rw [show brought n lo hi = lo from if_pos (by omega)]) | (rw [show brought n lo hi = min n hi from if_neg (by omega)])
  · refine rd_lss ?_
    refine br (fun c2 => ?_) (fun c2 => ?_)
    · refine ⟨Ext.refl w, ?_⟩
      first | (rw [show brought n lo hi = lo from if_pos (by omega)]) | (rw [show brought n lo hi = min n hi from if_neg (by omega)])
    · refine rd_min ?_
      refine ⟨Ext.refl w, ?_⟩
      first | (rw [show brought n lo hi = lo from if_pos (by omega)]) | (rw [show brought n lo hi = min n hi from if_neg (by omega)])
def F214 (a0 a1 a2 : Value) (w : World) (R : Value → World → Prop) : Prop :=
 RD Tryz.prog (bin .lss 3 (.tmp 0) (.tmp 0) a2 a1) w fun x9 =>
 BR x9
 (R a1 w)
 (RD Tryz.prog (bin .lss 3 (.tmp 0) (.tmp 0) a0 a1) w fun x13 =>
 BR x13
 (R a1 w)
 (RD Tryz.prog (bin .gtr 3 (.tmp 0) (.tmp 0) a0 a2) w fun x18 =>
 BR x18
 (R a2 w)
 (R a0 w)))
def cfg214 : Cfg := { ext := extL, joins := [], loops := [], draws := [], pars := [] }
theorem F214_eq (a0 a1 a2 : Value) (w : World) (R : Value → World → Prop) : vcF Tryz.prog cfg214 Tryz.f214 [a0, a1, a2] w R = F214 a0 a1 a2 w R := by kernel_rfl
theorem F214_call {a0 a1 a2 : Value} {w : World} {R : Value → World → Prop} (h : F214 a0 a1 a2 w R) : CALL Tryz.prog 214 [a0, a1, a2] w R :=
  call_of (g := cfg214) ent mixed Tryz.func214 (Nat.le_of_ble_eq_true (by kernel_rfl)) (by kernel_rfl) (F214_eq a0 a1 a2 w R ▸ h)
theorem specBrought_ok {w : World} {n : Int} {lo : Int} {hi : Int}    :
    CALL Tryz.prog 214 [.int .i64 n, .int .i64 lo, .int .i64 hi] w fun r w' => Ext w w' ∧ (r = .int .i64 (brought n lo hi)) := by
  refine F214_call ?_
  unfold F214
  refine rd_lss ?_
  refine br (fun c1 => ?_) (fun c1 => ?_)
  · refine ⟨Ext.refl w, ?_⟩
    first | (rw [show brought n lo hi = lo from if_pos (by omega)]) | (rw [show brought n lo hi = min n hi from if_neg (by omega)]; congr 1; omega)
  · refine rd_lss ?_
    refine br (fun c2 => ?_) (fun c2 => ?_)
    · refine ⟨Ext.refl w, ?_⟩
      first | (rw [show brought n lo hi = lo from if_pos (by omega)]) | (rw [show brought n lo hi = min n hi from if_neg (by omega)]; congr 1; omega)
    · refine rd_gtr ?_
      refine br (fun c3 => ?_) (fun c3 => ?_)
      · refine ⟨Ext.refl w, ?_⟩
        first | (rw [show brought n lo hi = lo from if_pos (by omega)]) | (rw [show brought n lo hi = min n hi from if_neg (by omega)]; congr 1; omega)
      · refine ⟨Ext.refl w, ?_⟩
        first | (rw [show brought n lo hi = lo from if_pos (by omega)]) | (rw [show brought n lo hi = min n hi from if_neg (by omega)]; congr 1; omega)
def F218 (a0 a1 : Value) (w : World) (R : Value → World → Prop) : Prop :=
 OP Tryz.prog (Instr.box 37 a1) w fun x3 w =>
 LOOPI [5] [(Value.int .i64 0)] w fun u2 w next2 =>
 RD Tryz.prog (Builtin.len_ #[103] 3 [a0].toArray) w fun x8 =>
 RD Tryz.prog (bin .lss 3 (.tmp 0) (.tmp 0) (u2 5) x8) w fun x9 =>
 BR x9
 ((fun w => RD Tryz.prog (Instr.indexAt 103 a0 (u2 5)) w fun x14 =>
 RD Tryz.prog (Instr.loadAt 37 x14) w fun x15 =>
 RD Tryz.prog (Instr.loadAt 37 x3) w fun x16 =>
 CALL Tryz.prog 269 [x15, x16] w fun x17 w =>
 BR x17
 (R (u2 5) w)
 (RD Tryz.prog (bin .add 3 (.tmp 0) (.const undef) (u2 5) (Value.int .i64 1)) w fun x11 =>
 next2 [x11] w)) (World.drew1 w))
 (R (Value.int .i64 (-1)) w)
def cfg218 : Cfg := { ext := extL, joins := [], loops := [(2, 524272, [5])], draws := [(4, [0, 1, 2, 3, 4, 5], 0)], pars := [] }
theorem F218_eq (a0 a1 : Value) (w : World) (R : Value → World → Prop) : vcF Tryz.prog cfg218 Tryz.f218 [a0, a1] w R = F218 a0 a1 w R := by kernel_rfl
theorem F218_call {a0 a1 : Value} {w : World} {R : Value → World → Prop} (h : F218 a0 a1 w R) : CALL Tryz.prog 218 [a0, a1] w R :=
  call_of (g := cfg218) ent mixed Tryz.func218 (Nat.le_of_ble_eq_true (by kernel_rfl)) (by kernel_rfl) (F218_eq a0 a1 w R ▸ h)
theorem l23At_ok {w : World} {v0 : Value} {W0 : World} {l : (List DState)} {v1 : Value} {W1 : World} {s : DState}  (h0 : Is W0 v0 l) (e0 : Ext W0 w) (h1 : Is W1 v1 s) (e1 : Ext W1 w)  :
    CALL Tryz.prog 218 [v0, v1] w fun r w' => Ext w w' ∧ (r = .int .i64 (plcG s l)) := by
  refine F218_call ?_
  unfold F218
  have hl := is_len h0
  refine op_boxS ty37 rfl h1 e1 fun w1_ hx1_ hA3 hV3 => ?_
  refine loopC (l.length) (fun k us w' => us = [.int .i64 (k : Int)] ∧ Ext w1_ w' ∧ (s ∉ l.take k)) (0) (by omega) ⟨by simp, Ext.refl w1_, by simp⟩ ?_
  rintro k m2 uu2 w2_ hk2 ⟨hu, hx2_, hinv⟩
  simp only [List.map_cons, List.map_nil, List.cons.injEq, and_true] at hu
  try rw [hu]
  try clear hu
  have hln8 := is_len h0
  refine rd_len u103 h0 ?_
  refine rd_lss ?_
  refine br (fun c1 => ?_) (fun c1 => ?_)
  · have hx3_ := ext_drew w2_
    refine rd_indexN u103 ty37 h0 (by omega) fun b14 o14 h14 => ?_
    refine rd_load ty37 h14 (e0.trans (hx1_.trans (hx2_.trans hx3_))) fun v15 h15 => ?_
    refine rd_var hV3 (hx2_.trans hx3_) ?_
    refine (specSameState_ok h15 (e0.trans (hx1_.trans (hx2_.trans hx3_))) h1 (e1.trans (hx1_.trans (hx2_.trans hx3_)))).mono ?_
    rintro _ w4_ ⟨hx4_, rfl⟩
    refine br (fun c2 => ?_) (fun c2 => ?_)
    · refine ⟨(hx1_.trans (hx2_.trans (hx3_.trans hx4_))), ?_⟩
      rw [plcG_at (by omega) hinv c2]
    · refine rd_inc (by omega) ?_
      refine ⟨m2 - 1, by omega, k + 1, by omega, by simp, (hx2_.trans (hx3_.trans hx4_)), ?_⟩
      exact mem_take_succG (by omega) hinv c2
  · refine ⟨(hx1_.trans hx2_), ?_⟩
    rw [List.take_of_length_le (by omega)] at hinv
    rw [plcG_none hinv]
theorem placeCl_ok {w W0 W1 : World} {v0 : Value} {x s : DState} {b : Nat} (h0 : Is W0 v0 x) (e0 : Ext W0 w) (hA : At W1 b 0 s) (e1 : Ext W1 w) :
    CALL Tryz.prog 273 [v0, .pointer (some ⟨b, 0, none⟩)] w fun r w' => Ext w w' ∧ r = .bool (decide (x = s)) := by
  refine F273_call ?_
  unfold F273
  refine op_box h0 e0 fun w1 hx1 hA0 => ?_
  refine rd_load ty37 hA0 (Ext.refl _) fun v4 h4 => ?_
  refine rd_load ty37 hA (e1.trans hx1) fun v5 h5 => ?_
  refine (implSameState_ok h4 (Ext.refl _) h5 (e1.trans hx1)).mono ?_
  rintro _ w2 ⟨hx2, rfl⟩
  exact ⟨hx1.trans hx2, rfl⟩
theorem opn_funcC {P : Program} {f : Nat} {args caps : List Value} {w : World} {K : Value → World → Prop} (hE : enters P f = true) (h : CALL P f (args ++ caps) w K) : OPN P (callV (.func (.func f) #[] caps.toArray) args) w K := by
  obtain ⟨h⟩ := h
  refine .enter f (args ++ caps).toArray w ?_ h
  simp [callV, Deferred.ofValue, invoke, run_callFunc hE]
theorem entPl : enters Tryz.prog 273 = true := by kernel_rfl
def F272 (a0 a1 : Value) (w : World) (R : Value → World → Prop) : Prop :=
 RD Tryz.prog (Builtin.len_ #[103] 3 [a0].toArray) w fun x7 =>
 LOOPI [8] [(Value.int .i64 0)] w fun u2 w next2 =>
 RD Tryz.prog (bin .lss 3 (.tmp 0) (.tmp 0) (u2 8) x7) w fun x9 =>
 BR x9
 (RD Tryz.prog (Instr.indexAt 103 a0 (u2 8)) w fun x14 =>
 RD Tryz.prog (Instr.loadAt 37 x14) w fun x15 =>
 OPN Tryz.prog (callV a1 [x15]) w fun x16 w =>
 BR x16
 (R (u2 8) w)
 (RD Tryz.prog (bin .add 3 (.tmp 0) (.const undef) (u2 8) (Value.int .i64 1)) w fun x18 =>
 next2 [x18] w))
 (R (Value.int .i64 (-1)) w)
def cfg272 : Cfg := { ext := extL, joins := [], loops := [(2, 524080, [8])], draws := [], pars := [] }
theorem F272_eq (a0 a1 : Value) (w : World) (R : Value → World → Prop) : vcF Tryz.prog cfg272 Tryz.f272 [a0, a1] w R = F272 a0 a1 w R := by kernel_rfl
theorem F272_call {a0 a1 : Value} {w : World} {R : Value → World → Prop} (h : F272 a0 a1 w R) : CALL Tryz.prog 272 [a0, a1] w R :=
  call_of (g := cfg272) ent mixed Tryz.func272 (Nat.le_of_ble_eq_true (by kernel_rfl)) (by kernel_rfl) (F272_eq a0 a1 w R ▸ h)
theorem indexFuncSt_ok {w : World} {v0 : Value} {W0 : World} {l : (List DState)} {v1 : Value} {s : DState} {WA : World} {ba : Nat} (h0 : Is W0 v0 l) (e0 : Ext W0 w) (hf : v1 = .func (.func 273) #[] #[.pointer (some ⟨ba, 0, none⟩)]) (hA : At WA ba 0 s) (eA : Ext WA w) :
    CALL Tryz.prog 272 [v0, v1] w fun r w' => Ext w w' ∧ (r = .int .i64 (plcG s l)) := by
  refine F272_call ?_
  unfold F272
  subst hf
  have hl := is_len h0
  have hln7 := is_len h0
  refine rd_len u103 h0 ?_
  refine loopC (l.length) (fun k us w' => us = [.int .i64 (k : Int)] ∧ Ext w w' ∧ (s ∉ l.take k)) (0) (by omega) ⟨by simp, Ext.refl w, by simp⟩ ?_
  rintro k m2 uu2 w1_ hk2 ⟨hu, hx1_, hinv⟩
  simp only [List.map_cons, List.map_nil, List.cons.injEq, and_true] at hu
  try rw [hu]
  try clear hu
  refine rd_lss ?_
  refine br (fun c1 => ?_) (fun c1 => ?_)
  · refine rd_indexN u103 ty37 h0 (by omega) fun b14 o14 h14 => ?_
    refine rd_load ty37 h14 (e0.trans hx1_) fun v15 h15 => ?_
    refine opn_funcC (args := [v15]) (caps := [_]) entPl ((placeCl_ok h15 (e0.trans hx1_) hA (eA.trans hx1_)).mono ?_)
    rintro _ w9 ⟨hx9, rfl⟩
    refine br (fun c2 => ?_) (fun c2 => ?_)
    · refine ⟨(hx1_.trans hx9), ?_⟩
      rw [plcG_at (by omega) hinv c2]
    · refine rd_inc (by omega) ?_
      refine ⟨m2 - 1, by omega, k + 1, by omega, by simp, (hx1_.trans hx9), ?_⟩
      exact mem_take_succG (by omega) hinv c2
  · refine ⟨hx1_, ?_⟩
    rw [List.take_of_length_le (by omega)] at hinv
    rw [plcG_none hinv]
theorem implPlace_ok {w W0 W1 : World} {v0 v1 : Value} {l : List DState} {s : DState} (h0 : Is W0 v0 l) (e0 : Ext W0 w) (h1 : Is W1 v1 s) (e1 : Ext W1 w) :
    CALL Tryz.prog 224 [v0, v1] w fun r w' => Ext w w' ∧ r = .int .i64 (plcG s l) := by
  refine F224_call ?_
  unfold F224
  refine op_box h1 e1 fun w1 hx1 hA => ?_
  refine rd_of (v := .func (.func 273) #[] #[.pointer (some ⟨w.heap.size, 0, none⟩)]) (fun w' _ => by simp [Instr.makeFunc]) ?_
  refine (indexFuncSt_ok h0 (e0.trans hx1) rfl hA (Ext.refl w1)).mono ?_
  rintro _ w2 ⟨hx2, rfl⟩
  exact ⟨hx1.trans hx2, rfl⟩
theorem zlTr : zeroL Tryz.prog 179 = some [.slice none 0 0, .slice none 0 0, .slice none 0 0, .bool false] := by kernel_rfl
def seQ (c : DCode) (z : DTrail) (g : Nat) (i t : Nat) (w0 : World) : ParQ := fun j u T w => match j with
  | 0 => Is w0 (u 43) c
  | 1 => u 44 = .pointer (some ⟨g, 0 + 0, none⟩)
  | 2 => u 45 = z.states.v
  | 3 => u 46 = .int .i64 (i : Int)
  | 4 => ∃ b o, u 47 = .pointer (some ⟨b, o, none⟩) ∧ At w0 b o (stAt z.er i)
  | 5 => Is w0 (u 48) (stAt z.er i)
  | 6 => u 49 = .int .i64 (t : Int)
  | 7 => OwnI (T 7).1 (T 7).2 w (u 50) (stepD c (stAt z.er i) t)
  | 8 => ∃ gg, u 8 = .pointer (some ⟨gg, 0, none⟩) ∧ (T 8).1 ≤ gg ∧ gg < (T 8).2 ∧ Blk gg 37 w [.slice none 0 0, .slice none 0 0, .slice none 0 0]
  | _ => True
theorem search_ok {w W0 : World} {v0 : Value} {c : DCode} {m : Int} (h0 : Is W0 v0 c) (e0 : Ext W0 w) (hw : wCode c ≤ 1048576) (hc : CodeR c) :
    CALL Tryz.prog 159 [v0, .int .i64 m] w fun r w' => Ext w w' ∧ ∃ z : DTrail, OwnI w.heap.size w'.heap.size w' r z ∧ z.er = lookD c (brought m 1 150).toNat ∧ TrOk c (brought m 1 150).toNat z.er := by
  refine F159_call ?_
  unfold F159
  refine op_box h0 e0 fun w1 hx1 hA => ?_
  refine op_varZ (α := DTrail) zlTr fun w2 hx2 hv4 => ?_
  have hs1 := hx1.size
  have hs2 := hx2.size
  have hg4 := hv4.lt
  refine implBrought_ok.mono ?_
  rintro _ w3 ⟨hx3, rfl⟩
  have hs3 := hx3.size
  have hMi := brought_in m
  obtain ⟨M, hM, hM1, hM2⟩ : ∃ M : Nat, brought m 1 150 = (M : Int) ∧ 1 ≤ M ∧ M ≤ 150 := ⟨(brought m 1 150).toNat, by omega, by omega, by omega⟩
  rw [hM]
  have hMt : ((M : Nat) : Int).toNat = M := by omega
  rw [hMt]
  refine rd_load ty35 hA (hx2.trans hx3) fun v11 h11 => ?_
  refine (startIn_ok h11 (hx2.trans hx3) hw hc).mono ?_
  rintro r12 w4 ⟨hx4, o12⟩
  have o12 := o12.toI
  have hs4 := hx4.size
  refine op_buildR (β := DState) u103 ty37 z37 (by decide) o12 (by omega) fun v13 w5 hx5 r13 => ?_
  have hs5 := hx5.size
  refine op_buildR (β := Int) (lo2 := w5.heap.size) (hi2 := w5.heap.size) u23 ty3 z3 (by decide) (ownI_int (x := -1) (by unfold I64; omega)) (by omega) fun v14 w6 hx6 r14 => ?_
  have hs6 := hx6.size
  refine op_buildR (β := Int) (lo2 := w6.heap.size) (hi2 := w6.heap.size) u23 ty3 z3 (by decide) (ownI_int (x := -1) (by unfold I64; omega)) (by omega) fun v15 w7 hx7 r15 => ?_
  have hs7 := hx7.size
  have o13 := ownI_rv ((r13.ext hx6).ext hx7)
  have o14 := ownI_rv (r14.ext hx7)
  have o15 := ownI_rv r15
  obtain ⟨a13, n13, c13, e13⟩ := ownI_form r13.own
  obtain ⟨a14, n14, c14, e14⟩ := ownI_form r14.own
  obtain ⟨a15, n15, c15, e15⟩ := ownI_form r15.own
  have otr := ownI_trail (z := ⟨⟨v13, [startD c]⟩, ⟨v14, [-1]⟩, ⟨v15, [-1]⟩, true⟩) o13 o14 o15 (by omega)
  refine rd_build (cells := #[v13, v14, v15, .bool true]) (by rw [e13, e14, e15]; kernel_rfl) ?_
  refine op_varZ (α := DTrail) zlTr fun w8 hx8 hv5 => ?_
  have hs8 := hx8.size
  have hg5 := hv5.lt
  refine opu_varA ty179 hv5 (otr.ext hx8) (by omega) fun w9 hc9 hv9 => ?_
  have hs9 := hc9.size
  have hx39 : Ext w3 w9 := Ext.chgI (hx4.trans (hx5.trans (hx6.trans (hx7.trans hx8)))) hc9 (by omega)
  generalize hgd : w7.heap.size = g at *
  have hv9 := hv9.mono (lo' := w3.heap.size) (hi' := w9.heap.size) (Nat.le_refl _) (by omega)
  -- what a round ends with
  have fin : ∀ (z : DTrail) (w' : World) (hi : Nat), Ext w3 w' → VarI w3.heap.size hi w' g z → hi ≤ w'.heap.size → TrOk c M z.er → z.er = lookD c M →
      RD Tryz.prog (Instr.loadAt 179 (.pointer (some ⟨g, 0, none⟩))) w' fun x82 => OPU Tryz.prog (Instr.storeAt 179 (.pointer (some ⟨w1.heap.size, 0, none⟩)) x82) w' fun w'' =>
        RD Tryz.prog (loadRes 179 (.pointer (some ⟨w1.heap.size, 0, none⟩))) w'' fun r => Ext w w'' ∧ ∃ z : DTrail, OwnI w.heap.size w''.heap.size w'' r z ∧ z.er = lookD c M ∧ TrOk c M z.er := by
    intro z w' hi hx hv hhi hok hz
    refine rd_varI ty179 hv (Ext.refl _) fun v82 o82 => ?_
    refine opu_varA ty179 (hv4.ext (hx3.trans hx)) o82 (by omega) fun w'' hc hv4' => ?_
    have hsc := hc.size
    refine rd_varRI ty179 hv4' (Ext.refl _) fun r o => ?_
    exact ⟨Ext.chgI (hx1.trans (hx2.trans (hx3.trans hx))) hc (by omega), z, o.mono (by omega) (by omega), hz, hok⟩
  refine loopC M (fun k us w' => us = [.int .i64 (k : Int)] ∧ ∃ (z : DTrail) (hi : Nat), Ext w3 w' ∧ VarI w3.heap.size hi w' g z ∧ g < hi ∧ hi ≤ w'.heap.size ∧ TrOk c M z.er ∧ k ≤ z.states.l.length ∧ lookGo c M (M - k) k z.er = lookD c M) 0 (by omega)
    ⟨rfl, _, w9.heap.size, hx39, hv9, by omega, Nat.le_refl _, start_ok hc hM1, Nat.zero_le _, rfl⟩ ?_
  rintro k mk u w10 hkm ⟨hu, z, hi, hx10, hv10, hgh, hhi, hok, hkl, hlook⟩
  simp only [List.map_cons, List.map_nil, List.cons.injEq, and_true] at hu
  rw [hu]
  have hmany : 1 ≤ z.states.l.length ∧ z.states.l.length ≤ M := hok.many
  refine rd_fld fd179_0 ?_
  refine rd_loadV ty103 (at_DTrail_0 hv10.at) (Ext.refl _) ?_
  have hst := at_rv (at_DTrail_0 hv10.at)
  refine rd_len u103 hst ?_
  refine rd_lss ?_
  refine br (fun hlt => ?_) (fun hge => ?_)
  case refine_2 =>
    refine fin z w10 hi hx10 hv10 hhi hok ?_
    rw [← hlook, lookGo_end (f := z.er) (by show z.states.l.length ≤ k; omega)]
  have hkz : k < z.states.l.length := by omega
  refine rd_fld fd179_0 ?_
  refine rd_loadV ty103 (at_DTrail_0 hv10.at) (Ext.refl _) ?_
  refine rd_indexN u103 ty37 hst hkz fun b27 o27 h27 => ?_
  replace h27 : At w10 b27 o27 (stAt z.er k) := by rw [← stAt_get (f := z.er) hkz]; exact h27
  refine rd_fld fd37_2 ?_
  refine rd_load ty27 (at_DState_2 h27) (Ext.refl _) fun v29 h29 => ?_
  refine rd_len u27 h29 ?_
  have hsr : StateR c (stAt z.er k) := hok.right _ (by rw [← stAt_get (f := z.er) hkz]; exact List.getElem_mem _)
  obtain ⟨s, hsd⟩ : ∃ s, stAt z.er k = s := ⟨_, rfl⟩
  rw [hsd] at hsr ⊢
  have hn6 := hsr.2.2.1
  refine loopC s.stacks.length (fun t us w' => us = [.int .i64 (t : Int)] ∧ ∃ (z' : DTrail) (hi' : Nat), Ext w3 w' ∧ VarI w3.heap.size hi' w' g z' ∧ g < hi' ∧ hi' ≤ w'.heap.size ∧ TrOk c M z'.er ∧ k < z'.states.l.length ∧ stAt z'.er k = s ∧
      rowGo c M k s.stacks.length 0 z.er = rowGo c M k (s.stacks.length - t) t z'.er) 0 (by omega)
    ⟨rfl, z, hi, hx10, hv10, hgh, hhi, hok, hkz, hsd, rfl⟩ ?_
  rintro t mt u7 w11 htm ⟨hu7, z', hi', hx11, hv11, hgh', hhi', hok', hkz', hsd', hrow⟩
  simp only [List.map_cons, List.map_nil, List.cons.injEq, and_true] at hu7
  rw [hu7]
  refine rd_lss ?_
  refine br (fun htl => ?_) (fun htg => ?_)
  case refine_2 =>
    have ht : t = s.stacks.length := by omega
    subst ht
    rw [Nat.sub_self, rowGo] at hrow
    rw [← hsd] at hrow
    refine rd_inc (by omega) ?_
    refine ⟨mk - 1, by omega, k + 1, by omega, rfl, z', hi', hx11, hv11, hgh', hhi', hok', by omega, ?_⟩
    rw [← hlook, show M - k = (M - (k + 1)) + 1 by omega, lookGo_next (f := z.er) hkz hrow]
  have htn : t < s.stacks.length := by omega
  have hq : s.stacks.length - t = (s.stacks.length - (t + 1)) + 1 := by omega
  have hx12 := ext_drew w11
  have hs12 := hx12.size
  have hst' := at_rv (at_DTrail_0 hv11.at)
  refine rd_load ty35 hA (hx2.trans (hx3.trans (hx11.trans hx12))) fun v34 h34 => ?_
  refine rd_fld fd179_0 ?_
  refine rd_loadV ty103 (at_DTrail_0 hv11.at) hx12 ?_
  refine rd_indexN u103 ty37 hst' hkz' fun b38 o38 h38 => ?_
  replace h38 : At w11 b38 o38 s := by rw [← hsd', ← stAt_get (f := z'.er) hkz']; exact h38
  refine rd_load ty37 h38 hx12 fun v39 h39 => ?_
  refine (goes_ok h34 (hx2.trans (hx3.trans (hx11.trans hx12))) h39 hx12 hc hsr).mono ?_
  rintro _ w13 ⟨hx13, rfl⟩
  have hs13 := hx13.size
  refine rd_nodec ?_
  refine br (fun hng => ?_) (fun hg => ?_)
  · refine rd_inc (by omega) ?_
    refine ⟨mt - 1, by omega, t + 1, by omega, rfl, z', hi', hx11.trans (hx12.trans hx13), hv11.ext (hx12.trans hx13), hgh', by omega, hok', hkz', hsd', ?_⟩
    rw [hrow, hq, rowGo_go (visit_no (f := z'.er) (by rw [hsd']; exact hng))]
  have hgo : GoR c s t := Decidable.not_not.1 hg
  have hx14 := ext_drew w13
  have hs14 := hx14.size
  have hxx : Ext w11 (World.drew1 w13) := hx12.trans (hx13.trans hx14)
  generalize World.drew1 w13 = w14 at *
  refine PAR.mk (seQ c z' g k t w14) ?_ ?_ ?_
  · intro i u u' T T' wa wb hxa hxb hd hq
    match i, hd, hq with
    | 0, hd, hq => have := (hd (0, 43) (by decide)).1; show Is _ (u' 43) _; simp only [this]; exact hq
    | 1, hd, hq => exact (hd (1, 44) (by decide)).1.trans hq
    | 2, hd, hq => exact (hd (2, 45) (by decide)).1.trans hq
    | 3, hd, hq => exact (hd (3, 46) (by decide)).1.trans hq
    | 4, hd, ⟨b, o, q1, q2⟩ => exact ⟨b, o, (hd (4, 47) (by decide)).1.trans q1, q2⟩
    | 5, hd, hq => have := (hd (5, 48) (by decide)).1; show Is _ (u' 48) _; simp only [this]; exact hq
    | 6, hd, hq => exact (hd (6, 49) (by decide)).1.trans hq
    | 7, hd, hq =>
      obtain ⟨e1, e2⟩ := hd (7, 50) (by decide)
      simp only at e1 e2
      show OwnI (T' 7).1 (T' 7).2 wb (u' 50) _
      rw [e1, e2]; exact OwnI.ext hq hxb
    | 8, hd, ⟨gg, q1, q2, q3, q4⟩ =>
      obtain ⟨e1, e2⟩ := hd (8, 8) (by decide)
      simp only at e1 e2
      exact ⟨gg, e1.trans q1, by rw [e2]; exact q2, by rw [e2]; exact q3, q4.ext hxb⟩
    | n + 9, _, _ => trivial
  · refine ⟨fun u T w' hx _ _ => ?_, fun u T w' hx _ _ => ?_, fun u T w' hx _ hp => ?_, fun u T w' hx _ _ => ?_, fun u T w' hx _ hp => ?_, fun u T w' hx _ hp => ?_, fun u T w' hx _ _ => ?_, fun u T w' hx _ hp => ?_, fun u T w' hx _ _ => ?_, trivial⟩
    · exact rd_load ty35 hA (hx2.trans (hx3.trans (hx11.trans (hxx.trans hx)))) fun v h => ⟨Ext.refl _, h.ext (hx2.trans (hx3.trans (hx11.trans hxx)))⟩
    · exact rd_fld fd179_0 ⟨Ext.refl _, rfl⟩
    · have q0 : u 44 = _ := hp.1
      rw [q0]
      exact rd_loadV ty103 (at_DTrail_0 hv11.at) (hxx.trans hx) ⟨Ext.refl _, rfl⟩
    · exact ⟨Ext.refl _, rfl⟩
    · have q0 : u 45 = _ := hp.1
      have q1 : u 46 = _ := hp.2.1
      rw [q0, q1]
      refine rd_indexN u103 ty37 hst' hkz' fun b o h => ⟨Ext.refl _, b, o, rfl, ?_⟩
      rw [← stAt_get (f := z'.er) hkz']
      exact h.ext hxx
    · obtain ⟨b, o, q0, q1⟩ : ∃ b o, u 47 = .pointer (some ⟨b, o, none⟩) ∧ At w14 b o (stAt z'.er k) := hp.1
      rw [q0]
      exact rd_load ty37 q1 hx fun v h => ⟨Ext.refl _, h⟩
    · exact ⟨Ext.refl _, rfl⟩
    · have q0 : Is w14 (u 43) c := hp.1
      have q1 : Is w14 (u 48) (stAt z'.er k) := hp.2.1
      have q2 : u 49 = _ := hp.2.2.1
      rw [q2]
      have := stepped_ok q0 hx q1 hx hc (by rw [hsd']; exact hsr) (by rw [hsd']; exact hgo)
      exact this.mono fun r w5 ⟨hx5, ho⟩ => ⟨hx5, ho.toI⟩
    · exact op_alloc zlSt fun w5 hx5 hB => ⟨hx5, w'.heap.size, rfl, Nat.le_refl _, hB.lt, hB⟩
  rintro u10 T w15 hx15 hap ⟨-, -, -, -, -, -, -, o50, ⟨gg, q8, hgg0, hgg1, hB15⟩, -⟩
  have o50 : OwnI (T 7).1 (T 7).2 w15 (u10 50) (stepD c (stAt z'.er k) t) := o50
  rw [hsd'] at o50
  have t7 := hap.1 7 (by decide)
  have t8 := hap.1 8 (by decide)
  have d78 := hap.2 7 (by decide) 8 (by decide) (by decide)
  have hs15 := hx15.size
  have hsxx := hxx.size
  generalize u10 50 = v50 at *
  rw [q8]
  obtain ⟨ga, gb, gc, hge⟩ := agg3S o50
  subst hge
  refine opu_blkS ty37 rfl hB15 rfl o50 fun w16 hc16 hB16 => ?_
  have hs16 := hc16.size
  have hx16 : Ext w11 w16 := Ext.chgI (hxx.trans hx15) hc16 (by omega)
  have o16 := o50.chg hc16 (by omega)
  have hv16 := hv11.ext hx16
  refine rd_fld fd179_0 ?_
  refine rd_loadV ty103 (at_DTrail_0 hv16.at) (Ext.refl _) ?_
  have hst16 := at_rv (at_DTrail_0 hv16.at)
  refine rd_blkS hB16 ty37 ?_
  refine (implPlace_ok hst16 (Ext.refl _) o16.is (Ext.refl _)).mono ?_
  rintro _ w17 ⟨hx17, rfl⟩
  have hs17 := hx17.size
  refine rd_geq ?_
  refine br (fun hold => ?_) (fun hnew => ?_)
  · refine rd_inc (by omega) ?_
    refine ⟨mt - 1, by omega, t + 1, by omega, rfl, z', hi', hx11.trans (hx16.trans hx17), hv16.ext hx17, hgh', by omega, hok', hkz', hsd', ?_⟩
    rw [hrow, hq, rowGo_go (visit_old (f := z'.er) (by rw [hsd']; exact hgo) (by rw [hsd']; exact plcG_iff.1 hold))]
  have hno : stepD c (stAt z'.er k) t ∉ z'.er.states := fun h => hnew (by rw [hsd'] at h; exact plcG_iff.2 h)
  have hgo' : GoR c (stAt z'.er k) t := by rw [hsd']; exact hgo
  have hv17 := hv16.ext hx17
  refine rd_fld fd179_0 ?_
  refine rd_loadV ty103 (at_DTrail_0 hv17.at) (Ext.refl _) ?_
  have hst17 := at_rv (at_DTrail_0 hv17.at)
  refine rd_len u103 hst17 ?_
  refine rd_eql ?_
  refine br (fun hfull => ?_) (fun hroom => ?_)
  · have hfull' : z'.er.states.length = M := by show z'.states.l.length = M; omega
    refine rd_fld fd179_3 ?_
    obtain ⟨F, hO, hF⟩ := hv17
    obtain ⟨G, hL⟩ := lens_DTrail_3 (Lens.var hO)
    refine opu_varM ty4 hL (lo := w3.heap.size) (hi := w17.heap.size) (fun b hb => by have := hF b hb; omega) (by omega) mine_bool fun w18 hc18 hv18 => ?_
    have hs18 := hc18.size
    refine fin _ w18 w17.heap.size (Ext.chgI (hx11.trans (hx16.trans hx17)) hc18 (Nat.le_refl _)) hv18 (by omega) hok'.not ?_
    have hvis := visit_full (M := M) hgo' hno hfull'
    rw [← hlook, show M - k = (M - (k + 1)) + 1 by omega, lookGo_stop (f := z.er) hkz (by rw [hsd, hrow, hq, rowGo_stop (by rw [hvis]), hvis])]
    rfl
  have hroom' : ¬ z'.er.states.length = M := by show ¬ z'.states.l.length = M; omega
  have hle' : z'.states.l.length ≤ M := hok'.many.2
  have hla' : z'.ahead.l.length = z'.states.l.length := hok'.la
  have hlw' : z'.went.l.length = z'.states.l.length := hok'.lw
  have hB17 := hB16.ext hx17
  refine rd_fld fd179_0 ?_
  refine rd_loadV ty103 (at_DTrail_0 hv17.at) (Ext.refl _) ?_
  refine rd_blkS hB17 ty37 ?_
  refine op_pushF (β := DState) u103 ty37 z37 zc37 (by decide) ty103 hv11 ⟨by omega, hgh'⟩ (hx16.trans hx17) (fun hO => lens_DTrail_0 (Lens.var hO)) (o16.ext hx17) (by omega) (by omega) (by have := hx11.size; omega) (by rw [maxLen_eq]; omega) (by omega) (fun v67 w18 hc18 hv18 => ?_) fun a w1' hxa hop => hop.mono fun r w2' hr => rd_fld fd179_0 hr.2
  have hs18 := hc18.size
  refine rd_fld fd179_1 ?_
  refine rd_loadV ty23 (at_DTrail_1 hv18.at) (Ext.refl _) ?_
  refine op_pushF (β := Int) (lo2 := w18.heap.size) (hi2 := w18.heap.size) u23 ty3 z3 zc3 (by decide) ty23 hv18 ⟨by omega, by omega⟩ (Ext.refl _) (fun hO => lens_DTrail_1 (Lens.var hO)) (ownI_int (x := (k : Int)) (by unfold I64; omega)) (by omega) (by omega) (by have := hx11.size; omega) (by rw [maxLen_eq]; show z'.ahead.l.length + 1 ≤ _; omega) (by show (z'.ahead.l.length + 1) * _ ≤ _; omega) (fun v73 w19 hc19 hv19 => ?_) fun a w1' hxa hop => hop.mono fun r w2' hr => rd_fld fd179_1 hr.2
  have hs19 := hc19.size
  refine rd_fld fd179_2 ?_
  refine rd_loadV ty23 (at_DTrail_2 hv19.at) (Ext.refl _) ?_
  refine op_pushF (β := Int) (lo2 := w19.heap.size) (hi2 := w19.heap.size) u23 ty3 z3 zc3 (by decide) ty23 hv19 ⟨by omega, by omega⟩ (Ext.refl _) (fun hO => lens_DTrail_2 (Lens.var hO)) (ownI_int (x := (t : Int)) (by unfold I64; omega)) (by omega) (by omega) (by have := hx11.size; omega) (by rw [maxLen_eq]; show z'.went.l.length + 1 ≤ _; omega) (by show (z'.went.l.length + 1) * _ ≤ _; omega) (fun v79 w20 hc20 hv20 => ?_) fun a w1' hxa hop => hop.mono fun r w2' hr => rd_fld fd179_2 hr.2
  have hs20 := hc20.size
  refine rd_inc (by omega) ?_
  have hpush := hok'.push hc hkz' hgo' (by omega) hroom'
  have hvis := visit_new (M := M) hgo' hno hroom'
  rw [hsd'] at hpush hvis
  refine ⟨mt - 1, by omega, t + 1, by omega, rfl, _, w20.heap.size, Ext.chgI (Ext.chgI (Ext.chgI hx11 hc18 (Nat.le_refl _)) hc19 (Nat.le_refl _)) hc20 (Nat.le_refl _), hv20, by omega, Nat.le_refl _, hpush, by show k < (z'.states.l ++ [_]).length; simp; omega, ?_, ?_⟩
  · exact (stAt_push (f := z'.er) hkz').trans hsd'
  · rw [hrow, hq, rowGo_go hvis]; rfl
end Go.Proofs.YtjgfldfbljmhhaaGreat
namespace Go.Sh
open Go Go.Proofs
set_option linter.unusedVariables false
set_option linter.unusedSimpArgs false
theorem op_appG {P : Program} {w w0 : World} {α : Type} [Rep α] [Flat α] {e : Nat} {v : Value} {l : List α} {F0 : List Nat} {t ty : TypeId} {by_ : Nat} {src : Value} {m : List α} {K : Value → World → Prop} (ht : P.underlying t = some (.slice e)) (he : tyI P e = some (Rep.size α, by_, Rep.agg α))
    (hzc : (P.info? e).map (fun i => (i.zero.map (·.cells.size))) = some (some (Rep.size α))) (hv : RowG F0 e w v l) (hn0 : F0.Nodup) (hs : Is w0 src m) (hx : Ext w0 w) (hm : l.length + m.length ≤ maxLen) (hb : (l.length + m.length) * by_ ≤ 140737488355328)
    (k : ∀ v' w' F', Chg F0 w w' → RowG F' e w' v' (l ++ m) → F'.Nodup → (∀ c ∈ F', c ∈ F0 ∨ w.heap.size ≤ c) → K v' w') : OP P (Builtin.append_ #[t, t] ty [v, src].toArray) w K := by
  obtain ⟨a, cap, Fi, xs, rfl, h1, h2, hc, h4⟩ := is_list (hs.ext hx)
  have hFi := Cells.flat (xs := xs) hc
  subst hFi
  have key : ∀ (v : Value) (F : List Nat), RowF F e w v l → F.Nodup → (∀ b ∈ F, b ∈ F0) → OP P (Builtin.append_ #[t, t] ty [v, .slice a m.length cap].toArray) w K := by
    intro v F hF hFn hFl
    refine op_append (m := m) ht he hzc hF hFn rfl hc (by rcases h4 with h | ⟨b, o, ha, hr, _⟩; exact .inl h; exact .inr ⟨b, o, ha, hr⟩) (Wr.nil _) (by simpa using hFn) hm hb fun v' w' F' hch hfull hr' hn' hs' => ?_
    have hown : ∀ c ∈ v.ownBlock.toList, c ∈ F0 := fun c hc => by
      obtain ⟨xs, Fi, _, _, rfl, _⟩ := hF
      exact hFl c (by simp only [List.mem_append]; exact .inl hc)
    refine k v' w' F' (hch.mono hown) (.inr hr') hn' fun c hc => ?_
    rcases hs' c hc with h | h | h
    · exact .inl (hFl c h)
    · simp at h
    · exact .inr h
  rcases hv with ⟨a0, rfl, rfl, rfl⟩ | hF
  · have kn := key (.slice none 0 0) [] (rowF_none e w) List.nodup_nil (by simp)
    cases a0 with
    | none => exact kn
    | some x0 =>
      by_cases hm0 : m = []
      · subst hm0
        refine ⟨.slice (some x0) 0 0, w, ?_, k _ w [] (Chg.refl _ w) (.inl ⟨some x0, rfl, rfl, rfl⟩) List.nodup_nil (by simp)⟩
        have hf : (Builtin.firstCells (Rep.size α) 0 (.slice a 0 cap)).run P w = .ok #[] w := by
          cases a with
          | none => rfl
          | some a => simp [Builtin.firstCells, loadCells, loadCellsFrom]
        simp [Builtin.append_, run_underlying ht, run_sizeOf' he, Builtin.lenOf, hf, storeCells]
      · rcases h4 with h | ⟨b, o, rfl, hr, _⟩
        · exact absurd h hm0
        · exact op_of_eq (append_zcap (α := α) ht he hzc (Cells.len hc) hr (List.length_pos_iff.2 hm0) (by simpa using hm) (by simpa using hb)) kn
  · exact key v F0 hF hn0 fun _ h => h
end Go.Sh
namespace Go.Proofs.YtjgfldfbljmhhaaGreat
open Go Go.Sh Go.Proofs
set_option linter.unusedVariables false
def F99 (a0 a1 : Value) (w : World) (R : Value → World → Prop) : Prop :=
 RD Tryz.prog (Instr.loadAt 23 a1) w fun x5 =>
 CALL Tryz.prog 100 [a0, x5] w fun x6 w =>
 R x6 w
def cfg99 : Cfg := { ext := extL, joins := [], loops := [], draws := [], pars := [] }
theorem F99_eq (a0 a1 : Value) (w : World) (R : Value → World → Prop) : vcF Tryz.prog cfg99 Tryz.f99 [a0, a1] w R = F99 a0 a1 w R := by kernel_rfl
theorem F99_call {a0 a1 : Value} {w : World} {R : Value → World → Prop} (h : F99 a0 a1 w R) : CALL Tryz.prog 99 [a0, a1] w R :=
  call_of (g := cfg99) ent mixed Tryz.func99 (Nat.le_of_ble_eq_true (by kernel_rfl)) (by kernel_rfl) (F99_eq a0 a1 w R ▸ h)
def F101 (a0 a1 : Value) (w : World) (R : Value → World → Prop) : Prop :=
 CALL Tryz.prog 167 [a0, a1] w fun x7 w =>
 RD Tryz.prog (bin .geq 3 (.tmp 0) (.const undef) x7 (Value.int .i64 0)) w fun x8 =>
 R x8 w
def cfg101 : Cfg := { ext := extL, joins := [], loops := [], draws := [], pars := [] }
theorem F101_eq (a0 a1 : Value) (w : World) (R : Value → World → Prop) : vcF Tryz.prog cfg101 Tryz.f101 [a0, a1] w R = F101 a0 a1 w R := by kernel_rfl
theorem F101_call {a0 a1 : Value} {w : World} {R : Value → World → Prop} (h : F101 a0 a1 w R) : CALL Tryz.prog 101 [a0, a1] w R :=
  call_of (g := cfg101) ent mixed Tryz.func101 (Nat.le_of_ble_eq_true (by kernel_rfl)) (by kernel_rfl) (F101_eq a0 a1 w R ▸ h)
set_option linter.unusedVariables false
set_option linter.unusedSimpArgs false
open Rep (rep)
theorem l18PutF_ok {w W1 : World} {F : List Nat} {v v1 : Value} {l : List DRace} {x : DRace} (h : Mine F w v l) (h1 : Is W1 v1 x) (e1 : Ext W1 w) (hn : l.length ≤ 1000000) :
    CALL Tryz.prog 92 [v, v1] w fun r w' => Ext w w' ∧ ∃ F', Mine F' w' r (putR x l) ∧ ∀ b ∈ F', b ∈ F ∨ w.heap.size ≤ b := by
  refine F92_call ?_
  unfold F92
  have hI := h.is
  refine op_box h1 e1 fun w1 hx1 hA => ?_
  refine JOIN.mk (fun us w' => ∃ k : Nat, us = [.int .i64 (k : Int)] ∧ Ext w1 w' ∧ k ≤ l.length ∧ ahd x l = k) ?_ ?_
  · refine loopC l.length (fun k us w' => us = [.int .i64 (k : Int)] ∧ Ext w1 w' ∧ k ≤ l.length ∧ ∀ j (h : j < k) (h2 : j < l.length), ltR l[j] x) 0 (Nat.zero_le _) ⟨rfl, Ext.refl w1, Nat.zero_le _, fun j h => by omega⟩ ?_
    rintro k mk u w2 hkm ⟨hu, hx2, hkl, hlt⟩
    simp only [List.map_cons, List.map_nil, List.cons.injEq, and_true] at hu
    rw [hu]
    have hx3 := ext_drew w2
    have hx23 := hx2.trans hx3
    generalize World.drew1 w2 = w3 at *
    refine rd_len u58 hI ?_
    refine rd_lss ?_
    refine br (fun hk => ?_) (fun hk => ?_)
    · have hk' : k < l.length := by omega
      refine rd_indexN u58 ty109 hI hk' fun b1 o1 hA1 => ?_
      refine rd_load ty109 hA1 (hx1.trans hx23) fun v15 h15 => ?_
      refine rd_load ty109 hA hx23 fun v16 h16 => ?_
      refine (raceLess_ok h15 (hx1.trans hx23) h16 hx23).mono ?_
      rintro _ w4 ⟨hx4, rfl⟩
      refine br_b (fun hc => ?_) (fun hc => ?_)
      · refine rd_inc (by omega) ?_
        refine ⟨mk - 1, by omega, k + 1, by omega, rfl, hx23.trans hx4, by omega, fun j hj hj2 => ?_⟩
        by_cases hjk : j < k
        · exact hlt j hjk hj2
        · have : j = k := by omega
          subst this
          simpa using hc
      · exact ⟨k, rfl, hx23.trans hx4, hkl, ahd_at hkl (fun j hj => hlt j hj (by omega)) fun h => by simpa using hc⟩
    · exact ⟨k, rfl, hx23, hkl, ahd_at hkl (fun j hj => hlt j hj (by omega)) fun h => by omega⟩
  rintro u w2 ⟨k, hu, hx2, hkl, hak⟩
  simp only [List.map_cons, List.map_nil, List.cons.injEq, and_true] at hu
  rw [hu]
  have hput := putR_ahd x l
  rw [hak] at hput
  refine JOIN.mk (fun us w' => Ext w1 w' ∧ putR x l = l.take k ++ (x :: l.drop k)) ?_ ?_
  · have hx3 := ext_drew w2
    have hx23 := hx2.trans hx3
    generalize World.drew1 w2 = w3 at *
    refine rd_len u58 hI ?_
    refine rd_lss ?_
    refine br (fun hk => ?_) (fun hk => ?_)
    · have hk' : k < l.length := by omega
      rw [dif_pos hk'] at hput
      refine rd_indexN u58 ty109 hI hk' fun b1 o1 hA1 => ?_
      refine rd_load ty109 hA1 (hx1.trans hx23) fun v15 h15 => ?_
      refine rd_load ty109 hA hx23 fun v16 h16 => ?_
      refine rd_eqlDRace h15 h16 ?_
      refine br (fun hc => ?_) (fun hc => ?_)
      · rw [if_pos hc] at hput
        have hx := hx1.trans hx23
        exact ⟨hx, F, by rw [hput]; exact h.ext hx, fun b hb => .inl hb⟩
      · rw [if_neg hc] at hput
        exact ⟨hx23, hput⟩
    · have hk' : k = l.length := by omega
      subst hk'
      rw [dif_neg (by omega)] at hput
      exact ⟨hx23, by rw [hput]; simp⟩
  rintro u6 w3 ⟨hx3, hpe⟩
  rw [hpe]
  have hx03 := hx1.trans hx3
  have hs03 := hx03.size
  refine op_build0I (α := DRace) u58 ty109 fun a w4 hx4 hr4 => ?_
  have hs4 := hx4.size
  refine rd_slice_to (i := (k : Int)) u58 ty109 hI (by omega) (by omega) fun v37 h37 => ?_
  refine op_appendI u58 ty109 zc109 hr4 (Nat.le_refl _) h37 (hx03.trans hx4) (by simp [maxLen]; omega) (by simp; omega) fun v38 w5 hc5 hr5 => ?_
  have hs5 := hc5.size
  have hx5 := (Ext.refl w4).chgI hc5 (Nat.le_refl _)
  refine rd_load ty109 hA (hx3.trans (hx4.trans hx5)) fun v40 h40 => ?_
  refine op_push (lo2 := w5.heap.size) (hi2 := w5.heap.size) u58 ty109 z109 zc109 (by decide) hr5 (by omega) (flat_own (h40.ext (hx3.trans (hx4.trans hx5)))) (Nat.le_refl _) (by omega) (by simp [maxLen]; omega) (by simp; omega) fun v42 w6 hc6 hr6 => ?_
  have hs6 := hc6.size
  refine rd_slice_from (i := (k : Int)) u58 ty109 hI (by omega) (by omega) fun v46 h46 => ?_
  have hx6 : Ext w w6 := (hx03.trans (hx4.trans hx5)).chgI hc6 (by omega)
  refine op_appendI u58 ty109 zc109 hr6 (by omega) h46 hx6 (by simp [maxLen]; omega) (by simp; omega) fun v47 w7 hc7 hr7 => ?_
  have hs7 := hc7.size
  refine ⟨hx6.chgI hc7 (by omega), ?_⟩
  obtain ⟨F', hM, hF⟩ := hr7.own
  refine ⟨F', ?_, fun b hb => .inr (by have := hF b hb; omega)⟩
  simpa using hM
theorem mem_take_succL {α : Type} {l : List α} {y : α} {k : Nat} (hk : k < l.length) (h : y ∉ l.take k) (c : ¬ l[k] = y) : y ∉ l.take (k + 1) := by
  rw [List.take_succ_eq_append_getElem hk]
  simp only [List.mem_append, List.mem_cons, List.not_mem_nil, or_false, not_or]
  exact ⟨h, fun e => c e.symm⟩
theorem seenCl_ok {w W0 W1 : World} {v0 : Value} {x m : List Int} {b : Nat} (h0 : Is W0 v0 x) (e0 : Ext W0 w) (hA : At W1 b 0 m) (e1 : Ext W1 w) :
    CALL Tryz.prog 99 [v0, .pointer (some ⟨b, 0, none⟩)] w fun r w' => Ext w w' ∧ r = .bool (decide (x = m)) := by
  refine F99_call ?_
  unfold F99
  refine rd_load ty23 hA e1 fun v5 h5 => ?_
  refine (equalInt_ok h0 e0 h5 e1).mono ?_
  rintro _ w2 ⟨hx2, rfl⟩
  exact ⟨hx2, rfl⟩
theorem entSeen : enters Tryz.prog 99 = true := by kernel_rfl
def F167 (a0 a1 : Value) (w : World) (R : Value → World → Prop) : Prop :=
 RD Tryz.prog (Builtin.len_ #[27] 3 [a0].toArray) w fun x7 =>
 LOOPI [8] [(Value.int .i64 0)] w fun u2 w next2 =>
 RD Tryz.prog (bin .lss 3 (.tmp 0) (.tmp 0) (u2 8) x7) w fun x9 =>
 BR x9
 (RD Tryz.prog (Instr.indexAt 27 a0 (u2 8)) w fun x14 =>
 RD Tryz.prog (Instr.loadAt 23 x14) w fun x15 =>
 OPN Tryz.prog (callV a1 [x15]) w fun x16 w =>
 BR x16
 (R (u2 8) w)
 (RD Tryz.prog (bin .add 3 (.tmp 0) (.const undef) (u2 8) (Value.int .i64 1)) w fun x18 =>
 next2 [x18] w))
 (R (Value.int .i64 (-1)) w)
def cfg167 : Cfg := { ext := extL, joins := [], loops := [(2, 524080, [8])], draws := [], pars := [] }
theorem F167_eq (a0 a1 : Value) (w : World) (R : Value → World → Prop) : vcF Tryz.prog cfg167 Tryz.f167 [a0, a1] w R = F167 a0 a1 w R := by kernel_rfl
theorem F167_call {a0 a1 : Value} {w : World} {R : Value → World → Prop} (h : F167 a0 a1 w R) : CALL Tryz.prog 167 [a0, a1] w R :=
  call_of (g := cfg167) ent mixed Tryz.func167 (Nat.le_of_ble_eq_true (by kernel_rfl)) (by kernel_rfl) (F167_eq a0 a1 w R ▸ h)
theorem indexFuncI_ok {w : World} {v0 : Value} {W0 : World} {l : (List (List Int))} {v1 : Value} {s : List Int} {WA : World} {ba : Nat} (h0 : Is W0 v0 l) (e0 : Ext W0 w) (hf : v1 = .func (.func 99) #[] #[.pointer (some ⟨ba, 0, none⟩)]) (hA : At WA ba 0 s) (eA : Ext WA w) :
    CALL Tryz.prog 167 [v0, v1] w fun r w' => Ext w w' ∧ (∃ n : Int, r = .int .i64 n ∧ (0 ≤ n ↔ s ∈ l)) := by
  refine F167_call ?_
  unfold F167
  subst hf
  have hl := is_len h0
  have hln7 := is_len h0
  refine rd_len u27 h0 ?_
  refine loopC (l.length) (fun k us w' => us = [.int .i64 (k : Int)] ∧ Ext w w' ∧ (s ∉ l.take k)) (0) (by omega) ⟨by simp, Ext.refl w, by simp⟩ ?_
  rintro k m2 uu2 w1_ hk2 ⟨hu, hx1_, hinv⟩
  simp only [List.map_cons, List.map_nil, List.cons.injEq, and_true] at hu
  try rw [hu]
  try clear hu
  refine rd_lss ?_
  refine br (fun c1 => ?_) (fun c1 => ?_)
  · refine rd_indexN u27 ty23 h0 (by omega) fun b14 o14 h14 => ?_
    refine rd_load ty23 h14 (e0.trans hx1_) fun v15 h15 => ?_
    refine opn_funcC (args := [v15]) (caps := [_]) entSeen ((seenCl_ok h15 (e0.trans hx1_) hA (eA.trans hx1_)).mono ?_)
    rintro _ w9 ⟨hx9, rfl⟩
    refine br (fun c2 => ?_) (fun c2 => ?_)
    · refine ⟨(hx1_.trans hx9), ?_⟩
      have : s ∈ l := c2 ▸ List.getElem_mem _
      exact ⟨_, rfl, by simp [this]⟩
    · refine rd_inc (by omega) ?_
      refine ⟨m2 - 1, by omega, k + 1, by omega, by simp, (hx1_.trans hx9), ?_⟩
      exact mem_take_succL (by omega) hinv c2
  · refine ⟨hx1_, ?_⟩
    rw [List.take_of_length_le (by omega)] at hinv
    exact ⟨-1, rfl, by simp [hinv]⟩
theorem containsFuncI_ok {w W0 W1 : World} {v0 : Value} {l : List (List Int)} {s : List Int} {b : Nat} (h0 : Is W0 v0 l) (e0 : Ext W0 w) (hA : At W1 b 0 s) (e1 : Ext W1 w) :
    CALL Tryz.prog 101 [v0, .func (.func 99) #[] #[.pointer (some ⟨b, 0, none⟩)]] w fun r w' => Ext w w' ∧ r = .bool (decide (s ∈ l)) := by
  refine F101_call ?_
  unfold F101
  refine (indexFuncI_ok h0 e0 rfl hA e1).mono ?_
  rintro _ w2 ⟨hx2, n, rfl, hn⟩
  refine rd_geq ?_
  exact ⟨hx2, by congr 1; rw [decide_eq_decide]; exact hn⟩
end Go.Proofs.YtjgfldfbljmhhaaGreat
namespace Go.Proofs.YtjgfldfbljmhhaaGreat
open Go Go.Sh Go.Proofs
set_option linter.unusedVariables false
def F154 (a0 a1 : Value) (w : World) (R : Value → World → Prop) : Prop :=
 OP Tryz.prog (Instr.box 35 a0) w fun x2 w =>
 CALL Tryz.prog 214 [a1, (Value.int .i64 1), (Value.int .i64 150)] w fun x10 w =>
 RD Tryz.prog (Instr.loadAt 35 x2) w fun x11 =>
 CALL Tryz.prog 215 [x11] w fun x12 w =>
 OP Tryz.prog (Instr.buildSlice 103 1 #[(0, x12)]) w fun x13 w =>
 OP Tryz.prog (Instr.buildSlice 23 1 #[(0, (Value.int .i64 (-1)))]) w fun x14 w =>
 OP Tryz.prog (Instr.buildSlice 23 1 #[(0, (Value.int .i64 (-1)))]) w fun x15 w =>
 RD Tryz.prog (Instr.build 173 #[(0, x13), (1, x14), (2, x15), (3, (Value.bool true))]) w fun x16 =>
 OP Tryz.prog (Instr.box 173 x16) w fun x17 w =>
 LOOPI [6] [(Value.int .i64 0)] w fun u4 w next4 =>
 NIL x17 <|
 RD Tryz.prog (Instr.fieldAt 173 x17 0) w fun x21 =>
 RD Tryz.prog (Instr.loadAt 103 x21) w fun x22 =>
 RD Tryz.prog (Builtin.len_ #[103] 3 [x22].toArray) w fun x23 =>
 RD Tryz.prog (bin .lss 3 (.tmp 0) (.tmp 0) (u4 6) x23) w fun x24 =>
 BR x24
 (LOOPI [7] [(Value.int .i64 0)] w fun u7 w next7 =>
 NIL x17 <|
 RD Tryz.prog (Instr.fieldAt 173 x17 0) w fun x30 =>
 RD Tryz.prog (Instr.loadAt 103 x30) w fun x31 =>
 RD Tryz.prog (Instr.indexAt 103 x31 (u4 6)) w fun x33 =>
 RD Tryz.prog (Instr.fieldAt 37 x33 2) w fun x34 =>
 RD Tryz.prog (Instr.loadAt 27 x34) w fun x35 =>
 RD Tryz.prog (Builtin.len_ #[27] 3 [x35].toArray) w fun x36 =>
 RD Tryz.prog (bin .lss 3 (.tmp 0) (.tmp 0) (u7 7) x36) w fun x37 =>
 BR x37
 ((fun w => RD Tryz.prog (Instr.loadAt 35 x2) w fun x40 =>
 NIL x17 <|
 RD Tryz.prog (Instr.fieldAt 173 x17 0) w fun x43 =>
 RD Tryz.prog (Instr.loadAt 103 x43) w fun x44 =>
 RD Tryz.prog (Instr.indexAt 103 x44 (u4 6)) w fun x46 =>
 RD Tryz.prog (Instr.loadAt 37 x46) w fun x47 =>
 CALL Tryz.prog 216 [x40, x47, (u7 7)] w fun x49 w =>
 RD Tryz.prog (Op.unary .not x49) w fun x50 =>
 BR x50
 (RD Tryz.prog (bin .add 3 (.tmp 0) (.const undef) (u7 7) (Value.int .i64 1)) w fun x39 =>
 next7 [x39] w)
 ((fun w0 => PAR w0 [[(0, 51)], [(1, 52)], [(2, 53), (1, 52)], [(3, 54), (2, 53)], [(4, 55), (3, 54)], [(5, 56)], [(6, 57), (4, 55), (5, 56)], [(7, 58), (6, 57)], [(8, 59)], [(9, 60), (0, 51), (7, 58), (8, 59)], [(10, 8)]] (fun Q =>
 (∀ (u10 : Env) (T : Nat → Nat × Nat) (w : World), Ext w0 w → Apart [] w0.heap.size w.heap.size T → (True) → (fun w1 => RD Tryz.prog (Instr.loadAt 35 x2) w fun x51 =>
 Ext w1 w ∧ Q 0 (upd u10 51 x51) (updT T 0 (w1.heap.size, w.heap.size)) w) w) ∧
 (∀ (u10 : Env) (T : Nat → Nat × Nat) (w : World), Ext w0 w → Apart [] w0.heap.size w.heap.size T → (True) → (fun w1 => Ext w1 w ∧ Q 1 (upd u10 52 x17) (updT T 1 (w1.heap.size, w.heap.size)) w) w) ∧
 (∀ (u10 : Env) (T : Nat → Nat × Nat) (w : World), Ext w0 w → Apart [1] w0.heap.size w.heap.size T → (Q 1 u10 T w ∧ True) → (fun w1 => NIL (u10 52) <|
 Ext w1 w ∧ Q 2 (upd u10 53 (u10 52)) (updT T 2 (w1.heap.size, w.heap.size)) w) w) ∧
 (∀ (u10 : Env) (T : Nat → Nat × Nat) (w : World), Ext w0 w → Apart [2] w0.heap.size w.heap.size T → (Q 2 u10 T w ∧ True) → (fun w1 => RD Tryz.prog (Instr.fieldAt 173 (u10 53) 0) w fun x54 =>
 Ext w1 w ∧ Q 3 (upd u10 54 x54) (updT T 3 (w1.heap.size, w.heap.size)) w) w) ∧
 (∀ (u10 : Env) (T : Nat → Nat × Nat) (w : World), Ext w0 w → Apart [3] w0.heap.size w.heap.size T → (Q 3 u10 T w ∧ True) → (fun w1 => RD Tryz.prog (Instr.loadAt 103 (u10 54)) w fun x55 =>
 Ext w1 w ∧ Q 4 (upd u10 55 x55) (updT T 4 (w1.heap.size, w.heap.size)) w) w) ∧
 (∀ (u10 : Env) (T : Nat → Nat × Nat) (w : World), Ext w0 w → Apart [] w0.heap.size w.heap.size T → (True) → (fun w1 => Ext w1 w ∧ Q 5 (upd u10 56 (u4 6)) (updT T 5 (w1.heap.size, w.heap.size)) w) w) ∧
 (∀ (u10 : Env) (T : Nat → Nat × Nat) (w : World), Ext w0 w → Apart [4, 5] w0.heap.size w.heap.size T → (Q 4 u10 T w ∧ Q 5 u10 T w ∧ True) → (fun w1 => RD Tryz.prog (Instr.indexAt 103 (u10 55) (u10 56)) w fun x57 =>
 Ext w1 w ∧ Q 6 (upd u10 57 x57) (updT T 6 (w1.heap.size, w.heap.size)) w) w) ∧
 (∀ (u10 : Env) (T : Nat → Nat × Nat) (w : World), Ext w0 w → Apart [6] w0.heap.size w.heap.size T → (Q 6 u10 T w ∧ True) → (fun w1 => RD Tryz.prog (Instr.loadAt 37 (u10 57)) w fun x58 =>
 Ext w1 w ∧ Q 7 (upd u10 58 x58) (updT T 7 (w1.heap.size, w.heap.size)) w) w) ∧
 (∀ (u10 : Env) (T : Nat → Nat × Nat) (w : World), Ext w0 w → Apart [] w0.heap.size w.heap.size T → (True) → (fun w1 => Ext w1 w ∧ Q 8 (upd u10 59 (u7 7)) (updT T 8 (w1.heap.size, w.heap.size)) w) w) ∧
 (∀ (u10 : Env) (T : Nat → Nat × Nat) (w : World), Ext w0 w → Apart [0, 7, 8] w0.heap.size w.heap.size T → (Q 0 u10 T w ∧ Q 7 u10 T w ∧ Q 8 u10 T w ∧ True) → (fun w1 => CALL Tryz.prog 217 [(u10 51), (u10 58), (u10 59)] w fun x60 w =>
 Ext w1 w ∧ Q 9 (upd u10 60 x60) (updT T 9 (w1.heap.size, w.heap.size)) w) w) ∧
 (∀ (u10 : Env) (T : Nat → Nat × Nat) (w : World), Ext w0 w → Apart [] w0.heap.size w.heap.size T → (True) → (fun w1 => OP Tryz.prog (Instr.alloc 37 true (.tuple #[])) w fun x8 w =>
 Ext w1 w ∧ Q 10 (upd u10 8 x8) (updT T 10 (w1.heap.size, w.heap.size)) w) w) ∧
 True)
 (fun Q => ∀ (u10 : Env) (T : Nat → Nat × Nat) (w : World), Ext w0 w → Apart [0, 1, 2, 3, 4, 5, 6, 7, 8, 9, 10] w0.heap.size w.heap.size T → (Q 0 u10 T w ∧ Q 1 u10 T w ∧ Q 2 u10 T w ∧ Q 3 u10 T w ∧ Q 4 u10 T w ∧ Q 5 u10 T w ∧ Q 6 u10 T w ∧ Q 7 u10 T w ∧ Q 8 u10 T w ∧ Q 9 u10 T w ∧ Q 10 u10 T w ∧ True) →
 OPU Tryz.prog (Instr.storeAt 37 (u10 8) (u10 60)) w fun w =>
 (fun w => NIL x17 <|
 RD Tryz.prog (Instr.fieldAt 173 x17 0) w fun x63 =>
 RD Tryz.prog (Instr.loadAt 103 x63) w fun x64 =>
 RD Tryz.prog (Instr.loadAt 37 (u10 8)) w fun x65 =>
 CALL Tryz.prog 218 [x64, x65] w fun x66 w =>
 RD Tryz.prog (bin .geq 3 (.tmp 0) (.const undef) x66 (Value.int .i64 0)) w fun x67 =>
 BR x67
 (RD Tryz.prog (bin .add 3 (.tmp 0) (.const undef) (u7 7) (Value.int .i64 1)) w fun x39 =>
 next7 [x39] w)
 (NIL x17 <|
 RD Tryz.prog (Instr.fieldAt 173 x17 0) w fun x70 =>
 RD Tryz.prog (Instr.loadAt 103 x70) w fun x71 =>
 RD Tryz.prog (Builtin.len_ #[103] 3 [x71].toArray) w fun x72 =>
 RD Tryz.prog (bin .eql 3 (.tmp 0) (.tmp 0) x72 x10) w fun x74 =>
 BR x74
 (NIL x17 <|
 RD Tryz.prog (Instr.fieldAt 173 x17 3) w fun x77 =>
 OPU Tryz.prog (Instr.storeAt 4 x77 (Value.bool false)) w fun w =>
 R x17 w)
 ((fun w => XR fun X => NIL x17 <|
 RDX Tryz.prog X (Instr.fieldAt 173 x17 0) w fun x82 =>
 RDX Tryz.prog X (Instr.loadAt 103 x82) w fun x83 =>
 RDX Tryz.prog X (Instr.loadAt 37 (u10 8)) w fun x84 =>
 (fun w_ => OP Tryz.prog (Instr.buildSlice 103 1 #[(0, x84)]) w_ fun x85 w =>
 ExtX X w_ w ∧
 ((fun w_ => OP Tryz.prog (Builtin.append_ #[103, 103] 103 [x83, x85].toArray) w_ fun x86 w =>
 ExtX X w_ w ∧
 (NIL x17 <|
 RDX Tryz.prog X (Instr.fieldAt 173 x17 0) w fun x88 =>
 OPU Tryz.prog (Instr.storeAt 103 x88 x86) w fun w =>
 NIL x17 <|
 RD Tryz.prog (Instr.fieldAt 173 x17 1) w fun x92 =>
 RD Tryz.prog (Instr.loadAt 23 x92) w fun x93 =>
 OP Tryz.prog (Instr.buildSlice 23 1 #[(0, (u4 6))]) w fun x95 w =>
 OP Tryz.prog (Builtin.append_ #[23, 23] 23 [x93, x95].toArray) w fun x96 w =>
 NIL x17 <|
 RD Tryz.prog (Instr.fieldAt 173 x17 1) w fun x98 =>
 OPU Tryz.prog (Instr.storeAt 23 x98 x96) w fun w =>
 NIL x17 <|
 RD Tryz.prog (Instr.fieldAt 173 x17 2) w fun x102 =>
 RD Tryz.prog (Instr.loadAt 23 x102) w fun x103 =>
 OP Tryz.prog (Instr.buildSlice 23 1 #[(0, (u7 7))]) w fun x105 w =>
 OP Tryz.prog (Builtin.append_ #[23, 23] 23 [x103, x105].toArray) w fun x106 w =>
 NIL x17 <|
 RD Tryz.prog (Instr.fieldAt 173 x17 2) w fun x108 =>
 OPU Tryz.prog (Instr.storeAt 23 x108 x106) w fun w =>
 RD Tryz.prog (bin .add 3 (.tmp 0) (.const undef) (u7 7) (Value.int .i64 1)) w fun x39 =>
 next7 [x39] w)) w)) w) (World.drew1 w)))) (World.drew1 w))) (World.drew1 w))) (World.drew1 w))
 (RD Tryz.prog (bin .add 3 (.tmp 0) (.const undef) (u4 6) (Value.int .i64 1)) w fun x26 =>
 next4 [x26] w))
 (R x17 w)
def cfg154 : Cfg := { ext := extL, joins := [], loops := [(4, 649037107316853453566312040890832, [6]), (7, 649037107316853453566311906935184, [7])], draws := [(9, [0, 1, 2, 3, 4, 5, 6, 7, 8, 9, 10], 0), (11, [0, 1, 2, 3, 4, 5, 6], 0), (15, [0, 1, 2, 3, 4, 5, 6, 7, 8, 9, 10], 192)], pars := [(10, 2303591209400008960, 11)], xs := [15] }
theorem F154_eq (a0 a1 : Value) (w : World) (R : Value → World → Prop) : vcF Tryz.prog cfg154 Tryz.f154 [a0, a1] w R = F154 a0 a1 w R := by kernel_rfl
theorem F154_call {a0 a1 : Value} {w : World} {R : Value → World → Prop} (h : F154 a0 a1 w R) : CALL Tryz.prog 154 [a0, a1] w R :=
  call_of (g := cfg154) ent mixed Tryz.func154 (Nat.le_of_ble_eq_true (by kernel_rfl)) (by kernel_rfl) (F154_eq a0 a1 w R ▸ h)
set_option linter.unusedVariables false
set_option linter.unusedSimpArgs false
def slQ (c : DCode) (z : DTrail) (g : Nat) (i t : Nat) (w0 : World) : ParQ := fun j u T w => match j with
  | 0 => Is w0 (u 51) c
  | 1 => u 52 = .pointer (some ⟨g, 0, none⟩)
  | 2 => u 53 = .pointer (some ⟨g, 0, none⟩)
  | 3 => u 54 = .pointer (some ⟨g, 0 + 0, none⟩)
  | 4 => u 55 = z.states.v
  | 5 => u 56 = .int .i64 (i : Int)
  | 6 => ∃ b o, u 57 = .pointer (some ⟨b, o, none⟩) ∧ At w0 b o (stAt z.er i)
  | 7 => Is w0 (u 58) (stAt z.er i)
  | 8 => u 59 = .int .i64 (t : Int)
  | 9 => OwnI (T 9).1 (T 9).2 w (u 60) (stepD c (stAt z.er i) t)
  | 10 => ∃ gg, u 8 = .pointer (some ⟨gg, 0, none⟩) ∧ (T 10).1 ≤ gg ∧ gg < (T 10).2 ∧ Blk gg 37 w [.slice none 0 0, .slice none 0 0, .slice none 0 0]
  | _ => True
theorem l23All_ok {w W0 : World} {v0 : Value} {c : DCode} {m : Int} (h0 : Is W0 v0 c) (e0 : Ext W0 w) (hw : wCode c ≤ 1048576) (hc : CodeR c) :
    CALL Tryz.prog 154 [v0, .int .i64 m] w fun r w' => Ext w w' ∧ ∃ (g : Nat) (z : DTrail), r = .pointer (some ⟨g, 0, none⟩) ∧ w.heap.size ≤ g ∧ VarI w.heap.size w'.heap.size w' g z ∧ z.er = lookD c (brought m 1 150).toNat ∧ TrOk c (brought m 1 150).toNat z.er := by
  refine F154_call ?_
  unfold F154
  refine op_box h0 e0 fun w1 hx1 hA => ?_
  have hs1 := hx1.size
  refine specBrought_ok.mono ?_
  rintro _ w3 ⟨hx3, rfl⟩
  have hs3 := hx3.size
  have hMi := brought_in m
  obtain ⟨M, hM, hM1, hM2⟩ : ∃ M : Nat, brought m 1 150 = (M : Int) ∧ 1 ≤ M ∧ M ≤ 150 := ⟨(brought m 1 150).toNat, by omega, by omega, by omega⟩
  rw [hM]
  have hMt : ((M : Nat) : Int).toNat = M := by omega
  rw [hMt]
  refine rd_load ty35 hA hx3 fun v11 h11 => ?_
  refine (specStartOf_ok h11 hx3 hw).mono ?_
  rintro r12 w4 ⟨hx4, o12⟩
  rw [show startOf c = startD c from if_pos hc] at o12
  have o12 := o12.toI
  have hs4 := hx4.size
  refine op_buildR (β := DState) u103 ty37 z37 (by decide) o12 (by omega) fun v13 w5 hx5 r13 => ?_
  have hs5 := hx5.size
  refine op_buildR (β := Int) (lo2 := w5.heap.size) (hi2 := w5.heap.size) u23 ty3 z3 (by decide) (ownI_int (x := -1) (by unfold I64; omega)) (by omega) fun v14 w6 hx6 r14 => ?_
  have hs6 := hx6.size
  refine op_buildR (β := Int) (lo2 := w6.heap.size) (hi2 := w6.heap.size) u23 ty3 z3 (by decide) (ownI_int (x := -1) (by unfold I64; omega)) (by omega) fun v15 w7 hx7 r15 => ?_
  have hs7 := hx7.size
  have o13 := ownI_rv ((r13.ext hx6).ext hx7)
  have o14 := ownI_rv (r14.ext hx7)
  have o15 := ownI_rv r15
  obtain ⟨a13, n13, c13, e13⟩ := ownI_form r13.own
  obtain ⟨a14, n14, c14, e14⟩ := ownI_form r14.own
  obtain ⟨a15, n15, c15, e15⟩ := ownI_form r15.own
  have otr := ownI_trail (z := ⟨⟨v13, [startD c]⟩, ⟨v14, [-1]⟩, ⟨v15, [-1]⟩, true⟩) o13 o14 o15 (by omega)
  refine rd_build (cells := #[v13, v14, v15, .bool true]) (by rw [e13, e14, e15]; kernel_rfl) ?_
  refine op_boxV (α := DTrail) rfl otr fun w9 hx9 hv9 => ?_
  have hs9 := hx9.size
  have hg5 := hv9.lt
  have hx39 : Ext w3 w9 := hx4.trans (hx5.trans (hx6.trans (hx7.trans hx9)))
  obtain ⟨g, hgd⟩ : ∃ g, w7.heap.size = g := ⟨_, rfl⟩
  rw [hgd] at hv9 hg5 ⊢
  have hv9 := hv9.mono (lo' := w3.heap.size) (hi' := w9.heap.size) (Nat.le_refl _) (by omega)
  refine loopC M (fun k us w' => us = [.int .i64 (k : Int)] ∧ ∃ (z : DTrail) (hi : Nat), Ext w3 w' ∧ VarI w3.heap.size hi w' g z ∧ g < hi ∧ hi ≤ w'.heap.size ∧ TrOk c M z.er ∧ k ≤ z.states.l.length ∧ lookGo c M (M - k) k z.er = lookD c M) 0 (by omega)
    ⟨rfl, _, w9.heap.size, hx39, hv9, by omega, Nat.le_refl _, start_ok hc hM1, Nat.zero_le _, rfl⟩ ?_
  rintro k mk u w10 hkm ⟨hu, z, hi, hx10, hv10, hgh, hhi, hok, hkl, hlook⟩
  simp only [List.map_cons, List.map_nil, List.cons.injEq, and_true] at hu
  rw [hu]
  have hmany : 1 ≤ z.states.l.length ∧ z.states.l.length ≤ M := hok.many
  refine ⟨rfl, ?_⟩
  refine rd_fld fd173_0 ?_
  refine rd_loadV ty103 (at_DTrail_0 hv10.at) (Ext.refl _) ?_
  have hst := at_rv (at_DTrail_0 hv10.at)
  refine rd_len u103 hst ?_
  refine rd_lss ?_
  refine br (fun hlt => ?_) (fun hge => ?_)
  case refine_2 =>
    have := hx10.size
    refine ⟨hx1.trans (hx3.trans hx10), g, z, rfl, by omega, hv10.mono (by omega) hhi, ?_, hok⟩
    rw [← hlook, lookGo_end (f := z.er) (by show z.states.l.length ≤ k; omega)]
  have hkz : k < z.states.l.length := by omega
  have hsr : StateR c (stAt z.er k) := hok.right _ (by rw [← stAt_get (f := z.er) hkz]; exact List.getElem_mem _)
  obtain ⟨s, hsd⟩ : ∃ s, stAt z.er k = s := ⟨_, rfl⟩
  rw [hsd] at hsr
  have hn6 := hsr.2.2.1
  refine loopC s.stacks.length (fun t us w' => us = [.int .i64 (t : Int)] ∧ ∃ (z' : DTrail) (hi' : Nat), Ext w3 w' ∧ VarI w3.heap.size hi' w' g z' ∧ g < hi' ∧ hi' ≤ w'.heap.size ∧ TrOk c M z'.er ∧ k < z'.states.l.length ∧ stAt z'.er k = s ∧
      rowGo c M k s.stacks.length 0 z.er = rowGo c M k (s.stacks.length - t) t z'.er) 0 (by omega)
    ⟨rfl, z, hi, hx10, hv10, hgh, hhi, hok, hkz, hsd, rfl⟩ ?_
  rintro t mt u7 w11 htm ⟨hu7, z', hi', hx11, hv11, hgh', hhi', hok', hkz', hsd', hrow⟩
  simp only [List.map_cons, List.map_nil, List.cons.injEq, and_true] at hu7
  rw [hu7]
  have hst' := at_rv (at_DTrail_0 hv11.at)
  refine ⟨rfl, ?_⟩
  refine rd_fld fd173_0 ?_
  refine rd_loadV ty103 (at_DTrail_0 hv11.at) (Ext.refl _) ?_
  refine rd_indexN u103 ty37 hst' hkz' fun b27 o27 h27 => ?_
  replace h27 : At w11 b27 o27 s := by rw [← hsd', ← stAt_get (f := z'.er) hkz']; exact h27
  refine rd_fld fd37_2 ?_
  refine rd_load ty27 (at_DState_2 h27) (Ext.refl _) fun v29 h29 => ?_
  refine rd_len u27 h29 ?_
  refine rd_lss ?_
  refine br (fun htl => ?_) (fun htg => ?_)
  case refine_2 =>
    have ht : t = s.stacks.length := by omega
    subst ht
    rw [Nat.sub_self, rowGo] at hrow
    rw [← hsd] at hrow
    refine rd_inc (by omega) ?_
    refine ⟨mk - 1, by omega, k + 1, by omega, rfl, z', hi', hx11, hv11, hgh', hhi', hok', by omega, ?_⟩
    rw [← hlook, show M - k = (M - (k + 1)) + 1 by omega, lookGo_next (f := z.er) hkz hrow]
  have htn : t < s.stacks.length := by omega
  have hq : s.stacks.length - t = (s.stacks.length - (t + 1)) + 1 := by omega
  have hx12 := ext_drew w11
  have hs12 := hx12.size
  refine rd_load ty35 hA (hx3.trans (hx11.trans hx12)) fun v34 h34 => ?_
  refine ⟨rfl, ?_⟩
  refine rd_fld fd173_0 ?_
  refine rd_loadV ty103 (at_DTrail_0 hv11.at) hx12 ?_
  refine rd_indexN u103 ty37 hst' hkz' fun b38 o38 h38 => ?_
  replace h38 : At w11 b38 o38 s := by rw [← hsd', ← stAt_get (f := z'.er) hkz']; exact h38
  refine rd_load ty37 h38 hx12 fun v39 h39 => ?_
  refine (l21Go_ok h34 (hx3.trans (hx11.trans hx12)) h39 hx12 hc hsr).mono ?_
  rintro _ w13 ⟨hx13, rfl⟩
  have hs13 := hx13.size
  refine rd_nodec ?_
  refine br (fun hng => ?_) (fun hg => ?_)
  · refine rd_inc (by omega) ?_
    refine ⟨mt - 1, by omega, t + 1, by omega, rfl, z', hi', hx11.trans (hx12.trans hx13), hv11.ext (hx12.trans hx13), hgh', by omega, hok', hkz', hsd', ?_⟩
    rw [hrow, hq, rowGo_go (visit_no (f := z'.er) (by rw [hsd']; exact hng))]
  have hgo : GoR c s t := Decidable.not_not.1 hg
  have hx14 := ext_drew w13
  have hs14 := hx14.size
  have hxx : Ext w11 (World.drew1 w13) := hx12.trans (hx13.trans hx14)
  generalize World.drew1 w13 = w14 at *
  refine PAR.mk (slQ c z' g k t w14) ?_ ?_ ?_
  · intro i u u' T T' wa wb hxa hxb hd hq
    match i, hd, hq with
    | 0, hd, hq => have := (hd (0, 51) (by decide)).1; show Is _ (u' 51) _; simp only [this]; exact hq
    | 1, hd, hq => exact (hd (1, 52) (by decide)).1.trans hq
    | 2, hd, hq => exact (hd (2, 53) (by decide)).1.trans hq
    | 3, hd, hq => exact (hd (3, 54) (by decide)).1.trans hq
    | 4, hd, hq => exact (hd (4, 55) (by decide)).1.trans hq
    | 5, hd, hq => exact (hd (5, 56) (by decide)).1.trans hq
    | 6, hd, ⟨b, o, q1, q2⟩ => exact ⟨b, o, (hd (6, 57) (by decide)).1.trans q1, q2⟩
    | 7, hd, hq => have := (hd (7, 58) (by decide)).1; show Is _ (u' 58) _; simp only [this]; exact hq
    | 8, hd, hq => exact (hd (8, 59) (by decide)).1.trans hq
    | 9, hd, hq =>
      obtain ⟨e1, e2⟩ := hd (9, 60) (by decide)
      simp only at e1 e2
      show OwnI (T' 9).1 (T' 9).2 wb (u' 60) _
      rw [e1, e2]; exact OwnI.ext hq hxb
    | 10, hd, ⟨gg, q1, q2, q3, q4⟩ =>
      obtain ⟨e1, e2⟩ := hd (10, 8) (by decide)
      simp only at e1 e2
      exact ⟨gg, e1.trans q1, by rw [e2]; exact q2, by rw [e2]; exact q3, q4.ext hxb⟩
    | n + 11, _, _ => trivial
  · refine ⟨fun u T w' hx _ _ => ?_, fun u T w' hx _ _ => ?_, fun u T w' hx _ hp => ?_, fun u T w' hx _ hp => ?_, fun u T w' hx _ hp => ?_, fun u T w' hx _ _ => ?_, fun u T w' hx _ hp => ?_, fun u T w' hx _ hp => ?_, fun u T w' hx _ _ => ?_, fun u T w' hx _ hp => ?_, fun u T w' hx _ _ => ?_, trivial⟩
    · exact rd_load ty35 hA (hx3.trans (hx11.trans (hxx.trans hx))) fun v h => ⟨Ext.refl _, h.ext (hx3.trans (hx11.trans hxx))⟩
    · exact ⟨Ext.refl _, rfl⟩
    · have q0 : u 52 = _ := hp.1
      rw [q0]
      exact ⟨rfl, Ext.refl _, rfl⟩
    · have q0 : u 53 = _ := hp.1
      rw [q0]
      exact rd_fld fd173_0 ⟨Ext.refl _, rfl⟩
    · have q0 : u 54 = _ := hp.1
      rw [q0]
      exact rd_loadV ty103 (at_DTrail_0 hv11.at) (hxx.trans hx) ⟨Ext.refl _, rfl⟩
    · exact ⟨Ext.refl _, rfl⟩
    · have q0 : u 55 = _ := hp.1
      have q1 : u 56 = _ := hp.2.1
      rw [q0, q1]
      refine rd_indexN u103 ty37 hst' hkz' fun b o h => ⟨Ext.refl _, b, o, rfl, ?_⟩
      rw [← stAt_get (f := z'.er) hkz']
      exact h.ext hxx
    · obtain ⟨b, o, q0, q1⟩ : ∃ b o, u 57 = .pointer (some ⟨b, o, none⟩) ∧ At w14 b o (stAt z'.er k) := hp.1
      rw [q0]
      exact rd_load ty37 q1 hx fun v h => ⟨Ext.refl _, h⟩
    · exact ⟨Ext.refl _, rfl⟩
    · have q0 : Is w14 (u 51) c := hp.1
      have q1 : Is w14 (u 58) (stAt z'.er k) := hp.2.1
      have q2 : u 59 = _ := hp.2.2.1
      rw [q2]
      have := l21Step_ok q0 hx q1 hx hc (by rw [hsd']; exact hsr) (by rw [hsd']; exact hgo)
      exact this.mono fun r w5 ⟨hx5, ho⟩ => ⟨hx5, ho.toI⟩
    · exact op_alloc zlSt fun w5 hx5 hB => ⟨hx5, w'.heap.size, rfl, Nat.le_refl _, hB.lt, hB⟩
  rintro u10 T w15 hx15 hap ⟨-, -, -, -, -, -, -, -, -, o50, ⟨gg, q8, hgg0, hgg1, hB15⟩, -⟩
  have o50 : OwnI (T 9).1 (T 9).2 w15 (u10 60) (stepD c (stAt z'.er k) t) := o50
  rw [hsd'] at o50
  have t7 := hap.1 9 (by decide)
  have t8 := hap.1 10 (by decide)
  have d78 := hap.2 9 (by decide) 10 (by decide) (by decide)
  have hs15 := hx15.size
  have hsxx := hxx.size
  generalize u10 60 = v50 at *
  rw [q8]
  obtain ⟨ga, gb, gc, hge⟩ := agg3S o50
  subst hge
  refine opu_blkS ty37 rfl hB15 rfl o50 fun w16 hc16 hB16 => ?_
  have hs16 := hc16.size
  have hxe := ext_drew w16
  have hse := hxe.size
  have hx16 : Ext w11 (World.drew1 w16) := (Ext.chgI (hxx.trans hx15) hc16 (by omega)).trans hxe
  have o16 := (o50.chg hc16 (by omega)).ext hxe
  have hB16 := hB16.ext hxe
  have hv16 := hv11.ext hx16
  generalize World.drew1 w16 = w16d at *
  refine ⟨rfl, ?_⟩
  refine rd_fld fd173_0 ?_
  refine rd_loadV ty103 (at_DTrail_0 hv16.at) (Ext.refl _) ?_
  have hst16 := at_rv (at_DTrail_0 hv16.at)
  refine rd_blkS hB16 ty37 ?_
  refine (l23At_ok hst16 (Ext.refl _) o16.is (Ext.refl _)).mono ?_
  rintro _ w17 ⟨hx17, rfl⟩
  have hs17 := hx17.size
  refine rd_geq ?_
  refine br (fun hold => ?_) (fun hnew => ?_)
  · refine rd_inc (by omega) ?_
    refine ⟨mt - 1, by omega, t + 1, by omega, rfl, z', hi', hx11.trans (hx16.trans hx17), hv16.ext hx17, hgh', by omega, hok', hkz', hsd', ?_⟩
    rw [hrow, hq, rowGo_go (visit_old (f := z'.er) (by rw [hsd']; exact hgo) (by rw [hsd']; exact plcG_iff.1 hold))]
  have hno : stepD c (stAt z'.er k) t ∉ z'.er.states := fun h => hnew (by rw [hsd'] at h; exact plcG_iff.2 h)
  have hgo' : GoR c (stAt z'.er k) t := by rw [hsd']; exact hgo
  have hv17 := hv16.ext hx17
  refine ⟨rfl, ?_⟩
  refine rd_fld fd173_0 ?_
  refine rd_loadV ty103 (at_DTrail_0 hv17.at) (Ext.refl _) ?_
  have hst17 := at_rv (at_DTrail_0 hv17.at)
  refine rd_len u103 hst17 ?_
  refine rd_eql ?_
  refine br (fun hfull => ?_) (fun hroom => ?_)
  · have hfull' : z'.er.states.length = M := by show z'.states.l.length = M; omega
    refine ⟨rfl, ?_⟩
    refine rd_fld fd173_3 ?_
    obtain ⟨F, hO, hF⟩ := hv17
    obtain ⟨G, hL⟩ := lens_DTrail_3 (Lens.var hO)
    refine opu_varM ty4 hL (lo := w3.heap.size) (hi := w17.heap.size) (fun b hb => by have := hF b hb; omega) (by have := hx11.size; omega) mine_bool fun w18 hc18 hv18 => ?_
    have hs18 := hc18.size
    have := hx11.size
    refine ⟨hx1.trans (hx3.trans (Ext.chgI (hx11.trans (hx16.trans hx17)) hc18 (Nat.le_refl _))), g, _, rfl, by omega, hv18.mono (by omega) (by omega), ?_, hok'.not⟩
    have hvis := visit_full (M := M) hgo' hno hfull'
    rw [← hlook, show M - k = (M - (k + 1)) + 1 by omega, lookGo_stop (f := z.er) hkz (by rw [hsd, hrow, hq, rowGo_stop (by rw [hvis]), hvis])]
    rfl
  have hroom' : ¬ z'.er.states.length = M := by show ¬ z'.states.l.length = M; omega
  have hle' : z'.states.l.length ≤ M := hok'.many.2
  have hla' : z'.ahead.l.length = z'.states.l.length := hok'.la
  have hlw' : z'.went.l.length = z'.states.l.length := hok'.lw
  have hB17 := (hB16.ext hx17).ext (ext_drew w17)
  have hxd := ext_drew w17
  have hsd17 := hxd.size
  have hxpd := hx16.trans (hx17.trans hxd)
  generalize World.drew1 w17 = w17d at *
  have hs11 := hx11.size
  refine ⟨fun b => w3.heap.size ≤ b ∧ b < hi' ∧ b ≠ g, ?_⟩
  refine ⟨rfl, ?_⟩
  refine rdx_fld fd173_0 ?_
  refine rdx_cell ty103 (at_rvr (at_DTrail_0 (hv11.ext hxpd).at)) (fun h => h.2.2 rfl) ?_
  refine rdx_blkS hB17 ty37 (fun h => by have := h.2.1; omega) ?_
  refine op_pushF (β := DState) u103 ty37 z37 zc37 (by decide) ty103 hv11 ⟨by omega, hgh'⟩ hxpd (fun hO => lens_DTrail_0 (Lens.var hO)) ((o16.ext hx17).ext hxd) (by omega) (by omega) (by omega) (by rw [maxLen_eq]; omega) (by omega) (fun v67 w18 hc18 hv18 => ?_) fun a w1' hxa hop => ⟨hxa.toX, hop.mono fun r w2' hr => ⟨hr.1, rfl, rdx_fld fd173_0 hr.2⟩⟩
  have hs18 := hc18.size
  refine ⟨rfl, ?_⟩
  refine rd_fld fd173_1 ?_
  refine rd_loadV ty23 (at_DTrail_1 hv18.at) (Ext.refl _) ?_
  refine op_pushF (β := Int) (lo2 := w18.heap.size) (hi2 := w18.heap.size) u23 ty3 z3 zc3 (by decide) ty23 hv18 ⟨by omega, by omega⟩ (Ext.refl _) (fun hO => lens_DTrail_1 (Lens.var hO)) (ownI_int (x := (k : Int)) (by unfold I64; omega)) (by omega) (by omega) (by omega) (by rw [maxLen_eq]; show z'.ahead.l.length + 1 ≤ _; omega) (by show (z'.ahead.l.length + 1) * _ ≤ _; omega) (fun v73 w19 hc19 hv19 => ?_) fun a w1' hxa hop => hop.mono fun r w2' hr => ⟨rfl, rd_fld fd173_1 hr.2⟩
  have hs19 := hc19.size
  refine ⟨rfl, ?_⟩
  refine rd_fld fd173_2 ?_
  refine rd_loadV ty23 (at_DTrail_2 hv19.at) (Ext.refl _) ?_
  refine op_pushF (β := Int) (lo2 := w19.heap.size) (hi2 := w19.heap.size) u23 ty3 z3 zc3 (by decide) ty23 hv19 ⟨by omega, by omega⟩ (Ext.refl _) (fun hO => lens_DTrail_2 (Lens.var hO)) (ownI_int (x := (t : Int)) (by unfold I64; omega)) (by omega) (by omega) (by omega) (by rw [maxLen_eq]; show z'.went.l.length + 1 ≤ _; omega) (by show (z'.went.l.length + 1) * _ ≤ _; omega) (fun v79 w20 hc20 hv20 => ?_) fun a w1' hxa hop => hop.mono fun r w2' hr => ⟨rfl, rd_fld fd173_2 hr.2⟩
  have hs20 := hc20.size
  refine rd_inc (by omega) ?_
  have hpush := hok'.push hc hkz' hgo' (by omega) hroom'
  have hvis := visit_new (M := M) hgo' hno hroom'
  rw [hsd'] at hpush hvis
  refine ⟨mt - 1, by omega, t + 1, by omega, rfl, _, w20.heap.size, Ext.chgI (Ext.chgI (Ext.chgI hx11 hc18 (Nat.le_refl _)) hc19 (Nat.le_refl _)) hc20 (Nat.le_refl _), hv20, by omega, Nat.le_refl _, hpush, by show k < (z'.states.l ++ [_]).length; simp; omega, ?_, ?_⟩
  · exact (stAt_push (f := z'.er) hkz').trans hsd'
  · rw [hrow, hq, rowGo_go hvis]; rfl
end Go.Proofs.YtjgfldfbljmhhaaGreat
namespace Go.Proofs.YtjgfldfbljmhhaaGreat
open Go Go.Sh Go.Proofs
set_option linter.unusedVariables false
def F95 (a0 a1 : Value) (w : World) (R : Value → World → Prop) : Prop :=
 OP Tryz.prog (Instr.box 35 a0) w fun x2 w =>
 RD Tryz.prog (Instr.loadAt 35 x2) w fun x7 =>
 CALL Tryz.prog 125 [x7] w fun x8 w =>
 RD Tryz.prog (Op.unary .not x8) w fun x9 =>
 BR x9
 (R (Value.tuple #[(Value.slice none 0 0), (Value.bool false)]) w)
 (RD Tryz.prog (Instr.loadAt 35 x2) w fun x10 =>
 CALL Tryz.prog 159 [x10, a1] w fun x12 w =>
 OP Tryz.prog (Instr.alloc 179 true (.tuple #[])) w fun x6 w =>
 OPU Tryz.prog (Instr.storeAt 179 x6 x12) w fun w =>
 (fun w => RD Tryz.prog (Instr.fieldAt 179 x6 0) w fun x13 =>
 RD Tryz.prog (Instr.loadAt 103 x13) w fun x14 =>
 RD Tryz.prog (Instr.fieldAt 179 x6 3) w fun x15 =>
 RD Tryz.prog (Instr.loadAt 4 x15) w fun x16 =>
 R (Value.tuple #[x14, x16]) w) (World.drew1 w))
def cfg95 : Cfg := { ext := extL, joins := [], loops := [], draws := [(4, [0, 1, 2, 3, 4, 5], 0)], pars := [] }
theorem F95_eq (a0 a1 : Value) (w : World) (R : Value → World → Prop) : vcF Tryz.prog cfg95 Tryz.f95 [a0, a1] w R = F95 a0 a1 w R := by kernel_rfl
theorem F95_call {a0 a1 : Value} {w : World} {R : Value → World → Prop} (h : F95 a0 a1 w R) : CALL Tryz.prog 95 [a0, a1] w R :=
  call_of (g := cfg95) ent mixed Tryz.func95 (Nat.le_of_ble_eq_true (by kernel_rfl)) (by kernel_rfl) (F95_eq a0 a1 w R ▸ h)
def F90 (a0 a1 : Value) (w : World) (R : Value → World → Prop) : Prop :=
 OP Tryz.prog (Instr.box 35 a0) w fun x2 w =>
 RD Tryz.prog (Instr.loadAt 35 x2) w fun x7 =>
 CALL Tryz.prog 73 [x7] w fun x8 w =>
 RD Tryz.prog (Op.unary .not x8) w fun x9 =>
 BR x9
 (OP Tryz.prog (Instr.buildSlice 103 0 #[]) w fun x10 w =>
 R (Value.tuple #[x10, (Value.bool false)]) w)
 (RD Tryz.prog (Instr.loadAt 35 x2) w fun x11 =>
 CALL Tryz.prog 154 [x11, a1] w fun x13 w =>
 (fun w => NIL x13 <|
 RD Tryz.prog (Instr.fieldAt 173 x13 0) w fun x16 =>
 RD Tryz.prog (Instr.loadAt 103 x16) w fun x17 =>
 NIL x13 <|
 RD Tryz.prog (Instr.fieldAt 173 x13 3) w fun x20 =>
 RD Tryz.prog (Instr.loadAt 4 x20) w fun x21 =>
 R (Value.tuple #[x17, x21]) w) (World.drew1 w))
def cfg90 : Cfg := { ext := extL, joins := [], loops := [], draws := [(4, [0, 1, 2, 3, 4, 5, 6, 7, 8, 9], 0)], pars := [] }
theorem F90_eq (a0 a1 : Value) (w : World) (R : Value → World → Prop) : vcF Tryz.prog cfg90 Tryz.f90 [a0, a1] w R = F90 a0 a1 w R := by kernel_rfl
theorem F90_call {a0 a1 : Value} {w : World} {R : Value → World → Prop} (h : F90 a0 a1 w R) : CALL Tryz.prog 90 [a0, a1] w R :=
  call_of (g := cfg90) ent mixed Tryz.func90 (Nat.le_of_ble_eq_true (by kernel_rfl)) (by kernel_rfl) (F90_eq a0 a1 w R ▸ h)
set_option linter.unusedVariables false
set_option linter.unusedSimpArgs false
def mostN (m : Int) : Nat := (brought m 1 150).toNat
def statesOf (c : DCode) (m : Int) : List DState := if CodeR c then (lookD c (mostN m)).states else []
def wholeOf (c : DCode) (m : Int) : Bool := if CodeR c then (lookD c (mostN m)).whole else false
theorem implStatesOf_ok {w W0 : World} {v0 : Value} {c : DCode} {m : Int} (h0 : Is W0 v0 c) (e0 : Ext W0 w) (hw : wCode c ≤ 1048576) :
    CALL Tryz.prog 95 [v0, .int .i64 m] w fun r w' => Ext w w' ∧ (∃ a, r = .tuple #[a, .bool (wholeOf c m)] ∧ Own w.heap.size w' a (statesOf c m)) ∧ (CodeR c → TrOk c (mostN m) (lookD c (mostN m))) := by
  refine F95_call ?_
  unfold F95
  refine op_box h0 e0 fun w1 hx1 hA => ?_
  have hs1 := hx1.size
  refine rd_load ty35 hA (Ext.refl _) fun v7 h7 => ?_
  refine (implCodeOk_ok h7 (Ext.refl _)).mono ?_
  rintro _ w2 ⟨hx2, rfl⟩
  have hs2 := hx2.size
  refine rd_nodec ?_
  refine br (fun hn => ?_) (fun hc => ?_)
  · refine ⟨hx1.trans hx2, ?_, fun h => absurd h hn⟩
    rw [show wholeOf c m = false from if_neg hn, show statesOf c m = [] from if_neg hn]
    exact ⟨_, rfl, own_nil rfl⟩
  have hc := Decidable.not_not.1 hc
  refine rd_load ty35 hA hx2 fun v10 h10 => ?_
  refine (search_ok h10 hx2 hw hc).mono ?_
  rintro r12 w3 ⟨hx3, z, o12, hz, hok⟩
  have hs3 := hx3.size
  refine op_varZ (α := DTrail) zlTr fun w4 hx4 hv => ?_
  have hs4 := hx4.size
  refine opu_varA ty179 hv (o12.ext hx4) (by omega) fun w5 hc5 hv5 => ?_
  have hs5 := hc5.size
  have o5 := (o12.ext hx4).chg hc5 (by omega)
  obtain ⟨_, r5, _, _⟩ := trail_inv o5
  have hx6 := ext_drew w5
  refine rd_fld fd179_0 ?_
  refine rd_loadV ty103 (at_DTrail_0 hv5.at) hx6 ?_
  refine rd_fld fd179_3 ?_
  refine rd_loadB ty4 (at_DTrail_3 hv5.at) hx6 ?_
  have e1 : wholeOf c m = z.whole := by unfold wholeOf; rw [if_pos hc, show lookD c (mostN m) = z.er from hz.symm]; rfl
  have e2 : statesOf c m = z.states.l := by unfold statesOf; rw [if_pos hc, show lookD c (mostN m) = z.er from hz.symm]; rfl
  refine ⟨(Ext.chgI (hx1.trans (hx2.trans (hx3.trans hx4))) hc5 (by omega)).trans hx6, ?_, fun _ => by rw [show mostN m = (brought m 1 150).toNat from rfl, ← hz]; exact hok⟩
  rw [e1, e2]
  exact ⟨_, rfl, (r5.ext hx6).own.own.mono (by omega)⟩
theorem specStatesOf_ok {w W0 : World} {v0 : Value} {c : DCode} {m : Int} (h0 : Is W0 v0 c) (e0 : Ext W0 w) (hw : wCode c ≤ 1048576) :
    CALL Tryz.prog 90 [v0, .int .i64 m] w fun r w' => Ext w w' ∧ (∃ a, r = .tuple #[a, .bool (wholeOf c m)] ∧ Own w.heap.size w' a (statesOf c m)) ∧ (CodeR c → TrOk c (mostN m) (lookD c (mostN m))) := by
  refine F90_call ?_
  unfold F90
  refine op_box h0 e0 fun w1 hx1 hA => ?_
  have hs1 := hx1.size
  refine rd_load ty35 hA (Ext.refl _) fun v7 h7 => ?_
  refine (specCodeOk_ok h7 (Ext.refl _)).mono ?_
  rintro _ w2 ⟨hx2, rfl⟩
  have hs2 := hx2.size
  refine rd_nodec ?_
  refine br (fun hn => ?_) (fun hc => ?_)
  · refine op_build0I (α := DState) u103 ty37 fun a w3 hx3 r3 => ?_
    refine ⟨hx1.trans (hx2.trans hx3), ?_, fun h => absurd h hn⟩
    rw [show wholeOf c m = false from if_neg hn, show statesOf c m = [] from if_neg hn]
    exact ⟨_, rfl, r3.own.own.mono (by have := hx3.size; omega)⟩
  have hc := Decidable.not_not.1 hc
  refine rd_load ty35 hA hx2 fun v10 h10 => ?_
  refine (l23All_ok h10 hx2 hw hc).mono ?_
  rintro _ w3 ⟨hx3, g, z, rfl, hg, hv, hz, hok⟩
  have hs3 := hx3.size
  have hx6 := ext_drew w3
  refine ⟨rfl, ?_⟩
  refine rd_fld fd173_0 ?_
  refine rd_loadV ty103 (at_DTrail_0 hv.at) hx6 ?_
  refine ⟨rfl, ?_⟩
  refine rd_fld fd173_3 ?_
  refine rd_loadB ty4 (at_DTrail_3 hv.at) hx6 ?_
  have hR : RowI w2.heap.size w3.heap.size 37 w3 z.states.v z.states.l := by
    obtain ⟨v, o, cs, F, hr, hra, hve⟩ := hv.own
    exact (trail_inv o).2.1
  have e1 : wholeOf c m = z.whole := by unfold wholeOf; rw [if_pos hc, show lookD c (mostN m) = z.er from hz.symm]; rfl
  have e2 : statesOf c m = z.states.l := by unfold statesOf; rw [if_pos hc, show lookD c (mostN m) = z.er from hz.symm]; rfl
  refine ⟨(hx1.trans (hx2.trans hx3)).trans hx6, ?_, fun _ => by rw [show mostN m = (brought m 1 150).toNat from rfl, ← hz]; exact hok⟩
  rw [e1, e2]
  exact ⟨_, rfl, (hR.ext hx6).own.own.mono (by omega)⟩
end Go.Proofs.YtjgfldfbljmhhaaGreat
namespace Go.Sh
set_option linter.unusedVariables false
def ints (l : List Nat) : List Int := l.map fun x : Nat => (x : Int)
section
variable {nx : Nat → List Nat} {n a k x q : Nat} {M0 ms : List Bool} {td td' : List Nat}
end
noncomputable def setN (p : Nat → Prop) : Nat → Nat
  | 0 => 0
  | n + 1 => setN p n ||| (if @decide (p n) (Classical.propDecidable _) then 2 ^ n else 0)
section
variable {n : Nat} {p q : Nat → Prop}
end
end Go.Sh
namespace Go.Proofs.YtjgfldfbljmhhaaGreat
open Go Go.Sh Go.Proofs
set_option linter.unusedVariables false
set_option linter.unusedVariables false
set_option linter.unusedSimpArgs false
set_option linter.unusedSectionVars false
section
variable {P : Program} {w w' : World}
end
section
variable {w1 w w' : World} {m n lo hi : Nat} {tv : Value} {L : List Nat} {ms : List Bool}
end
theorem ownI_int {w : World} {x : Int} (lo hi : Nat) (h : I64 x) : OwnI lo hi w (.int .i64 x) x := ⟨[], mine_int h, by simp⟩
section
variable {P : Program} {w : World} {α : Type} [Rep α] [Flat α] {lo hi e : Nat} {v : Value} {l : List α}
end
end Go.Proofs.YtjgfldfbljmhhaaGreat
namespace Go.Proofs.YtjgfldfbljmhhaaGreat
open Go Go.Sh Go.Proofs
set_option linter.unusedVariables false
set_option linter.unusedSimpArgs false
noncomputable def m6 (p : Nat → Prop) : Nat := setN p 6
abbrev Tab := List (Nat × Nat)
end Go.Proofs.YtjgfldfbljmhhaaGreat
namespace Go.Proofs.YtjgfldfbljmhhaaGreat
open Go Go.Sh Go.Proofs
set_option linter.unusedVariables false
set_option linter.unusedVariables false
set_option linter.unusedSimpArgs false
open Rep (rep)
structure DEffect where
  keep : Int
  gen : Int
theorem DEffect.ext_iff {x y : DEffect} : x = y ↔ (x.keep = y.keep ∧ x.gen = y.gen) := ⟨fun h => by rw [h]; exact ⟨rfl, rfl⟩, fun h => by obtain ⟨h0, h1⟩ := h; cases x; cases y; simp only at h0 h1; simp only [h0, h1]⟩
instance : DecidableEq DEffect := fun x y => decidable_of_iff (x.keep = y.keep ∧ x.gen = y.gen) DEffect.ext_iff.symm
instance : Rep DEffect := Rep.via fun x => (x.keep, x.gen)
instance : RepZ DEffect := ⟨⟨(RepZ.zv : Int), (RepZ.zv : Int)⟩, RepZ.zc (Int × Int), fun w => RepZ.zr (α := Int × Int) w⟩
instance : Flat DEffect := ⟨fun h => Flat.flat (α := Int × Int) h⟩
end Go.Proofs.YtjgfldfbljmhhaaGreat
namespace Go.Sh
set_option linter.unusedVariables false
open Rep (rep)
theorem ChgI.one {w w' : World} {g : Nat} (h : ChgI g (g + 1) w w') : Chg [g] w w' := ⟨h.os, h.tape, h.output, h.size, fun b hb hn => h.block b hb (by simp at hn; omega)⟩
theorem OwnI.chgF {α : Type} [Rep α] {w w' : World} {lo hi : Nat} {v : Value} {x : α} {F : List Nat} (h : OwnI lo hi w v x) (hc : Chg F w w') (hd : ∀ b ∈ F, b < lo ∨ hi ≤ b) : OwnI lo hi w' v x := by
  obtain ⟨G, hm, hG⟩ := h
  exact ⟨G, hm.keep fun b hb => hc.block b (hm.lt b hb) fun hF => by have := hG b hb; have := hd b hF; omega, hG⟩
theorem Blk.chgF {w w' : World} {g e : Nat} {cs : List Value} {F : List Nat} (h : Blk g e w cs) (hc : Chg F w w') (hd : g ∉ F) : Blk g e w' cs := h.keep (hc.block g h.lt hd)
theorem Ext.chgF {w0 w w' : World} {F : List Nat} (h : Ext w0 w) (hc : Chg F w w') (hd : ∀ b ∈ F, w0.heap.size ≤ b) : Ext w0 w' :=
  ⟨hc.os.trans h.os, hc.tape.trans h.tape, hc.output.trans h.output, Nat.le_trans h.size hc.size, fun b hb => (hc.block b (Nat.lt_of_lt_of_le hb h.size) fun hF => by have := hd b hF; omega).trans (h.block b hb)⟩
end Go.Sh
namespace Go.Proofs.YtjgfldfbljmhhaaGreat
open Go Go.Sh Go.Proofs
set_option linter.unusedVariables false
set_option linter.unusedVariables false
set_option linter.unusedSimpArgs false
open Rep (rep)
theorem zlIS : zeroL Tryz.prog 23 = some [.slice none 0 0] := by kernel_rfl
theorem ownI_raw {w : World} {lo hi : Nat} {u : Value} (h : u.oneCell' = true) : OwnI lo hi w u (⟨u⟩ : Raw) := ⟨[], ⟨⟨[u], ⟨rfl, rfl, h⟩, rfl⟩, List.nodup_nil, Wr.nil _⟩, by simp⟩
theorem op_cell {t by_ : Nat} {z u : Value} {w : World} {K : Value → World → Prop} (hz : zeroL Tryz.prog t = some [z]) (ht : tyI Tryz.prog t = some (1, by_, false)) (hu : u.oneCell' = true) (k : ∀ w', Ext w w' → Blk w.heap.size t w' [u] → K (.pointer (some ⟨w.heap.size, 0, none⟩)) w') :
    OP Tryz.prog (Instr.alloc t true (.tuple #[])) w fun p w1 => OPU Tryz.prog (Instr.storeAt t p u) w1 fun w2 => K p w2 := by
  refine op_alloc hz fun w1 hx1 hB1 => ?_
  refine opu_blkC (α := Raw) (lo := 0) (hi := 0) ht rfl rfl hB1 (by simp) (ownI_raw hu) fun w2 hc2 hB2 => ?_
  exact k w2 (hx1.chgI hc2 (Nat.le_refl _)) hB2
section
variable {w1 w w' : World} {gv g ga n : Nat} {ms : List Bool} {ag : Bool}
end
end Go.Proofs.YtjgfldfbljmhhaaGreat
namespace Go.Sh
set_option linter.unusedVariables false
open Rep (rep)
theorem at_of_blk {α : Type} [Rep α] {w : World} {g e o : Nat} {cs : List Value} {v : Value} {l : List α} (hB : Blk g e w cs) (ho : cs[o]? = some v) (h : Is w v l) : At w g o l := by
  obtain ⟨F, xs, hr, rfl⟩ := h
  have hr' := hr
  obtain ⟨a, cap, Fi, ys, rfl, h⟩ := hr
  refine ⟨F, _, hr', fun i u hi => ?_⟩
  have : i = 0 := by
    cases i with
    | zero => rfl
    | succ i => simp at hi
  subst this
  simp only [List.getElem?_cons_zero, Option.some.injEq] at hi
  subst hi
  have := hB.range o _ ho
  rw [Nat.zero_add] at this
  exact this
end Go.Sh
namespace Go.Proofs.YtjgfldfbljmhhaaGreat
open Go Go.Sh Go.Proofs
set_option linter.unusedVariables false
set_option linter.unusedVariables false
set_option linter.unusedSimpArgs false
open Rep (rep)
section
variable {w1 w w' : World} {gw g h n : Nat} {kc : List Value} {ms : List Bool} {out : List Nat} {nw : Bool}
end
end Go.Proofs.YtjgfldfbljmhhaaGreat
namespace Go.Proofs.YtjgfldfbljmhhaaGreat
open Go Go.Sh Go.Proofs
set_option linter.unusedVariables false
def F40 (a0 a1 : Value) (w : World) (R : Value → World → Prop) : Prop :=
 OP Tryz.prog (Instr.box 35 a0) w fun x2 w =>
 RD Tryz.prog (Instr.loadAt 35 x2) w fun x16 =>
 CALL Tryz.prog 95 [x16, a1] w fun x18 w =>
 RD Tryz.prog (Instr.extract x18 0) w fun x19 =>
 RD Tryz.prog (Instr.extract x18 1) w fun x20 =>
 RD Tryz.prog (Builtin.len_ #[103] 3 [x19].toArray) w fun x22 =>
 LOOPI [8, 9, 23] [(Value.slice none 0 0), (Value.slice none 0 0), (Value.int .i64 0)] w fun u5 w next5 =>
 RD Tryz.prog (bin .lss 3 (.tmp 0) (.tmp 0) (u5 23) x22) w fun x24 =>
 BR x24
 (RD Tryz.prog (Instr.indexAt 103 x19 (u5 23)) w fun x25 =>
 RD Tryz.prog (Instr.loadAt 37 x25) w fun x26 =>
 OP Tryz.prog (Instr.alloc 37 true (.tuple #[])) w fun x11 w =>
 OPU Tryz.prog (Instr.storeAt 37 x11 x26) w fun w =>
 RD Tryz.prog (Instr.loadAt 35 x2) w fun x28 =>
 RD Tryz.prog (Instr.loadAt 37 x11) w fun x29 =>
 CALL Tryz.prog 96 [x28, x29] w fun x30 w =>
 OP Tryz.prog (Builtin.append_ #[58, 58] 58 [(u5 8), x30].toArray) w fun x31 w =>
 RD Tryz.prog (Instr.fieldAt 37 x11 2) w fun x32 =>
 RD Tryz.prog (Instr.loadAt 27 x32) w fun x33 =>
 RD Tryz.prog (Builtin.len_ #[27] 3 [x33].toArray) w fun x34 =>
 LOOPI [9, 35] [(u5 9), (Value.int .i64 0)] w fun u9 w next9 =>
 RD Tryz.prog (bin .lss 3 (.tmp 0) (.tmp 0) (u9 35) x34) w fun x36 =>
 BR x36
 (RD Tryz.prog (Instr.loadAt 35 x2) w fun x38 =>
 RD Tryz.prog (Instr.loadAt 37 x11) w fun x39 =>
 CALL Tryz.prog 98 [x38, x39, (u9 35)] w fun x41 w =>
 CALL Tryz.prog 97 [x41] w fun x42 w =>
 OP Tryz.prog (Instr.alloc 23 true (.tuple #[])) w fun x13 w =>
 OPU Tryz.prog (Instr.storeAt 23 x13 x42) w fun w =>
 RD Tryz.prog (Instr.makeFunc (Go.Fn.func 99) [].toArray [x13].toArray) w fun x43 =>
 RD Tryz.prog (Instr.loadAt 23 x13) w fun x44 =>
 RD Tryz.prog (Builtin.len_ #[23] 3 [x44].toArray) w fun x45 =>
 RD Tryz.prog (bin .gtr 3 (.tmp 0) (.const undef) x45 (Value.int .i64 0)) w fun x46 =>
 BR x46
 (CALL Tryz.prog 101 [(u9 9), x43] w fun x50 w =>
 RD Tryz.prog (Op.unary .not x50) w fun x51 =>
 BR x51
 (RD Tryz.prog (Instr.loadAt 23 x13) w fun x54 =>
 OP Tryz.prog (Instr.buildSlice 27 1 #[(0, x54)]) w fun x55 w =>
 OP Tryz.prog (Builtin.append_ #[27, 27] 27 [(u9 9), x55].toArray) w fun x56 w =>
 RD Tryz.prog (bin .add 3 (.tmp 0) (.const undef) (u9 35) (Value.int .i64 1)) w fun x57 =>
 next9 [x56, x57] w)
 (RD Tryz.prog (bin .add 3 (.tmp 0) (.const undef) (u9 35) (Value.int .i64 1)) w fun x57 =>
 next9 [(u9 9), x57] w))
 (RD Tryz.prog (bin .add 3 (.tmp 0) (.const undef) (u9 35) (Value.int .i64 1)) w fun x57 =>
 next9 [(u9 9), x57] w))
 (RD Tryz.prog (bin .add 3 (.tmp 0) (.const undef) (u5 23) (Value.int .i64 1)) w fun x58 =>
 next5 [x31, (u9 9), x58] w))
 (CALL Tryz.prog 102 [(u5 8)] w fun x60 w =>
 R (Value.tuple #[x60, (u5 9)]) w)
def cfg40 : Cfg := { ext := extL, joins := [], loops := [(5, 576460752295066368, [8, 9, 23]), (9, 288230341792002560, [9, 35])], draws := [], pars := [] }
theorem F40_eq (a0 a1 : Value) (w : World) (R : Value → World → Prop) : vcF Tryz.prog cfg40 Tryz.f40 [a0, a1] w R = F40 a0 a1 w R := by kernel_rfl
theorem F40_call {a0 a1 : Value} {w : World} {R : Value → World → Prop} (h : F40 a0 a1 w R) : CALL Tryz.prog 40 [a0, a1] w R :=
  call_of (g := cfg40) ent mixed Tryz.func40 (Nat.le_of_ble_eq_true (by kernel_rfl)) (by kernel_rfl) (F40_eq a0 a1 w R ▸ h)
set_option linter.unusedVariables false
set_option linter.unusedSimpArgs false
open Rep (rep)
def Two2 {α β : Type} [Rep α] [Rep β] (w w' : World) (r : Value) (x : α) (y : β) : Prop := ∃ a b lo hi lo2 hi2, r = .tuple #[a, b] ∧ OwnI lo hi w' a x ∧ OwnI lo2 hi2 w' b y ∧ w.heap.size ≤ lo ∧ w.heap.size ≤ lo2 ∧ hi ≤ w'.heap.size ∧ hi2 ≤ w'.heap.size ∧ (hi ≤ lo2 ∨ hi2 ≤ lo)
def addK (S : List (List Int)) (m : List Int) : List (List Int) := if m = [] ∨ m ∈ S then S else S ++ [m]
def seenS (c : DCode) (s : DState) (S : List (List Int)) (n : Nat) : List (List Int) := (List.range n).foldl (fun S (t : Nat) => addK S (bitsL (knotOf c s (t : Int)))) S
def seenL (c : DCode) (sts : List DState) : List (List Int) := sts.foldl (fun S s => seenS c s S s.stacks.length) []
def racesF (c : DCode) (sts : List DState) : List DRace := sts.flatMap (meets c)
theorem seenS_succ (c : DCode) (s : DState) (S : List (List Int)) (n : Nat) : seenS c s S (n + 1) = addK (seenS c s S n) (bitsL (knotOf c s (n : Int))) := by
  unfold seenS; rw [List.range_succ, List.foldl_append]; rfl
theorem seenL_succ {c : DCode} {sts : List DState} {k : Nat} (hk : k < sts.length) : seenL c (sts.take (k + 1)) = seenS c sts[k] (seenL c (sts.take k)) sts[k].stacks.length := by
  unfold seenL; rw [List.take_succ_eq_append_getElem hk, List.foldl_append]; rfl
theorem racesF_succ {c : DCode} {sts : List DState} {k : Nat} (hk : k < sts.length) : racesF c (sts.take (k + 1)) = racesF c (sts.take k) ++ meets c sts[k] := by
  unfold racesF; rw [List.take_succ_eq_append_getElem hk, List.flatMap_append]; simp
theorem addK_len (S : List (List Int)) (m : List Int) : (addK S m).length ≤ S.length + 1 := by
  unfold addK; split <;> simp
theorem addK_in {S : List (List Int)} {m : List Int} {n : Nat} (h : ∀ x ∈ S, x.length ≤ n) (hm : m.length ≤ n) : ∀ x ∈ addK S m, x.length ≤ n := by
  unfold addK; split
  · exact h
  · intro x hx
    rcases List.mem_append.1 hx with hx | hx
    · exact h x hx
    · simp only [List.mem_cons, List.not_mem_nil, or_false] at hx; rw [hx]; exact hm
theorem seenS_len (c : DCode) (s : DState) (S : List (List Int)) : ∀ n, (seenS c s S n).length ≤ S.length + n
  | 0 => by simp [seenS]
  | n + 1 => by
    have h1 := seenS_len c s S n
    have h2 := addK_len (seenS c s S n) (bitsL (knotOf c s (n : Int)))
    rw [seenS_succ]; omega
theorem bitsL64 (m : Nat) : (bitsL m).length ≤ 64 := bitsTo_len _ 64
theorem seenS_in (c : DCode) (s : DState) {S : List (List Int)} (h : ∀ x ∈ S, x.length ≤ 64) : ∀ n, ∀ x ∈ seenS c s S n, x.length ≤ 64
  | 0 => by simpa [seenS] using h
  | n + 1 => by rw [seenS_succ]; exact addK_in (seenS_in c s h n) (bitsL64 _)
theorem seenL_len {c : DCode} {sts : List DState} (h : ∀ s ∈ sts, s.stacks.length ≤ 6) : ∀ k, k ≤ sts.length → (seenL c (sts.take k)).length ≤ k * 6
  | 0, _ => by simp [seenL]
  | k + 1, hk => by
    have h1 := seenL_len (c := c) h k (by omega)
    have h2 := seenS_len c sts[k] (seenL c (sts.take k)) sts[k].stacks.length
    have h3 := h sts[k] (List.getElem_mem _)
    rw [seenL_succ (by omega)]; omega
theorem seenL_in {c : DCode} {sts : List DState} : ∀ k, k ≤ sts.length → ∀ x ∈ seenL c (sts.take k), x.length ≤ 64
  | 0, _ => by simp [seenL]
  | k + 1, hk => by rw [seenL_succ (by omega)]; exact seenS_in c _ (seenL_in k (by omega)) _
theorem racesF_len {c : DCode} {sts : List DState} (hc : CodeR c) (h : ∀ s ∈ sts, StateR c s) : ∀ k, k ≤ sts.length → (racesF c (sts.take k)).length ≤ k * 5184
  | 0, _ => by simp [racesF]
  | k + 1, hk => by
    have h1 := racesF_len hc h k (by omega)
    have h2 := meets_len sts[k] hc (h _ (List.getElem_mem _))
    rw [racesF_succ (by omega), List.length_append]; omega
structure KQ (Q : List Nat → World → Prop) : Prop where
  keep : ∀ {F : List Nat} {w w' : World}, Q F w → (∀ b ∈ F, w'.heap[b]? = w.heap[b]?) → Q F w'
  lt : ∀ {F : List Nat} {w : World}, Q F w → ∀ b ∈ F, b < w.heap.size
structure SS (Q : List Nat → World → Prop) (wb w : World) (sv : Value) (S : List (List Int)) (FR FT : List Nat) : Prop where
  ext : Ext wb w
  rr : Q FR w
  rs : RowG FT 23 w sv S
  ns : FT.Nodup
  br : ∀ b ∈ FR, wb.heap.size ≤ b
  bs : ∀ b ∈ FT, wb.heap.size ≤ b
  dis : ∀ b ∈ FR, b ∉ FT
section
variable {Q Q' : List Nat → World → Prop} {wb w w1 w' : World} {sv sv' : Value} {S S' : List (List Int)} {FR FT F' : List Nat}
theorem SS.step (hQ : KQ Q) (h : SS Q wb w sv S FR FT) (hx : Ext w w') : SS Q wb w' sv S FR FT :=
  ⟨h.ext.trans hx, hQ.keep h.rr fun b hb => hx.heap (hQ.lt h.rr b hb), h.rs.keep fun b hb => hx.heap (h.rs.lt b hb), h.ns, h.br, h.bs, h.dis⟩
theorem SS.race (hQ : KQ Q) (hQ' : KQ Q') (h : SS Q wb w sv S FR FT) (hc : Chg FR w w') (hr : Q' F' w') (hs : ∀ c ∈ F', c ∈ FR ∨ w.heap.size ≤ c) : SS Q' wb w' sv S F' FT :=
  ⟨h.ext.chgF hc h.br, hr, h.rs.keep fun b hb => hc.block b (h.rs.lt b hb) fun hF => h.dis b hF hb, h.ns, fun b hb => by
    rcases hs b hb with h1 | h1
    · exact h.br b h1
    · have := h.ext.size; omega, h.bs, fun b hb hF => by
    rcases hs b hb with h1 | h1
    · exact h.dis b h1 hF
    · have := h.rs.lt b hF; omega⟩
theorem SS.see (hQ : KQ Q) (h : SS Q wb w sv S FR FT) {GX : List Nat} (hx : Ext w w1) (hc : Chg FT w1 w') (hr : RowG F' 23 w' sv' S') (hn : F'.Nodup) (hs : ∀ c ∈ F', c ∈ FT ∨ c ∈ GX ∨ w.heap.size ≤ c) (hG : ∀ c ∈ GX, wb.heap.size ≤ c ∧ c ∉ FR) : SS Q wb w' sv' S' FR F' := by
  have h1 := h.step hQ hx
  refine ⟨h1.ext.chgF hc h.bs, hQ.keep h1.rr fun b hb => hc.block b (hQ.lt h1.rr b hb) fun hF => h.dis b hb hF, hr, hn, h.br, fun b hb => ?_, fun b hb hF => ?_⟩
  · rcases hs b hb with h2 | h2 | h2
    · exact h.bs b h2
    · exact (hG b h2).1
    · have := h.ext.size; omega
  · rcases hs b hF with h2 | h2 | h2
    · exact h.dis b hb h2
    · exact (hG b h2).2 hb
    · have := hQ.lt h.rr b hb; omega
end
theorem kqRow (e : Nat) (v : Value) (R : List DRace) : KQ (fun F w => RowG F e w v R ∧ F.Nodup) := ⟨fun h hk => ⟨h.1.keep hk, h.2⟩, fun h => h.1.lt⟩
theorem kqMine (v : Value) (R : List DRace) : KQ (fun F w => Mine F w v R) := ⟨fun h hk => h.keep hk, fun h => h.lt⟩
theorem states_in {c : DCode} {m : Int} (h : CodeR c → TrOk c (mostN m) (lookD c (mostN m))) : (statesOf c m).length ≤ 150 ∧ (statesOf c m ≠ [] → CodeR c) ∧ ∀ s ∈ statesOf c m, StateR c s := by
  unfold statesOf
  split
  · rename_i hc
    have hk := h hc
    have hm := hk.many
    have hb := brought_in m
    have hM : mostN m ≤ 150 := by unfold mostN; omega
    exact ⟨by omega, fun _ => hc, hk.right⟩
  · exact ⟨by simp, fun h => absurd rfl h, by simp⟩
theorem implSeenAll_ok {w W0 : World} {v0 : Value} {c : DCode} {m : Int} (h0 : Is W0 v0 c) (e0 : Ext W0 w) (hw : wCode c ≤ 1048576) :
    CALL Tryz.prog 40 [v0, .int .i64 m] w fun r w' => Ext w w' ∧ Two2 w w' r (canon (racesF c (statesOf c m))) (seenL c (statesOf c m)) := by
  refine F40_call ?_
  unfold F40
  refine op_box h0 e0 fun w1 hx1 hA => ?_
  refine rd_load ty35 hA (Ext.refl _) fun v16 h16 => ?_
  refine (implStatesOf_ok (m := m) h16 (Ext.refl _) hw).mono ?_
  rintro _ wb ⟨hxb, ⟨va, rfl, hoa⟩, hT⟩
  obtain ⟨hn150, hcne, hst⟩ := states_in hT
  have hs1 := hx1.size
  have hsb := hxb.size
  refine rd_extract rfl ?_
  refine rd_extract rfl ?_
  generalize statesOf c m = sts at *
  refine rd_len u103 hoa.is ?_
  have hS0 : SS (fun F w => RowG F 109 w (.slice none 0 0) (racesF c (sts.take 0)) ∧ F.Nodup) wb wb (.slice none 0 0) (seenL c (sts.take 0)) [] [] :=
    ⟨Ext.refl _, ⟨.inl ⟨none, rfl, rfl, rfl⟩, List.nodup_nil⟩, .inl ⟨none, rfl, rfl, rfl⟩, List.nodup_nil, by simp, by simp, by simp⟩
  refine loopC sts.length (fun k us w' => ∃ rv sv FR FT, us = [rv, sv, .int .i64 (k : Int)] ∧ k ≤ sts.length ∧ SS (fun F w => RowG F 109 w rv (racesF c (sts.take k)) ∧ F.Nodup) wb w' sv (seenL c (sts.take k)) FR FT) 0 (Nat.zero_le _) ⟨_, _, _, _, rfl, Nat.zero_le _, hS0⟩ ?_
  rintro k mk u w3 hkm ⟨rv, sv, FR, FT, hu, hkl, hS3⟩
  simp only [List.map_cons, List.map_nil, List.cons.injEq, and_true] at hu
  obtain ⟨hu1, hu2, hu3⟩ := hu
  rw [hu1, hu2, hu3]
  refine rd_lss ?_
  refine br (fun hlt => ?_) (fun hge => ?_)
  case refine_2 =>
    have hke : k = sts.length := by omega
    have hrl : (racesF c (sts.take k)).length ≤ 1000000 := by
      by_cases h : sts = []
      · subst h; simp [racesF]
      · have := racesF_len (hcne h) hst k hkl
        omega
    rw [hke, List.take_length] at hS3
    rw [hke, List.take_length] at hrl
    refine (inOrder_ok hS3.rr.1.own.is (Ext.refl _) hrl).mono ?_
    rintro v60 w4 ⟨hx4, ho4⟩
    have hS4 := hS3.step (kqRow _ _ _) hx4
    have hs3 := hS3.ext.size
    have hs4 := hx4.size
    obtain ⟨FF, hM, hF⟩ := ho4
    refine ⟨hx1.trans (hxb.trans hS4.ext), v60, sv, w3.heap.size, w4.heap.size, wb.heap.size, w3.heap.size, rfl, ⟨FF, hM, fun b hb => ⟨hF b hb, hM.lt b hb⟩⟩, ⟨FT, ⟨hS4.rs.own, hS4.ns, hS4.rs.wr⟩, fun b hb => ⟨hS3.bs b hb, hS3.rs.lt b hb⟩⟩, by omega, by omega, by omega, by omega, by omega⟩
  have hk : k < sts.length := by omega
  have hc : CodeR c := hcne (by intro e; rw [e] at hk; simp at hk)
  have hsR := hst sts[k] (List.getElem_mem _)
  have hn6 := hsR.2.2.1
  have hrsuc := racesF_succ (c := c) hk
  have hrl := racesF_len hc hst (k + 1) (by omega)
  have hsl := seenL_len (c := c) (fun s hs => (hst s hs).2.2.1.2) k hkl
  have hssuc := seenL_succ (c := c) hk
  refine rd_indexN u103 ty37 hoa.is hk fun b3 o3 hA3 => ?_
  generalize hsk : sts[k] = s at *
  refine rd_load ty37 hA3 hS3.ext fun v26 h26 => ?_
  refine op_var zl37 rfl ty37 rfl h26 hS3.ext fun w4 hx4 hAS hV4 => ?_
  have hS4 := hS3.step (kqRow _ _ _) hx4
  have hgl : w3.heap.size < w4.heap.size := hV4.lt
  have hAB4 := atB_box h26 hV4 rfl
  refine rd_load ty35 hA (hxb.trans hS4.ext) fun v28 h28 => ?_
  refine rd_load ty37 hAS (Ext.refl _) fun v29 h29 => ?_
  refine (meetings_ok h28 (hxb.trans hS4.ext) h29 (Ext.refl _) hc hsR).mono ?_
  rintro v30 w5 ⟨hx5, ho5⟩
  have hS5 := hS4.step (kqRow _ _ _) hx5
  have hlr : (racesF c (sts.take k)).length + (meets c s).length ≤ 1000000 := by
    rw [hrsuc, List.length_append] at hrl; omega
  have hg3R : ∀ b ∈ FR, b < w3.heap.size := hS3.rr.1.lt
  have hg3S : ∀ b ∈ FT, b < w3.heap.size := hS3.rs.lt
  refine op_appG (m := meets c s) u58 ty109 zc109 hS5.rr.1 hS5.rr.2 ho5.is (Ext.refl _) (by rw [maxLen_eq]; omega) (by omega) fun v31 w6 FR6 hc6 hr6 hn6' hs6 => ?_
  rw [← hrsuc] at hr6
  have hS6 := hS5.race (Q' := fun F w => RowG F 109 w v31 (racesF c (sts.take (k + 1))) ∧ F.Nodup) (kqRow _ _ _) (kqRow _ _ _) hc6 ⟨hr6, hn6'⟩ hs6
  have hAB6 : AtB wb w6 w3.heap.size 0 s := by
    refine (hAB4.ext hx5).keep (hc6.block _ (by have := hx5.size; omega) fun hF => ?_)
    have := hg3R _ hF; omega
  have hs45 := hx5.size
  have hs56 := hc6.size
  generalize hRR : racesF c (sts.take (k + 1)) = RR at *
  refine rd_fld fd37_2 ?_
  refine rd_load ty27 (at_DState_2 (hAB6.at hS6.ext)) (Ext.refl _) fun v33 h33 => ?_
  refine rd_len u27 h33 ?_
  refine loopC s.stacks.length (fun t us w' => ∃ sv FT, us = [sv, .int .i64 (t : Int)] ∧ t ≤ s.stacks.length ∧ w3.heap.size < w'.heap.size ∧ SS (fun F w => RowG F 109 w v31 RR ∧ F.Nodup) wb w' sv (seenS c s (seenL c (sts.take k)) t) FR6 FT ∧ AtB wb w' w3.heap.size 0 s ∧ w3.heap.size ∉ FT) 0 (Nat.zero_le _) ⟨sv, FT, rfl, Nat.zero_le _, by omega, hS6, hAB6, fun hF => by have := hg3S _ hF; omega⟩ ?_
  rintro t mt u7 w7 htm ⟨sv7, FS7, hu7, htl, hs7, hS7, hAB7, hg7⟩
  simp only [List.map_cons, List.map_nil, List.cons.injEq, and_true] at hu7
  obtain ⟨hu71, hu72⟩ := hu7
  rw [hu71, hu72]
  refine rd_lss ?_
  refine br (fun hlt7 => ?_) (fun hge7 => ?_)
  case refine_2 =>
    have hte : t = s.stacks.length := by omega
    rw [hte, ← hssuc] at hS7
    refine rd_inc (by omega) ?_
    exact ⟨mk - 1, by omega, k + 1, by omega, v31, sv7, FR6, FS7, rfl, by omega, by rw [hRR]; exact hS7⟩
  have ht : t < s.stacks.length := by omega
  have hAS7 := hAB7.at hS7.ext
  refine rd_load ty35 hA (hxb.trans hS7.ext) fun v38 h38 => ?_
  refine rd_load ty37 hAS7 (Ext.refl _) fun v39 h39 => ?_
  refine (knot_ok (t := (t : Int)) h38 (hxb.trans hS7.ext) h39 (Ext.refl _) hc hsR).mono ?_
  rintro _ w8 ⟨hx8, rfl⟩
  have hk64 := knotOf_lt hc hsR (t : Int)
  have hsuc := seenS_succ c s (seenL c (sts.take k)) t
  have hsl7 := seenS_len c s (seenL c (sts.take k)) t
  generalize knotOf c s (t : Int) = kn at *
  refine (bitsOf_ok (m := kn) (by omega)).mono ?_
  rintro v42 w9 ⟨hx9, ho9⟩
  have hbl := bitsL64 kn
  generalize hbe : bitsL kn = B at *
  have hone : v42.oneCell' = true := by
    obtain ⟨aa, cc, FF, xx, hh, _⟩ := is_list ho9.is
    rw [hh]; rfl
  refine op_cell zlIS ty23 hone fun w10 hx10 hB10 => ?_
  refine rd_of (v := .func (.func 99) #[] #[.pointer (some ⟨w9.heap.size, 0, none⟩)]) (fun w' _ => by simp [Instr.makeFunc]) ?_
  have hA10 : At w10 w9.heap.size 0 B := at_of_blk hB10 rfl (ho9.is.ext hx10)
  refine rd_blkV ty23 hB10 rfl ?_
  refine rd_len u23 ho9.is ?_
  refine rd_gtr ?_
  have hx710 := hx8.trans (hx9.trans hx10)
  have hS10 := hS7.step (kqRow _ _ _) hx710
  have hAB10 := hAB7.ext hx710
  have hs710 := hx710.size
  refine br (fun hpos => ?_) (fun hz => ?_)
  case refine_2 =>
    have hB0 : B = [] := List.eq_nil_of_length_eq_zero (by omega)
    refine rd_inc (by omega) ?_
    exact ⟨mt - 1, by omega, t + 1, by omega, sv7, FS7, rfl, by omega, by omega, by rw [hsuc]; unfold addK; rw [if_pos (.inl hB0)]; exact hS10, hAB10, hg7⟩
  have hBne : B ≠ [] := fun e => by rw [e] at hpos; simp at hpos
  refine (containsFuncI_ok hS10.rs.own.is (Ext.refl _) hA10 (Ext.refl _)).mono ?_
  rintro _ w11 ⟨hx11, rfl⟩
  have hS11 := hS10.step (kqRow _ _ _) hx11
  have hAB11 := hAB10.ext hx11
  have hs11 := hx11.size
  refine rd_nodec ?_
  refine br (fun hnm => ?_) (fun hm => ?_)
  case refine_2 =>
    have hin := Decidable.not_not.1 hm
    refine rd_inc (by omega) ?_
    exact ⟨mt - 1, by omega, t + 1, by omega, sv7, FS7, rfl, by omega, by omega, by rw [hsuc]; unfold addK; rw [if_pos (.inr hin)]; exact hS11, hAB11, hg7⟩
  refine rd_blkV ty23 (hB10.ext hx11) rfl ?_
  obtain ⟨GX, hMX, hGX⟩ := ho9
  have hs78 := hx8.size
  refine op_pushB (x := B) (K := fun _ => _) u27 ty23 z23 zc23 (by decide) hS11.rs hS11.ns (hMX.ext (hx10.trans hx11)) (fun b hb hF => by have := hGX b hb; have := hS7.rs.lt b hF; omega) (by rw [maxLen_eq]; omega) (by omega) (fun w12 v' w13 G' hx12 hc12 hr12 hn12 hs12 => ?_) fun _ _ _ h => h
  have hS13 := hS11.see (kqRow _ _ _) (GX := GX) hx12 hc12 hr12 hn12 hs12 fun b hb => ⟨by have := hGX b hb; have := hS7.ext.size; omega, fun hF => by have := hGX b hb; have := hS7.rr.1.lt b hF; omega⟩
  have hs12' := hx12.size
  have hs13 := hc12.size
  refine rd_inc (by omega) ?_
  refine ⟨mt - 1, by omega, t + 1, by omega, v', G', rfl, by omega, by omega, ?_, ?_, fun hF => ?_⟩
  · rw [hsuc]; unfold addK; rw [if_neg (fun h => h.elim hBne hnm)]; exact hS13
  · exact (hAB11.ext hx12).keep (hc12.block _ (by omega) hg7)
  · rcases hs12 _ hF with h | h | h
    · exact hg7 h
    · have := hGX _ h; omega
    · omega
end Go.Proofs.YtjgfldfbljmhhaaGreat
namespace Go.Proofs.YtjgfldfbljmhhaaGreat
open Go Go.Sh Go.Proofs
set_option linter.unusedVariables false
def F39 (a0 a1 : Value) (w : World) (R : Value → World → Prop) : Prop :=
 OP Tryz.prog (Instr.box 35 a0) w fun x2 w =>
 OP Tryz.prog (Instr.buildSlice 58 0 #[]) w fun x17 w =>
 OP Tryz.prog (Instr.buildSlice 27 0 #[]) w fun x18 w =>
 RD Tryz.prog (Instr.loadAt 35 x2) w fun x20 =>
 CALL Tryz.prog 90 [x20, a1] w fun x22 w =>
 RD Tryz.prog (Instr.extract x22 0) w fun x23 =>
 RD Tryz.prog (Instr.extract x22 1) w fun x24 =>
 LOOPI [6, 7, 10] [x17, x18, (Value.int .i64 0)] w fun u5 w next5 =>
 RD Tryz.prog (Builtin.len_ #[103] 3 [x23].toArray) w fun x27 =>
 RD Tryz.prog (bin .lss 3 (.tmp 0) (.tmp 0) (u5 10) x27) w fun x28 =>
 BR x28
 ((fun w => RD Tryz.prog (Instr.loadAt 35 x2) w fun x31 =>
 RD Tryz.prog (Instr.indexAt 103 x23 (u5 10)) w fun x34 =>
 RD Tryz.prog (Instr.loadAt 37 x34) w fun x35 =>
 CALL Tryz.prog 91 [x31, x35] w fun x36 w =>
 LOOPI [6, 12] [(u5 6), (Value.int .i64 0)] w fun u9 w next9 =>
 RD Tryz.prog (Builtin.len_ #[58] 3 [x36].toArray) w fun x39 =>
 RD Tryz.prog (bin .lss 3 (.tmp 0) (.tmp 0) (u9 12) x39) w fun x40 =>
 BR x40
 (RD Tryz.prog (Instr.indexAt 58 x36 (u9 12)) w fun x46 =>
 RD Tryz.prog (Instr.loadAt 109 x46) w fun x47 =>
 CALL Tryz.prog 92 [(u9 6), x47] w fun x48 w =>
 RD Tryz.prog (bin .add 3 (.tmp 0) (.const undef) (u9 12) (Value.int .i64 1)) w fun x42 =>
 next9 [x48, x42] w)
 (LOOPI [7, 13] [(u5 7), (Value.int .i64 0)] w fun u13 w next13 =>
 RD Tryz.prog (Instr.indexAt 103 x23 (u5 10)) w fun x52 =>
 RD Tryz.prog (Instr.fieldAt 37 x52 2) w fun x53 =>
 RD Tryz.prog (Instr.loadAt 27 x53) w fun x54 =>
 RD Tryz.prog (Builtin.len_ #[27] 3 [x54].toArray) w fun x55 =>
 RD Tryz.prog (bin .lss 3 (.tmp 0) (.tmp 0) (u13 13) x55) w fun x56 =>
 BR x56
 ((fun w => RD Tryz.prog (Instr.loadAt 35 x2) w fun x59 =>
 RD Tryz.prog (Instr.indexAt 103 x23 (u5 10)) w fun x62 =>
 RD Tryz.prog (Instr.loadAt 37 x62) w fun x63 =>
 CALL Tryz.prog 93 [x59, x63, (u13 13)] w fun x65 w =>
 RD Tryz.prog (Builtin.len_ #[23] 3 [x65].toArray) w fun x67 =>
 RD Tryz.prog (bin .eql 3 (.tmp 0) (.const undef) x67 (Value.int .i64 0)) w fun x68 =>
 LOOPI [15, 16] [x68, (Value.int .i64 0)] w fun u18 w next18 =>
 RD Tryz.prog (Builtin.len_ #[27] 3 [(u13 7)].toArray) w fun x71 =>
 RD Tryz.prog (bin .lss 3 (.tmp 0) (.tmp 0) (u18 16) x71) w fun x72 =>
 BR x72
 (BR (u18 15)
 (RD Tryz.prog (bin .add 3 (.tmp 0) (.const undef) (u18 16) (Value.int .i64 1)) w fun x74 =>
 next18 [(Value.bool true), x74] w)
 (RD Tryz.prog (Instr.indexAt 27 (u13 7) (u18 16)) w fun x79 =>
 RD Tryz.prog (Instr.loadAt 23 x79) w fun x80 =>
 CALL Tryz.prog 94 [x80, x65] w fun x82 w =>
 RD Tryz.prog (bin .add 3 (.tmp 0) (.const undef) (u18 16) (Value.int .i64 1)) w fun x74 =>
 next18 [x82, x74] w))
 (RD Tryz.prog (Op.unary .not (u18 15)) w fun x85 =>
 BR x85
 (OP Tryz.prog (Instr.buildSlice 27 1 #[(0, x65)]) w fun x88 w =>
 OP Tryz.prog (Builtin.append_ #[27, 27] 27 [(u13 7), x88].toArray) w fun x89 w =>
 RD Tryz.prog (bin .add 3 (.tmp 0) (.const undef) (u13 13) (Value.int .i64 1)) w fun x58 =>
 next13 [x89, x58] w)
 (RD Tryz.prog (bin .add 3 (.tmp 0) (.const undef) (u13 13) (Value.int .i64 1)) w fun x58 =>
 next13 [(u13 7), x58] w))) (World.drew1 w))
 (RD Tryz.prog (bin .add 3 (.tmp 0) (.const undef) (u5 10) (Value.int .i64 1)) w fun x30 =>
 next5 [(u9 6), (u13 7), x30] w))) (World.drew1 w))
 (R (Value.tuple #[(u5 6), (u5 7)]) w)
def cfg39 : Cfg := { ext := extL, joins := [], loops := [(5, 1237940039285380274865700032, [6, 7, 10]), (9, 562812514472000, [6, 12]), (13, 1237940039284817324945825920, [7, 13]), (18, 19342222818023708089745408, [15, 16])], draws := [(7, [0, 1, 2, 3, 4, 5, 6], 0), (15, [0, 1, 2, 3, 4, 5, 6, 7], 0)], pars := [] }
theorem F39_eq (a0 a1 : Value) (w : World) (R : Value → World → Prop) : vcF Tryz.prog cfg39 Tryz.f39 [a0, a1] w R = F39 a0 a1 w R := by kernel_rfl
theorem F39_call {a0 a1 : Value} {w : World} {R : Value → World → Prop} (h : F39 a0 a1 w R) : CALL Tryz.prog 39 [a0, a1] w R :=
  call_of (g := cfg39) ent mixed Tryz.func39 (Nat.le_of_ble_eq_true (by kernel_rfl)) (by kernel_rfl) (F39_eq a0 a1 w R ▸ h)
set_option linter.unusedVariables false
set_option linter.unusedSimpArgs false
open Rep (rep)
theorem take_snoc {α : Type} {l : List α} {k : Nat} (hk : k < l.length) : l.take (k + 1) = l.take k ++ [l[k]] := List.take_succ_eq_append_getElem hk
theorem specSeenAll_ok {w W0 : World} {v0 : Value} {c : DCode} {m : Int} (h0 : Is W0 v0 c) (e0 : Ext W0 w) (hw : wCode c ≤ 1048576) :
    CALL Tryz.prog 39 [v0, .int .i64 m] w fun r w' => Ext w w' ∧ ∃ a b, r = .tuple #[a, b] ∧ Own w.heap.size w' a (canon (racesF c (statesOf c m))) ∧ Own w.heap.size w' b (seenL c (statesOf c m)) ∧ (CodeR c → TrOk c (mostN m) (lookD c (mostN m))) := by
  refine F39_call ?_
  unfold F39
  refine op_box h0 e0 fun w1 hx1 hA => ?_
  refine op_build0I (α := DRace) u58 ty109 fun a17 wa hxa _ => ?_
  refine op_build0I (α := List Int) u27 ty23 fun a18 wc hxc _ => ?_
  have hxac := hxa.trans hxc
  refine rd_load ty35 hA hxac fun v16 h16 => ?_
  refine (specStatesOf_ok (m := m) h16 hxac hw).mono ?_
  rintro _ wb ⟨hxb', ⟨va, rfl, hoa⟩, hT⟩
  obtain ⟨hn150, hcne, hst⟩ := states_in hT
  have hxb := hxac.trans hxb'
  have hs1 := hx1.size
  have hsb := hxb.size
  refine rd_extract rfl ?_
  refine rd_extract rfl ?_
  generalize statesOf c m = sts at *
  have hM0 : ∀ w : World, Mine [] w (.slice (some a17) 0 0) (canon (racesF c (sts.take 0))) := fun w => by
    have h : RowG (α := DRace) [] 109 w (.slice (some a17) 0 0) [] := .inl ⟨some a17, rfl, rfl, rfl⟩
    exact ⟨h.own, List.nodup_nil, h.wr⟩
  have hS0 : SS (fun F w => Mine F w (.slice (some a17) 0 0) (canon (racesF c (sts.take 0)))) wb wb (.slice (some a18) 0 0) (seenL c (sts.take 0)) [] [] :=
    ⟨Ext.refl _, hM0 wb, .inl ⟨some a18, rfl, rfl, rfl⟩, List.nodup_nil, by simp, by simp, by simp⟩
  refine loopC sts.length (fun k us w' => ∃ rv sv FR FT, us = [rv, sv, .int .i64 (k : Int)] ∧ k ≤ sts.length ∧ SS (fun F w => Mine F w rv (canon (racesF c (sts.take k)))) wb w' sv (seenL c (sts.take k)) FR FT) 0 (Nat.zero_le _) ⟨_, _, _, _, rfl, Nat.zero_le _, hS0⟩ ?_
  rintro k mk u w3 hkm ⟨rv, sv, FR, FT, hu, hkl, hS3⟩
  simp only [List.map_cons, List.map_nil, List.cons.injEq, and_true] at hu
  obtain ⟨hu1, hu2, hu3⟩ := hu
  rw [hu1, hu2, hu3]
  refine rd_len u103 hoa.is ?_
  refine rd_lss ?_
  refine br (fun hlt => ?_) (fun hge => ?_)
  case refine_2 =>
    have hke : k = sts.length := by omega
    rw [hke, List.take_length] at hS3
    have hwb : w.heap.size ≤ wb.heap.size := by omega
    exact ⟨hx1.trans (hxb.trans hS3.ext), rv, sv, rfl, ⟨FR, hS3.rr, fun b hb => Nat.le_trans hwb (hS3.br b hb)⟩, ⟨FT, ⟨hS3.rs.own, hS3.ns, hS3.rs.wr⟩, fun b hb => Nat.le_trans hwb (hS3.bs b hb)⟩, hT⟩
  have hk : k < sts.length := by omega
  have hc : CodeR c := hcne (by intro e; rw [e] at hk; simp at hk)
  have hsR := hst sts[k] (List.getElem_mem _)
  have hn6 := hsR.2.2.1
  have hrsuc := racesF_succ (c := c) hk
  have hrl := racesF_len hc hst (k + 1) (by omega)
  have hsl := seenL_len (c := c) (fun s hs => (hst s hs).2.2.1.2) k hkl
  have hssuc := seenL_succ (c := c) hk
  have hxd := ext_drew w3
  generalize World.drew1 w3 = w4 at *
  have hS4 := hS3.step (kqMine _ _) hxd
  refine rd_load ty35 hA (hxb.trans hS4.ext) fun v28 h28 => ?_
  refine rd_indexN u103 ty37 hoa.is hk fun b3 o3 hA3 => ?_
  generalize hsk : sts[k] = s at *
  refine rd_load ty37 hA3 hS4.ext fun v29 h29 => ?_
  refine (l24Meet_ok h28 (hxb.trans hS4.ext) h29 hS4.ext hc hsR).mono ?_
  rintro v36 w5 ⟨hx5, ho5⟩
  have hS5 := hS4.step (kqMine _ _) hx5
  have hml := meets_len s hc hsR
  refine loopC (meets c s).length (fun j us w' => ∃ rv FR, us = [rv, .int .i64 (j : Int)] ∧ j ≤ (meets c s).length ∧ Ext w5 w' ∧ SS (fun F w => Mine F w rv (canon (racesF c (sts.take k) ++ (meets c s).take j))) wb w' sv (seenL c (sts.take k)) FR FT) 0 (Nat.zero_le _) ⟨rv, FR, rfl, Nat.zero_le _, Ext.refl _, by simpa using hS5⟩ ?_
  rintro j mj u6 w6 hjm ⟨rv6, FR6, hu6, hjl, hx6, hS6⟩
  simp only [List.map_cons, List.map_nil, List.cons.injEq, and_true] at hu6
  obtain ⟨hu61, hu62⟩ := hu6
  rw [hu61, hu62]
  refine rd_len u58 ho5.is ?_
  refine rd_lss ?_
  refine br (fun hlt6 => ?_) (fun hge6 => ?_)
  case refine_1 =>
    have hj : j < (meets c s).length := by omega
    refine rd_indexN u58 ty109 ho5.is hj fun b7 o7 hA7 => ?_
    refine rd_load ty109 hA7 hx6 fun v47 h47 => ?_
    have hcl := canon_len (racesF c (sts.take k) ++ (meets c s).take j)
    have hl0 : (racesF c (sts.take k) ++ (meets c s).take j).length ≤ 1000000 := by
      rw [hrsuc, List.length_append] at hrl
      rw [List.length_append, List.length_take]; omega
    refine (l18PutF_ok hS6.rr h47 hx6 (by omega)).mono ?_
    rintro v48 w7 ⟨hx7, F', hM7, hF7⟩
    rw [← canon_snoc, List.append_assoc, ← take_snoc hj] at hM7
    have hS7 := hS6.race (Q' := fun F w => Mine F w v48 (canon (racesF c (sts.take k) ++ (meets c s).take (j + 1)))) (kqMine _ _) (kqMine _ _) ⟨hx7.os, hx7.tape, hx7.output, hx7.size, fun i hi _ => hx7.block i hi⟩ hM7 hF7
    refine rd_inc (by omega) ?_
    exact ⟨mj - 1, by omega, j + 1, by omega, v48, F', rfl, by omega, hx6.trans hx7, hS7⟩
  have htk : (meets c s).take j = meets c s := List.take_of_length_le (by omega)
  rw [htk, ← hrsuc] at hS6
  generalize hRR : canon (racesF c (sts.take (k + 1))) = RR at *
  refine loopC s.stacks.length (fun t us w' => ∃ sv FT, us = [sv, .int .i64 (t : Int)] ∧ t ≤ s.stacks.length ∧ SS (fun F w => Mine F w rv6 RR) wb w' sv (seenS c s (seenL c (sts.take k)) t) FR6 FT) 0 (Nat.zero_le _) ⟨sv, FT, rfl, Nat.zero_le _, hS6⟩ ?_
  rintro t mt u7 w7 htm ⟨sv7, FS7, hu7, htl, hS7⟩
  simp only [List.map_cons, List.map_nil, List.cons.injEq, and_true] at hu7
  obtain ⟨hu71, hu72⟩ := hu7
  rw [hu71, hu72]
  have hst7 : ∀ {K : Value → Prop}, (∀ b o, At wb b o s → K (.pointer (some ⟨b, o, none⟩))) → RD Tryz.prog (Instr.indexAt 103 va (.int .i64 (k : Int))) w7 K := fun kk => by
    refine rd_indexN u103 ty37 hoa.is hk fun b3 o3 hA3 => ?_
    rw [hsk] at hA3
    exact kk b3 o3 hA3
  refine hst7 fun b8 o8 hA8 => ?_
  refine rd_fld fd37_2 ?_
  refine rd_load ty27 (at_DState_2 hA8) hS7.ext fun v33 h33 => ?_
  refine rd_len u27 h33 ?_
  refine rd_lss ?_
  refine br (fun hlt7 => ?_) (fun hge7 => ?_)
  case refine_2 =>
    have hte : t = s.stacks.length := by omega
    rw [hte, ← hssuc] at hS7
    refine rd_inc (by omega) ?_
    exact ⟨mk - 1, by omega, k + 1, by omega, rv6, sv7, FR6, FS7, rfl, by omega, by rw [hRR]; exact hS7⟩
  have ht : t < s.stacks.length := by omega
  have hxd7 := ext_drew w7
  generalize World.drew1 w7 = w8 at *
  have hS8 := hS7.step (kqMine _ _) hxd7
  refine rd_load ty35 hA (hxb.trans hS8.ext) fun v59 h59 => ?_
  refine rd_indexN u103 ty37 hoa.is hk fun b9 o9 hA9 => ?_
  rw [hsk] at hA9
  refine rd_load ty37 hA9 hS8.ext fun v63 h63 => ?_
  refine (l24KnotOf_ok (t := (t : Int)) h59 (hxb.trans hS8.ext) h63 hS8.ext hc hsR).mono ?_
  rintro v65 w9 ⟨hx9, ho9⟩
  have hS9 := hS8.step (kqMine _ _) hx9
  have hsuc := seenS_succ c s (seenL c (sts.take k)) t
  have hsl7 := seenS_len c s (seenL c (sts.take k)) t
  have hbl := bitsL64 (knotOf c s (t : Int))
  generalize bitsL (knotOf c s (t : Int)) = B at *
  generalize seenS c s (seenL c (sts.take k)) t = Sq at *
  refine rd_len u23 ho9.is ?_
  refine rd_eql ?_
  have hz : decide ((B.length : Int) = 0) = decide (B = [] ∨ B ∈ Sq.take 0) := by
    rw [decide_eq_decide]
    constructor
    · intro h; exact .inl (List.eq_nil_of_length_eq_zero (by omega))
    · rintro (h | h)
      · rw [h]; rfl
      · simp at h
  rw [hz]
  refine loopC Sq.length (fun j us w' => us = [.bool (decide (B = [] ∨ B ∈ Sq.take j)), .int .i64 (j : Int)] ∧ j ≤ Sq.length ∧ Ext w9 w') 0 (Nat.zero_le _) ⟨rfl, Nat.zero_le _, Ext.refl _⟩ ?_
  rintro i mi u10 w10 him ⟨hu10, hil, hx10⟩
  simp only [List.map_cons, List.map_nil, List.cons.injEq, and_true] at hu10
  obtain ⟨hu101, hu102⟩ := hu10
  rw [hu101, hu102]
  have hS10 := hS9.step (kqMine _ _) hx10
  refine rd_len u27 hS10.rs.own.is ?_
  refine rd_lss ?_
  refine br (fun hlt10 => ?_) (fun hge10 => ?_)
  case refine_1 =>
    have hi : i < Sq.length := by omega
    have hsn := take_snoc hi
    refine br (fun hy => ?_) (fun hno => ?_)
    · refine rd_inc (by omega) ?_
      have : decide (B = [] ∨ B ∈ Sq.take (i + 1)) = true := by
        rw [decide_eq_true_eq, hsn]
        exact hy.imp id fun h => List.mem_append.2 (.inl h)
      exact ⟨mi - 1, by omega, i + 1, by omega, by rw [this], by omega, hx10⟩
    refine rd_indexN u27 ty23 hS10.rs.own.is hi fun b11 o11 hA11 => ?_
    refine rd_load ty23 hA11 (Ext.refl _) fun v80 h80 => ?_
    refine (l22Same_ok h80 (Ext.refl _) ho9.is hx10).mono ?_
    rintro _ w11 ⟨hx11, rfl⟩
    refine rd_inc (by omega) ?_
    have : decide (Sq[i] = B) = decide (B = [] ∨ B ∈ Sq.take (i + 1)) := by
      rw [decide_eq_decide, hsn]
      constructor
      · intro h; exact .inr (List.mem_append.2 (.inr (by simp [h])))
      · rintro (h | h)
        · exact absurd (.inl h) hno
        · rcases List.mem_append.1 h with h | h
          · exact absurd (.inr h) hno
          · simp only [List.mem_cons, List.not_mem_nil, or_false] at h; exact h.symm
    exact ⟨mi - 1, by omega, i + 1, by omega, by rw [this], by omega, hx10.trans hx11⟩
  have htq : Sq.take i = Sq := List.take_of_length_le (by omega)
  rw [htq]
  refine rd_nodec ?_
  refine br (fun hnm => ?_) (fun hm => ?_)
  case refine_2 =>
    have hin := Decidable.not_not.1 hm
    refine rd_inc (by omega) ?_
    exact ⟨mt - 1, by omega, t + 1, by omega, sv7, FS7, rfl, by omega, by rw [hsuc]; unfold addK; rw [if_pos hin]; exact hS10⟩
  obtain ⟨GX, hMX, hGX⟩ := ho9
  have hs78 := hxd7.size
  refine op_pushB (x := B) (K := fun _ => _) u27 ty23 z23 zc23 (by decide) hS10.rs hS10.ns (hMX.ext hx10) (fun b hb hF => by have := hGX b hb; have := hS8.rs.lt b hF; omega) (by rw [maxLen_eq]; omega) (by omega) (fun w12 v' w13 G' hx12 hc12 hr12 hn12 hs12 => ?_) fun _ _ _ h => h
  have hS13 := hS10.see (kqMine _ _) (GX := GX) hx12 hc12 hr12 hn12 hs12 fun b hb => ⟨by have := hGX b hb; have := hS8.ext.size; omega, fun hF => by have := hGX b hb; have := hS8.rr.lt b hF; omega⟩
  refine rd_inc (by omega) ?_
  refine ⟨mt - 1, by omega, t + 1, by omega, v', G', rfl, by omega, ?_⟩
  rw [hsuc]; unfold addK; rw [if_neg hnm]; exact hS13
end Go.Proofs.YtjgfldfbljmhhaaGreat
namespace Go.Sh
set_option linter.unusedVariables false
set_option linter.unusedSimpArgs false
open Rep (rep)
instance : Rep UInt8 where
  size := 1
  agg := false
  rep F _ cs x := F = [] ∧ cs = [.int .u8 (x.toNat : Int)]
  pos := by decide
  sz _ := rfl
  len := by rintro _ _ _ _ ⟨_, rfl⟩; rfl
  one := by rintro _ _ _ _ ⟨_, rfl⟩ v hv; simp at hv; subst hv; rfl
  keep := by rintro _ _ _ _ _ h _; exact h
  lt := by rintro _ _ _ _ ⟨rfl, _⟩ b hb; cases hb
instance : Flat UInt8 := ⟨fun h => h.1⟩
instance : RepZ UInt8 := ⟨0, [.int .u8 0], fun _ => ⟨rfl, rfl⟩⟩
section
variable {P : Program} {w w0 : World} {K : Value → Prop} {t : TypeId} {x y : Operand}
theorem mine_u8 {b : UInt8} : Mine [] w (.int .u8 (b.toNat : Int)) b := ⟨⟨_, ⟨rfl, rfl⟩, rfl⟩, List.nodup_nil, Wr.nil w⟩
theorem ownI_u8 {lo hi : Nat} {b : UInt8} : OwnI lo hi w (.int .u8 (b.toNat : Int)) b := ⟨[], mine_u8, by simp⟩
theorem rd_byte {src dst : TypeId} {n : Nat} (hs : (P.underlying src).isSome = true) (hd : P.underlying dst = some (.int .u8)) (hn : n < 256) (k : K (.int .u8 ((UInt8.ofNat n).toNat : Int))) : RD P (convert src dst (.int .i64 (n : Int))) w K := by
  refine rd_of (fun w' _ => ?_) k
  obtain ⟨d, hd'⟩ := Option.isSome_iff_exists.mp hs
  have h1 : IntKind.u8.wrap (n : Int) = n := by simp [IntKind.wrap, IntKind.signed, IntKind.bits]; omega
  have h2 : (UInt8.ofNat n).toNat = n := by simp; omega
  simp [convert, run_underlying hd', run_underlying hd, Conv.intToInt, h1]
  omega
theorem rd_bytesStr {src dst e : TypeId} {v : Value} {l : List UInt8} (hs : P.underlying src = some (.slice e)) (he : P.underlying e = some (.int .u8)) (hd : P.underlying dst = some .string) (h : Is w0 v l) (hx : Ext w0 w)
    (k : K (.string ⟨l.toArray⟩)) : RD P (convert src dst v) w K := by
  obtain ⟨a, cap, Fi, xs, rfl, h1, h2, hc, h4⟩ := is_list h
  have hcells : ∀ {l : List UInt8} {F : List Nat} {xs : List Value}, Cells F w0 xs l → xs = l.map fun b => Value.int .u8 (b.toNat : Int) := by
    intro l
    induction l with
    | nil => rintro _ _ ⟨_, rfl⟩; rfl
    | cons b l ih =>
      rintro _ _ ⟨F1, F2, c1, c2, _, rfl, ⟨_, rfl⟩, h⟩
      rw [ih h]; rfl
  have hxs := hcells hc
  refine rd_of (fun w' hx' => ?_) k
  rcases h4 with rfl | ⟨b, o, rfl, hr, hb⟩
  · cases a with
    | none => exact run_convert_bytes_nil w' src e hs he _ _ dst hd
    | some a =>
      rw [run_convert_bytes_string w' src dst e _ _ cap hs he hd]
      have := run_bytesToString (P := P) w' a 0 cap [] (by simp [loadCells, loadCellsFrom])
      exact this
  · have := run_convert_bytes_arg w' src e hs he b o l.length cap (l.map fun b => (b.toNat : Int)) (by simp) (fun i hi => by
      have hr' := rangeAt_ext (rangeAt_ext hr hx) hx'
      have := hr' i (.int .u8 (l[i].toNat : Int)) (by rw [hxs]; simp [hi])
      rw [this]
      simp [List.getD, hi]) dst hd
    rw [this]
    have e : strOfNums (l.map fun b => (b.toNat : Int)) = ⟨l.toArray⟩ := by
      unfold strOfNums
      congr 2
      rw [List.map_map]
      conv => rhs; rw [← List.map_id l]
      congr 1
      funext b
      simp
    rw [e]
theorem rd_addS {a b : ByteArray} (h : a.size + b.size ≤ 9223372036854775807) (k : K (.string (a ++ b))) : RD P (bin .add t x y (.string a) (.string b)) w K :=
  rd_of (fun w' _ => by
    have hh : ¬ (((a.size + b.size : Nat) : Int) > IntKind.i64.max) := by
      have : IntKind.i64.max = 9223372036854775807 := by decide
      omega
    show (do eqGuard .add t x y (.string a) (.string b); binOp .add t (.string a) (.string b) : Sem Value).run P w' = _
    simp only [eqGuard, binOp, Op.stringOp, hh, if_false]
    rfl) k
theorem rd_quo {a b : Int} (hb : b ≠ 0) (h : I64 (a.tdiv b)) (k : K (.int .i64 (a.tdiv b))) : RD P (bin .quo t x y (.int .i64 a) (.int .i64 b)) w K :=
  rd_of (fun w' _ => by simp [bin, eqGuard, binOp, Op.intDiv, hb, IntWalk.i64_in _ h]) k
end
end Go.Sh
namespace Go.Proofs.YtjgfldfbljmhhaaGreat
open Go Go.Sh Go.Proofs
set_option linter.unusedVariables false
def F141 (a0 : Value) (w : World) (R : Value → World → Prop) : Prop :=
 RD Tryz.prog (bin .leq 3 (.tmp 0) (.const undef) a0 (Value.int .i64 0)) w fun x5 =>
 BR x5
 (R (Value.string (ByteArray.mk #[109, 48])) w)
 (LOOPI [0, 3] [a0, (Value.string (ByteArray.mk #[]))] w fun u4 w next4 =>
 RD Tryz.prog (bin .gtr 3 (.tmp 0) (.const undef) (u4 0) (Value.int .i64 0)) w fun x7 =>
 BR x7
 (RD Tryz.prog (bin .rem 3 (.tmp 0) (.const undef) (u4 0) (Value.int .i64 10)) w fun x9 =>
 RD Tryz.prog (bin .add 3 (.const undef) (.tmp 0) (Value.int .i64 48) x9) w fun x10 =>
 RD Tryz.prog (convert 3 5 x10) w fun x11 =>
 OP Tryz.prog (Instr.buildSlice 210 1 #[(0, x11)]) w fun x12 w =>
 RD Tryz.prog (convert 210 9 x12) w fun x13 =>
 RD Tryz.prog (bin .add 9 (.tmp 0) (.tmp 0) x13 (u4 3)) w fun x15 =>
 RD Tryz.prog (bin .quo 3 (.tmp 0) (.const undef) (u4 0) (Value.int .i64 10)) w fun x17 =>
 next4 [x17, x15] w)
 (RD Tryz.prog (bin .add 9 (.const undef) (.tmp 0) (Value.string (ByteArray.mk #[109])) (u4 3)) w fun x19 =>
 R x19 w))
def cfg141 : Cfg := { ext := extL, joins := [], loops := [(4, 262089, [0, 3])], draws := [], pars := [] }
theorem F141_eq (a0 : Value) (w : World) (R : Value → World → Prop) : vcF Tryz.prog cfg141 Tryz.f141 [a0] w R = F141 a0 w R := by kernel_rfl
theorem F141_call {a0 : Value} {w : World} {R : Value → World → Prop} (h : F141 a0 w R) : CALL Tryz.prog 141 [a0] w R :=
  call_of (g := cfg141) ent mixed Tryz.func141 (Nat.le_of_ble_eq_true (by kernel_rfl)) (by kernel_rfl) (F141_eq a0 w R ▸ h)
def F80 (a0 a1 : Value) (w : World) (R : Value → World → Prop) : Prop :=
 LOOPI [1, 5] [a1, (Value.int .i64 0)] w fun u2 w next2 =>
 RD Tryz.prog (Builtin.len_ #[22] 3 [a0].toArray) w fun x8 =>
 RD Tryz.prog (bin .lss 3 (.tmp 0) (.tmp 0) (u2 5) x8) w fun x9 =>
 BR x9
 (CALL Tryz.prog 141 [(u2 1)] w fun x15 w =>
 RD Tryz.prog (Instr.indexAt 22 a0 (u2 5)) w fun x16 =>
 OPU Tryz.prog (Instr.storeAt 9 x16 x15) w fun w =>
 RD Tryz.prog (bin .add 3 (.tmp 0) (.const undef) (u2 1) (Value.int .i64 1)) w fun x18 =>
 RD Tryz.prog (bin .add 3 (.tmp 0) (.const undef) (u2 5) (Value.int .i64 1)) w fun x11 =>
 next2 [x18, x11] w)
 (R (u2 1) w)
def cfg80 : Cfg := { ext := extL, joins := [], loops := [(2, 524258, [1, 5])], draws := [], pars := [] }
theorem F80_eq (a0 a1 : Value) (w : World) (R : Value → World → Prop) : vcF Tryz.prog cfg80 Tryz.f80 [a0, a1] w R = F80 a0 a1 w R := by kernel_rfl
theorem F80_call {a0 a1 : Value} {w : World} {R : Value → World → Prop} (h : F80 a0 a1 w R) : CALL Tryz.prog 80 [a0, a1] w R :=
  call_of (g := cfg80) ent mixed Tryz.func80 (Nat.le_of_ble_eq_true (by kernel_rfl)) (by kernel_rfl) (F80_eq a0 a1 w R ▸ h)
def F142 (a0 a1 : Value) (w : World) (R : Value → World → Prop) : Prop :=
 LOOPI [1, 5] [a1, (Value.int .i64 0)] w fun u2 w next2 =>
 RD Tryz.prog (Builtin.len_ #[132] 3 [a0].toArray) w fun x8 =>
 RD Tryz.prog (bin .lss 3 (.tmp 0) (.tmp 0) (u2 5) x8) w fun x9 =>
 BR x9
 (RD Tryz.prog (Instr.indexAt 132 a0 (u2 5)) w fun x15 =>
 RD Tryz.prog (Instr.fieldAt 134 x15 0) w fun x16 =>
 OPU Tryz.prog (Instr.storeAt 3 x16 (u2 1)) w fun w =>
 RD Tryz.prog (bin .add 3 (.tmp 0) (.const undef) (u2 1) (Value.int .i64 1)) w fun x18 =>
 RD Tryz.prog (Instr.indexAt 132 a0 (u2 5)) w fun x22 =>
 RD Tryz.prog (Instr.fieldAt 134 x22 1) w fun x23 =>
 OPU Tryz.prog (Instr.storeAt 3 x23 x18) w fun w =>
 RD Tryz.prog (bin .add 3 (.tmp 0) (.const undef) x18 (Value.int .i64 1)) w fun x25 =>
 CALL Tryz.prog 141 [x25] w fun x29 w =>
 RD Tryz.prog (Instr.indexAt 132 a0 (u2 5)) w fun x30 =>
 RD Tryz.prog (Instr.fieldAt 134 x30 2) w fun x31 =>
 OPU Tryz.prog (Instr.storeAt 9 x31 x29) w fun w =>
 RD Tryz.prog (bin .add 3 (.tmp 0) (.const undef) x25 (Value.int .i64 1)) w fun x33 =>
 RD Tryz.prog (Instr.indexAt 132 a0 (u2 5)) w fun x36 =>
 RD Tryz.prog (Instr.fieldAt 134 x36 3) w fun x37 =>
 RD Tryz.prog (Instr.loadAt 132 x37) w fun x38 =>
 CALL Tryz.prog 142 [x38, x33] w fun x40 w =>
 RD Tryz.prog (bin .add 3 (.tmp 0) (.const undef) (u2 5) (Value.int .i64 1)) w fun x11 =>
 next2 [x40, x11] w)
 (R (u2 1) w)
def cfg142 : Cfg := { ext := extL, joins := [], loops := [(2, 2199023255522, [1, 5])], draws := [], pars := [] }
theorem F142_eq (a0 a1 : Value) (w : World) (R : Value → World → Prop) : vcF Tryz.prog cfg142 Tryz.f142 [a0, a1] w R = F142 a0 a1 w R := by kernel_rfl
theorem F142_call {a0 a1 : Value} {w : World} {R : Value → World → Prop} (h : F142 a0 a1 w R) : CALL Tryz.prog 142 [a0, a1] w R :=
  call_of (g := cfg142) ent mixed Tryz.func142 (Nat.le_of_ble_eq_true (by kernel_rfl)) (by kernel_rfl) (F142_eq a0 a1 w R ▸ h)
def F81 (a0 a1 : Value) (w : World) (R : Value → World → Prop) : Prop :=
 LOOPI [1, 5] [a1, (Value.int .i64 0)] w fun u2 w next2 =>
 RD Tryz.prog (Builtin.len_ #[33] 3 [a0].toArray) w fun x8 =>
 RD Tryz.prog (bin .lss 3 (.tmp 0) (.tmp 0) (u2 5) x8) w fun x9 =>
 BR x9
 (RD Tryz.prog (Instr.indexAt 33 a0 (u2 5)) w fun x15 =>
 RD Tryz.prog (Instr.fieldAt 136 x15 0) w fun x16 =>
 OPU Tryz.prog (Instr.storeAt 3 x16 (u2 1)) w fun w =>
 RD Tryz.prog (bin .add 3 (.tmp 0) (.const undef) (u2 1) (Value.int .i64 1)) w fun x18 =>
 RD Tryz.prog (Instr.indexAt 33 a0 (u2 5)) w fun x22 =>
 RD Tryz.prog (Instr.fieldAt 136 x22 1) w fun x23 =>
 OPU Tryz.prog (Instr.storeAt 3 x23 x18) w fun w =>
 RD Tryz.prog (bin .add 3 (.tmp 0) (.const undef) x18 (Value.int .i64 1)) w fun x25 =>
 RD Tryz.prog (Instr.indexAt 33 a0 (u2 5)) w fun x29 =>
 RD Tryz.prog (Instr.fieldAt 136 x29 2) w fun x30 =>
 RD Tryz.prog (Instr.fieldAt 134 x30 0) w fun x31 =>
 OPU Tryz.prog (Instr.storeAt 3 x31 x25) w fun w =>
 RD Tryz.prog (bin .add 3 (.tmp 0) (.const undef) x25 (Value.int .i64 1)) w fun x33 =>
 RD Tryz.prog (Instr.indexAt 33 a0 (u2 5)) w fun x37 =>
 RD Tryz.prog (Instr.fieldAt 136 x37 2) w fun x38 =>
 RD Tryz.prog (Instr.fieldAt 134 x38 1) w fun x39 =>
 OPU Tryz.prog (Instr.storeAt 3 x39 x33) w fun w =>
 RD Tryz.prog (bin .add 3 (.tmp 0) (.const undef) x33 (Value.int .i64 1)) w fun x41 =>
 CALL Tryz.prog 141 [x41] w fun x45 w =>
 RD Tryz.prog (Instr.indexAt 33 a0 (u2 5)) w fun x46 =>
 RD Tryz.prog (Instr.fieldAt 136 x46 2) w fun x47 =>
 RD Tryz.prog (Instr.fieldAt 134 x47 2) w fun x48 =>
 OPU Tryz.prog (Instr.storeAt 9 x48 x45) w fun w =>
 RD Tryz.prog (bin .add 3 (.tmp 0) (.const undef) x41 (Value.int .i64 1)) w fun x50 =>
 RD Tryz.prog (Instr.indexAt 33 a0 (u2 5)) w fun x53 =>
 RD Tryz.prog (Instr.fieldAt 136 x53 2) w fun x54 =>
 RD Tryz.prog (Instr.fieldAt 134 x54 3) w fun x55 =>
 RD Tryz.prog (Instr.loadAt 132 x55) w fun x56 =>
 CALL Tryz.prog 142 [x56, x50] w fun x58 w =>
 RD Tryz.prog (Instr.indexAt 33 a0 (u2 5)) w fun x62 =>
 RD Tryz.prog (Instr.fieldAt 136 x62 3) w fun x63 =>
 OPU Tryz.prog (Instr.storeAt 3 x63 x58) w fun w =>
 RD Tryz.prog (bin .add 3 (.tmp 0) (.const undef) x58 (Value.int .i64 1)) w fun x65 =>
 RD Tryz.prog (bin .add 3 (.tmp 0) (.const undef) (u2 5) (Value.int .i64 1)) w fun x11 =>
 next2 [x65, x11] w)
 (R (u2 1) w)
def cfg81 : Cfg := { ext := extL, joins := [], loops := [(2, 73786976294838206434, [1, 5])], draws := [], pars := [] }
theorem F81_eq (a0 a1 : Value) (w : World) (R : Value → World → Prop) : vcF Tryz.prog cfg81 Tryz.f81 [a0, a1] w R = F81 a0 a1 w R := by kernel_rfl
theorem F81_call {a0 a1 : Value} {w : World} {R : Value → World → Prop} (h : F81 a0 a1 w R) : CALL Tryz.prog 81 [a0, a1] w R :=
  call_of (g := cfg81) ent mixed Tryz.func81 (Nat.le_of_ble_eq_true (by kernel_rfl)) (by kernel_rfl) (F81_eq a0 a1 w R ▸ h)
def F24 (a0 a1 : Value) (w : World) (R : Value → World → Prop) : Prop :=
 OP Tryz.prog (Instr.box 35 a0) w fun x2 w =>
 RD Tryz.prog (Instr.fieldAt 35 x2 0) w fun x5 =>
 RD Tryz.prog (Instr.loadAt 22 x5) w fun x6 =>
 CALL Tryz.prog 80 [x6, a1] w fun x8 w =>
 RD Tryz.prog (Instr.fieldAt 35 x2 1) w fun x9 =>
 RD Tryz.prog (Instr.loadAt 22 x9) w fun x10 =>
 CALL Tryz.prog 80 [x10, x8] w fun x12 w =>
 RD Tryz.prog (Instr.fieldAt 35 x2 2) w fun x13 =>
 RD Tryz.prog (Instr.loadAt 22 x13) w fun x14 =>
 CALL Tryz.prog 80 [x14, x12] w fun x16 w =>
 RD Tryz.prog (Instr.fieldAt 35 x2 3) w fun x17 =>
 RD Tryz.prog (Instr.loadAt 23 x17) w fun x18 =>
 CALL Tryz.prog 25 [x18, x16] w fun x20 w =>
 RD Tryz.prog (Instr.fieldAt 35 x2 4) w fun x21 =>
 RD Tryz.prog (Instr.loadAt 33 x21) w fun x22 =>
 CALL Tryz.prog 81 [x22, x20] w fun x24 w =>
 R x24 w
def cfg24 : Cfg := { ext := extL, joins := [], loops := [], draws := [], pars := [] }
theorem F24_eq (a0 a1 : Value) (w : World) (R : Value → World → Prop) : vcF Tryz.prog cfg24 Tryz.f24 [a0, a1] w R = F24 a0 a1 w R := by kernel_rfl
theorem F24_call {a0 a1 : Value} {w : World} {R : Value → World → Prop} (h : F24 a0 a1 w R) : CALL Tryz.prog 24 [a0, a1] w R :=
  call_of (g := cfg24) ent mixed Tryz.func24 (Nat.le_of_ble_eq_true (by kernel_rfl)) (by kernel_rfl) (F24_eq a0 a1 w R ▸ h)
def F37 (a0 a1 : Value) (w : World) (R : Value → World → Prop) : Prop :=
 LOOPI [1, 5] [a1, (Value.int .i64 0)] w fun u2 w next2 =>
 RD Tryz.prog (Builtin.len_ #[27] 3 [a0].toArray) w fun x8 =>
 RD Tryz.prog (bin .lss 3 (.tmp 0) (.tmp 0) (u2 5) x8) w fun x9 =>
 BR x9
 (RD Tryz.prog (Instr.indexAt 27 a0 (u2 5)) w fun x14 =>
 RD Tryz.prog (Instr.loadAt 23 x14) w fun x15 =>
 CALL Tryz.prog 25 [x15, (u2 1)] w fun x17 w =>
 RD Tryz.prog (bin .add 3 (.tmp 0) (.const undef) (u2 5) (Value.int .i64 1)) w fun x11 =>
 next2 [x17, x11] w)
 (R (u2 1) w)
def cfg37 : Cfg := { ext := extL, joins := [], loops := [(2, 262114, [1, 5])], draws := [], pars := [] }
theorem F37_eq (a0 a1 : Value) (w : World) (R : Value → World → Prop) : vcF Tryz.prog cfg37 Tryz.f37 [a0, a1] w R = F37 a0 a1 w R := by kernel_rfl
theorem F37_call {a0 a1 : Value} {w : World} {R : Value → World → Prop} (h : F37 a0 a1 w R) : CALL Tryz.prog 37 [a0, a1] w R :=
  call_of (g := cfg37) ent mixed Tryz.func37 (Nat.le_of_ble_eq_true (by kernel_rfl)) (by kernel_rfl) (F37_eq a0 a1 w R ▸ h)
def F38 (a0 a1 : Value) (w : World) (R : Value → World → Prop) : Prop :=
 LOOPI [1, 5] [a1, (Value.int .i64 0)] w fun u2 w next2 =>
 RD Tryz.prog (Builtin.len_ #[27] 3 [a0].toArray) w fun x8 =>
 RD Tryz.prog (bin .lss 3 (.tmp 0) (.tmp 0) (u2 5) x8) w fun x9 =>
 BR x9
 (RD Tryz.prog (Instr.indexAt 27 a0 (u2 5)) w fun x14 =>
 RD Tryz.prog (Instr.loadAt 23 x14) w fun x15 =>
 CALL Tryz.prog 26 [x15, (u2 1)] w fun x17 w =>
 RD Tryz.prog (bin .lss 3 (.tmp 0) (.const undef) x17 (Value.int .i64 0)) w fun x19 =>
 BR x19
 (R (Value.int .i64 (-1)) w)
 (RD Tryz.prog (bin .add 3 (.tmp 0) (.const undef) (u2 5) (Value.int .i64 1)) w fun x11 =>
 next2 [x17, x11] w))
 (R (u2 1) w)
def cfg38 : Cfg := { ext := extL, joins := [], loops := [(2, 1048562, [1, 5])], draws := [], pars := [] }
theorem F38_eq (a0 a1 : Value) (w : World) (R : Value → World → Prop) : vcF Tryz.prog cfg38 Tryz.f38 [a0, a1] w R = F38 a0 a1 w R := by kernel_rfl
theorem F38_call {a0 a1 : Value} {w : World} {R : Value → World → Prop} (h : F38 a0 a1 w R) : CALL Tryz.prog 38 [a0, a1] w R :=
  call_of (g := cfg38) ent mixed Tryz.func38 (Nat.le_of_ble_eq_true (by kernel_rfl)) (by kernel_rfl) (F38_eq a0 a1 w R ▸ h)
set_option linter.unusedVariables false
set_option linter.unusedSimpArgs false
theorem markText_ok {w : World} {k : Int} (hk : k ≤ 4611686018427387904) :
    CALL Tryz.prog 141 [.int .i64 k] w fun r w' => Ext w w' ∧ ∃ s, r = .string s ∧ s.size ≤ maxLen := by
  refine F141_call ?_
  unfold F141
  refine rd_leq ?_
  refine br (fun h => ?_) (fun h => ?_)
  · exact ⟨Ext.refl w, _, rfl, by rw [maxLen_eq]; decide⟩
  · have hk19 : k < 10 ^ (19 - 0) := by
      have : (10 : Int) ^ (19 - 0) = 10000000000000000000 := by decide
      omega
    refine loopC 19 (fun j us w' => ∃ (q : Int) (s : ByteArray), us = [.int .i64 q, .string s] ∧ Ext w w' ∧ 0 ≤ q ∧ q < 10 ^ (19 - j) ∧ s.size = j) 0 (by omega) ⟨k, _, rfl, Ext.refl w, by omega, hk19, rfl⟩ ?_
    rintro j m u w2 hkm ⟨q, s, hu, hx2, hq0, hq1, hs⟩
    simp only [List.map_cons, List.map_nil, List.cons.injEq, and_true] at hu
    obtain ⟨hu1, hu2⟩ := hu
    rw [hu1, hu2]
    have hj : 0 < q → j < 19 := fun h => by
      rcases Nat.lt_or_ge j 19 with h' | h'
      · exact h'
      · rw [show 19 - j = 0 by omega] at hq1; simp at hq1; omega
    have hb : q < 10000000000000000000 := by
      have h2 : (10 : Int) ^ (19 - j) ≤ 10 ^ 19 := by
        have h3 : (10 : Nat) ^ (19 - j) ≤ 10 ^ 19 := Nat.pow_le_pow_right (by omega) (by omega)
        have h4 := Int.ofNat_le.2 h3
        simpa using h4
      have h3 : (10 : Int) ^ 19 = 10000000000000000000 := by decide
      omega
    refine rd_gtr ?_
    refine br (fun h1 => ?_) (fun h1 => ?_)
    · have hj := hj h1
      refine rd_rem (by omega) ?_
      have hm : q.tmod 10 = q % 10 := Int.tmod_eq_emod_of_nonneg hq0
      rw [hm]
      refine rd_add (by unfold I64; omega) ?_
      obtain ⟨n, hn⟩ : ∃ n : Nat, 48 + q % 10 = (n : Int) := ⟨(48 + q % 10).toNat, by omega⟩
      rw [hn]
      refine rd_byte (by kernel_rfl) u5 (by omega) ?_
      refine op_build1I (α := UInt8) u210 ty5 z5 (by decide) (ownI_u8 (lo := w2.heap.size) (hi := w2.heap.size)) (by omega) fun v3 w3 hx3 o3 => ?_
      refine rd_bytesStr u210 u5 u9 o3.is (Ext.refl w3) ?_
      have hone : ByteArray.size ⟨[UInt8.ofNat n].toArray⟩ = 1 := rfl
      refine rd_addS (by omega) ?_
      have hd : q.tdiv 10 = q / 10 := Int.tdiv_eq_ediv_of_nonneg hq0
      refine rd_quo (by omega) (by rw [hd]; unfold I64; omega) ?_
      rw [hd]
      refine ⟨m - 1, by omega, j + 1, by omega, q / 10, _, rfl, hx2.trans hx3, by omega, ?_, by rw [ByteArray.size_append]; omega⟩
      rw [show 19 - j = (19 - (j + 1)) + 1 by omega, Int.pow_succ] at hq1
      omega
    · refine rd_addS (by have : (ByteArray.mk #[109]).size = 1 := rfl
                         omega) ?_
      have hj19 : j ≤ 19 := by omega
      exact ⟨hx2, _, rfl, by rw [maxLen_eq, ByteArray.size_append]; have : (ByteArray.mk #[109]).size = 1 := rfl
                             omega⟩
theorem markStringS_ok {w : World} {F : List Nat} {v : Value} {l : List ByteArray} {k : Int} (h : Mine F w v l) (hn : l.length ≤ 1048576) (hk0 : 0 ≤ k) (hk1 : k ≤ 1152921504606846976) :
    CALL Tryz.prog 80 [v, .int .i64 k] w fun r w' => r = .int .i64 (k + l.length) ∧ Chg F w w' ∧ ∃ F', ∃ l' : List ByteArray, Mine F' w' v l' ∧ (∀ b ∈ F', b ∈ F) ∧ l'.length = l.length := by
  refine F80_call ?_
  unfold F80
  refine loopC l.length (fun i us w' => us = [.int .i64 (k + i), .int .i64 (i : Int)] ∧ Chg F w w' ∧ ∃ F', ∃ cur : List ByteArray, Mine F' w' v cur ∧ (∀ b ∈ F', b ∈ F) ∧ cur.length = l.length) 0 (Nat.zero_le _) ⟨by simp, Chg.refl _ _, F, l, h, fun _ h => h, rfl⟩ ?_
  rintro i m u w2 hkm ⟨hu, hc2, F', cur, hm2, hF', hlen⟩
  simp only [List.map_cons, List.map_nil, List.cons.injEq, and_true] at hu
  obtain ⟨hu1, hu2⟩ := hu
  rw [hu1, hu2]
  refine rd_len u22 hm2.is ?_
  rw [hlen]
  refine rd_lss ?_
  refine br (fun hlt => ?_) (fun hge => ?_)
  · have hi : i < l.length := by omega
    refine (markText_ok (by omega)).mono ?_
    rintro _ w3 ⟨hx3, s, rfl, hs⟩
    refine rd_focus u22 ty9 (hm2.ext hx3) (by omega) fun b o G hL => ?_
    refine opu_lensF ty9 hL (mine_str hs) fun w4 F4 hc4 hm4 hF4 => ?_
    refine rd_add (by unfold I64; omega) ?_
    refine rd_inc (by omega) ?_
    exact ⟨m - 1, by omega, i + 1, by omega, by simp [Int.add_assoc], (hc2.trans (hx3.chg F)).sub hc4 hF', F4, _, hm4, fun b hb => hF' b (hF4 b hb), by simp [hlen]⟩
  · have : i = l.length := by omega
    subst this
    exact ⟨rfl, hc2, F', cur, hm2, hF', hlen⟩
def MarkTS (l : List DTerm) : Prop := ∀ {w : World} {F : List Nat} {v : Value} {k : Int}, Mine F w v l → wTs l ≤ 1048576 → 0 ≤ k → k + 3 * wTs l ≤ 1152921504606846976 →
  CALL Tryz.prog 142 [v, .int .i64 k] w fun r w' => ∃ n : Int, r = .int .i64 n ∧ k ≤ n ∧ n ≤ k + 3 * wTs l ∧ Chg F w w' ∧ ∃ F', ∃ l' : List DTerm, Mine F' w' v l' ∧ (∀ b ∈ F', b ∈ F) ∧ l'.length = l.length
theorem markTS_step {l : List DTerm} (ih : ∀ t ∈ l, MarkTS t.kids) : MarkTS l := by
  intro w F v k h hn hk0 hk1
  rw [wTs_eq] at hn hk1 ⊢
  refine F142_call ?_
  unfold F142
  refine loopC l.length (fun i us w' => ∃ q : Int, us = [.int .i64 q, .int .i64 (i : Int)] ∧ Chg F w w' ∧ k ≤ q ∧ q ≤ k + 3 * (i + sm wT (l.take i) : Nat) ∧ ∃ F', ∃ cur : List DTerm, Mine F' w' v cur ∧ (∀ b ∈ F', b ∈ F) ∧ RestL i cur l) 0 (Nat.zero_le _) ⟨k, rfl, Chg.refl _ _, by omega, by simp [sm], F, l, h, fun _ h => h, rfl, fun _ _ => rfl⟩ ?_
  rintro i m u w2 hkm ⟨q, hu, hc2, hq0, hq1, F', cur, hm2, hF', hr⟩
  simp only [List.map_cons, List.map_nil, List.cons.injEq, and_true] at hu
  obtain ⟨hu1, hu2⟩ := hu
  rw [hu1, hu2]
  have hlen := hr.1
  refine rd_len u132 hm2.is ?_
  rw [hlen]
  refine rd_lss ?_
  refine br (fun hlt => ?_) (fun hge => ?_)
  · have hi : i < l.length := by omega
    have hsum := sm_take wT hi
    have hle : sm wT (l.take (i + 1)) ≤ sm wT l := by
      conv => rhs; rw [← List.take_append_drop (i + 1) l]
      unfold sm
      rw [List.map_append, List.sum_append]
      omega
    have hwi := wT_eq l[i]
    have hK := hr.keepF (f := DTerm.kids) hi
    refine st_fld (α := DTerm) (β := Int) (sel := DTerm.kind) (g := fun a y => .mk y a.num a.name a.kids) u132 ty134 fd134_0 ty3 (fun h => lens_DTerm_0 h) hm2 (by omega) (mine_int (by unfold I64; omega)) fun w3 F3 hc3 hm3 hF3 => ?_
    replace hK := hK.set (x := .mk q cur[i].num cur[i].name cur[i].kids) fun _ => rfl
    generalize hcur3 : cur.set i (.mk q cur[i].num cur[i].name cur[i].kids) = cur3 at hm3 hK
    clear hcur3
    refine rd_add (by unfold I64; omega) ?_
    refine st_fld (α := DTerm) (β := Int) (sel := DTerm.num) (g := fun a y => .mk a.kind y a.name a.kids) u132 ty134 fd134_1 ty3 (fun h => lens_DTerm_1 h) hm3 hK.2.1 (mine_int (by unfold I64; omega)) fun w4 F4 hc4 hm4 hF4 => ?_
    replace hK := hK.set (x := .mk (cur3[i]'hK.2.1).kind (q + 1) (cur3[i]'hK.2.1).name (cur3[i]'hK.2.1).kids) fun _ => rfl
    generalize hcur4 : cur3.set i _ = cur4 at hm4 hK
    clear hcur4
    refine rd_add (by unfold I64; omega) ?_
    refine (markText_ok (by omega)).mono ?_
    rintro _ w5 ⟨hx5, s, rfl, hs⟩
    refine st_fld (α := DTerm) (β := ByteArray) (sel := DTerm.name) (g := fun a y => .mk a.kind a.num y a.kids) u132 ty134 fd134_2 ty9 (fun h => lens_DTerm_2 h) (hm4.ext hx5) hK.2.1 (mine_str hs) fun w6 F6 hc6 hm6 hF6 => ?_
    replace hK := hK.set (x := .mk (cur4[i]'hK.2.1).kind (cur4[i]'hK.2.1).num s (cur4[i]'hK.2.1).kids) fun _ => rfl
    generalize hcur6 : cur4.set i _ = cur6 at hm6 hK
    clear hcur6
    refine rd_add (by unfold I64; omega) ?_
    refine rd_focus u132 ty134 hm6 hK.2.1 fun b o G hL => ?_
    refine rd_fld fd134_3 ?_
    obtain ⟨G1, hL1⟩ := lens_DTerm_3 hL
    refine rd_lens_row ty132 hL1 fun u7 hM7 hG7 hb7 => ?_
    obtain ⟨hR, hi6, _, hkids⟩ := hK
    rw [hkids] at hM7
    have hF26 : ∀ c ∈ F6, c ∈ F' := fun c hc => hF3 c (hF4 c (hF6 c hc))
    refine (ih l[i] (List.getElem_mem hi) hM7 (by omega) (by omega) (by omega)).mono ?_
    rintro _ w8 ⟨n, rfl, hn0, hn1, hc8, F8, l8, hm8, hF8, hl8⟩
    obtain ⟨F9, hm9, hF9⟩ := hb7 w8 F8 l8 hc8 hm8 fun c hc => .inl (hF8 c hc)
    refine rd_inc (by omega) ?_
    have hc26 : Chg F' w2 w6 := ((hc3.sub hc4 hF3).trans (hx5.chg F')).sub hc6 fun c hc => hF3 c (hF4 c hc)
    have hc28 : Chg F' w2 w8 := hc26.sub hc8 fun c hc => hF26 c (hG7 c hc)
    refine ⟨m - 1, by omega, i + 1, by omega, n, rfl, hc2.sub hc28 hF', by omega, by omega, F9, _, hm9, fun c hc => ?_, hR.set1 _⟩
    rcases hF9 c hc with h | h
    · exact hF' c (hF26 c h)
    · exact hF' c (hF26 c (hG7 c (hF8 c h)))
  · have : i = l.length := by omega
    subst this
    rw [List.take_length] at hq1
    exact ⟨q, rfl, hq0, by omega, hc2, F', cur, hm2, hF', hlen⟩
theorem markTS_ok (t : DTerm) : MarkTS t.kids := DTerm.ind (p := fun t => MarkTS t.kids) (fun t ih => markTS_step ih) t
theorem markTermS_ok (l : List DTerm) : MarkTS l := markTS_ok (.mk 0 0 ByteArray.empty l)
theorem markInsS_ok {w : World} {F : List Nat} {v : Value} {l : List DIns} {k : Int} (h : Mine F w v l) (hn : wIns l ≤ 1048576) (hk0 : 0 ≤ k) (hk1 : k ≤ 1000000000000000000) :
    CALL Tryz.prog 81 [v, .int .i64 k] w fun r w' => ∃ n : Int, r = .int .i64 n ∧ k ≤ n ∧ n ≤ k + 6 * wIns l ∧ Chg F w w' ∧ ∃ F', ∃ l' : List DIns, Mine F' w' v l' ∧ (∀ b ∈ F', b ∈ F) ∧ l'.length = l.length := by
  unfold wIns at hn ⊢
  refine F81_call ?_
  unfold F81
  refine loopC l.length (fun i us w' => ∃ q : Int, us = [.int .i64 q, .int .i64 (i : Int)] ∧ Chg F w w' ∧ k ≤ q ∧ q ≤ k + 6 * (i + sm (fun i => wT i.term) (l.take i) : Nat) ∧ ∃ F', ∃ cur : List DIns, Mine F' w' v cur ∧ (∀ b ∈ F', b ∈ F) ∧ RestL i cur l) 0 (Nat.zero_le _) ⟨k, rfl, Chg.refl _ _, by omega, by simp [sm], F, l, h, fun _ h => h, rfl, fun _ _ => rfl⟩ ?_
  rintro i m u w2 hkm ⟨q, hu, hc2, hq0, hq1, F', cur, hm2, hF', hr⟩
  simp only [List.map_cons, List.map_nil, List.cons.injEq, and_true] at hu
  obtain ⟨hu1, hu2⟩ := hu
  rw [hu1, hu2]
  have hlen := hr.1
  refine rd_len u33 hm2.is ?_
  rw [hlen]
  refine rd_lss ?_
  refine br (fun hlt => ?_) (fun hge => ?_)
  · have hi : i < l.length := by omega
    have hsum := sm_take (fun i : DIns => wT i.term) hi
    have hle : sm (fun i : DIns => wT i.term) (l.take (i + 1)) ≤ sm (fun i : DIns => wT i.term) l := by
      conv => rhs; rw [← List.take_append_drop (i + 1) l]
      unfold sm
      rw [List.map_append, List.sum_append]
      omega
    have hwi := wT_eq l[i].term
    have hK := hr.keepF (f := fun a : DIns => a.term.kids) hi
    refine st_fld (α := DIns) (β := Int) (sel := DIns.op) (g := fun a y => ⟨y, a.arg, a.term, a.to⟩) u33 ty136 fd136_0 ty3 (fun h => lens_DIns_0 h) hm2 hK.2.1 (mine_int (by unfold I64; omega)) fun w3 F3 hc3 hm3 hF3 => ?_
    replace hK := hK.set (x := ⟨q, (cur[i]'hK.2.1).arg, (cur[i]'hK.2.1).term, (cur[i]'hK.2.1).to⟩) fun _ => rfl
    generalize hcur3 : cur.set i _ = cur3 at hm3 hK
    clear hcur3
    refine rd_add (by unfold I64; omega) ?_
    refine st_fld (α := DIns) (β := Int) (sel := DIns.arg) (g := fun a y => ⟨a.op, y, a.term, a.to⟩) u33 ty136 fd136_1 ty3 (fun h => lens_DIns_1 h) hm3 hK.2.1 (mine_int (by unfold I64; omega)) fun w4 F4 hc4 hm4 hF4 => ?_
    replace hK := hK.set (x := ⟨(cur3[i]'hK.2.1).op, q + 1, (cur3[i]'hK.2.1).term, (cur3[i]'hK.2.1).to⟩) fun _ => rfl
    generalize hcur4 : cur3.set i _ = cur4 at hm4 hK
    clear hcur4
    refine rd_add (by unfold I64; omega) ?_
    refine st_fld2 (α := DIns) (β := Int) (sel := fun a => a.term.kind) (g := fun a y => ⟨a.op, a.arg, .mk y a.term.num a.term.name a.term.kids, a.to⟩) u33 ty136 fd136_2 fd134_0 ty3 (fun h => by obtain ⟨G1, h1⟩ := lens_DIns_2 h; exact lens_DTerm_0 h1) hm4 hK.2.1 (mine_int (by unfold I64; omega)) fun w5 F5 hc5 hm5 hF5 => ?_
    replace hK := hK.set (x := ⟨(cur4[i]'hK.2.1).op, (cur4[i]'hK.2.1).arg, .mk (q + 1 + 1) (cur4[i]'hK.2.1).term.num (cur4[i]'hK.2.1).term.name (cur4[i]'hK.2.1).term.kids, (cur4[i]'hK.2.1).to⟩) fun _ => rfl
    generalize hcur5 : cur4.set i _ = cur5 at hm5 hK
    clear hcur5
    refine rd_add (by unfold I64; omega) ?_
    refine st_fld2 (α := DIns) (β := Int) (sel := fun a => a.term.num) (g := fun a y => ⟨a.op, a.arg, .mk a.term.kind y a.term.name a.term.kids, a.to⟩) u33 ty136 fd136_2 fd134_1 ty3 (fun h => by obtain ⟨G1, h1⟩ := lens_DIns_2 h; exact lens_DTerm_1 h1) hm5 hK.2.1 (mine_int (by unfold I64; omega)) fun w6 F6 hc6 hm6 hF6 => ?_
    replace hK := hK.set (x := ⟨(cur5[i]'hK.2.1).op, (cur5[i]'hK.2.1).arg, .mk (cur5[i]'hK.2.1).term.kind (q + 1 + 1 + 1) (cur5[i]'hK.2.1).term.name (cur5[i]'hK.2.1).term.kids, (cur5[i]'hK.2.1).to⟩) fun _ => rfl
    generalize hcur6 : cur5.set i _ = cur6 at hm6 hK
    clear hcur6
    refine rd_add (by unfold I64; omega) ?_
    refine (markText_ok (by omega)).mono ?_
    rintro _ w7 ⟨hx7, s, rfl, hs⟩
    refine st_fld2 (α := DIns) (β := ByteArray) (sel := fun a => a.term.name) (g := fun a y => ⟨a.op, a.arg, .mk a.term.kind a.term.num y a.term.kids, a.to⟩) u33 ty136 fd136_2 fd134_2 ty9 (fun h => by obtain ⟨G1, h1⟩ := lens_DIns_2 h; exact lens_DTerm_2 h1) (hm6.ext hx7) hK.2.1 (mine_str hs) fun w8 F8 hc8 hm8 hF8 => ?_
    replace hK := hK.set (x := ⟨(cur6[i]'hK.2.1).op, (cur6[i]'hK.2.1).arg, .mk (cur6[i]'hK.2.1).term.kind (cur6[i]'hK.2.1).term.num s (cur6[i]'hK.2.1).term.kids, (cur6[i]'hK.2.1).to⟩) fun _ => rfl
    generalize hcur8 : cur6.set i _ = cur8 at hm8 hK
    clear hcur8
    refine rd_add (by unfold I64; omega) ?_
    refine rd_focus u33 ty136 hm8 hK.2.1 fun b o G hL => ?_
    refine rd_fld fd136_2 ?_
    refine rd_fld fd134_3 ?_
    obtain ⟨G0, hL0⟩ := lens_DIns_2 hL
    obtain ⟨G1, hL1⟩ := lens_DTerm_3 hL0
    refine rd_lens_row ty132 hL1 fun u9 hM9 hG9 hb9 => ?_
    obtain ⟨hR, hi8, _, hkids⟩ := hK
    have hkids' : (cur8[i]'hi8).term.kids = l[i].term.kids := hkids
    rw [hkids'] at hM9
    have hF28 : ∀ c ∈ F8, c ∈ F' := fun c hc => hF3 c (hF4 c (hF5 c (hF6 c (hF8 c hc))))
    refine (markTermS_ok _ hM9 (by omega) (by omega) (by omega)).mono ?_
    rintro _ w10 ⟨n, rfl, hn0, hn1, hc10, F10, l10, hm10, hF10, hl10⟩
    obtain ⟨F11, hm11, hF11⟩ := hb9 w10 F10 l10 hc10 hm10 fun c hc => .inl (hF10 c hc)
    have hF211 : ∀ c ∈ F11, c ∈ F' := fun c hc => by
      rcases hF11 c hc with h | h
      · exact hF28 c h
      · exact hF28 c (hG9 c (hF10 c h))
    replace hR := hR.set1 (⟨(cur8[i]'hi8).op, (cur8[i]'hi8).arg, .mk (cur8[i]'hi8).term.kind (cur8[i]'hi8).term.num (cur8[i]'hi8).term.name l10, (cur8[i]'hi8).to⟩ : DIns)
    have hi11 : i < (cur8.set i (⟨(cur8[i]'hi8).op, (cur8[i]'hi8).arg, .mk (cur8[i]'hi8).term.kind (cur8[i]'hi8).term.num (cur8[i]'hi8).term.name l10, (cur8[i]'hi8).to⟩ : DIns)).length := by simpa using hi8
    generalize hcur11 : cur8.set i _ = cur11 at hm11 hR hi11
    clear hcur11
    have hc28 : Chg F' w2 w8 := (((((hc3.sub hc4 hF3).sub hc5 fun c hc => hF3 c (hF4 c hc)).sub hc6 fun c hc => hF3 c (hF4 c (hF5 c hc)))).trans (hx7.chg F')).sub hc8 fun c hc => hF3 c (hF4 c (hF5 c (hF6 c hc)))
    have hc210 : Chg F' w2 w10 := hc28.sub hc10 fun c hc => hF28 c (hG9 c hc)
    refine st_fld (α := DIns) (β := Int) (sel := DIns.to) (g := fun a y => ⟨a.op, a.arg, a.term, y⟩) u33 ty136 fd136_3 ty3 (fun h => lens_DIns_3 h) hm11 hi11 (mine_int (by unfold I64; omega)) fun w12 F12 hc12 hm12 hF12 => ?_
    refine rd_add (by unfold I64; omega) ?_
    refine rd_inc (by omega) ?_
    exact ⟨m - 1, by omega, i + 1, by omega, n + 1, rfl, hc2.sub (hc210.sub hc12 hF211) hF', by omega, by omega, F12, _, hm12, fun c hc => hF' c (hF211 c (hF12 c hc)), hR.set1 _⟩
  · have : i = l.length := by omega
    subst this
    rw [List.take_length] at hq1
    exact ⟨q, rfl, hq0, by omega, hc2, F', cur, hm2, hF', hlen⟩
theorem mine_code {w : World} {F : List Nat} {v : Value} {c : DCode} (h : Mine F w v c) : ∃ (a0 a1 a2 a3 a4 : Value) (F0 F1 F2 F3 F4 : List Nat), v = .agg #[a0, a1, a2, a3, a4] ∧ F = F0 ++ (F1 ++ (F2 ++ (F3 ++ F4))) ∧ F.Nodup ∧
    Mine F0 w a0 c.globals ∧ Mine F1 w a1 c.locks ∧ Mine F2 w a2 c.procs ∧ Mine F3 w a3 c.entry ∧ Mine F4 w a4 c.ins := by
  obtain ⟨⟨cs, hr, rfl⟩, hn, hw⟩ := h
  obtain ⟨F0, c0, F1, c1, F2, c2, F3, c3, F4, c4, rfl, rfl, h0, h1, h2, h3, h4⟩ := inv_DCode hr
  have n0 := nodup_app hn
  have n1 := nodup_app n0.2.1
  have n2 := nodup_app n1.2.1
  have n3 := nodup_app n2.2.1
  obtain ⟨a0, rfl, m0⟩ := mine_of_rep h0 n0.1 (hw.sub (by simp +contextual))
  obtain ⟨a1, rfl, m1⟩ := mine_of_rep h1 n1.1 (hw.sub (by simp +contextual))
  obtain ⟨a2, rfl, m2⟩ := mine_of_rep h2 n2.1 (hw.sub (by simp +contextual))
  obtain ⟨a3, rfl, m3⟩ := mine_of_rep h3 n3.1 (hw.sub (by simp +contextual))
  obtain ⟨a4, rfl, m4⟩ := mine_of_rep h4 n3.2.1 (hw.sub (by simp +contextual))
  exact ⟨a0, a1, a2, a3, a4, F0, F1, F2, F3, F4, rfl, rfl, hn, m0, m1, m2, m3, m4⟩
theorem markCode_ok {w : World} {lo hi : Nat} {v : Value} {c : DCode} {k : Int} (h : OwnI lo hi w v c) (hn : wCode c ≤ 1048576) (hk0 : 0 ≤ k) (hk1 : k ≤ 100000000000000000) :
    CALL Tryz.prog 24 [v, .int .i64 k] w fun r w' => ∃ n : Int, r = .int .i64 n ∧ (k ≤ n ∧ n ≤ k + 8388608) ∧ ChgI lo hi w w' := by
  obtain ⟨F, hM, hF⟩ := h
  obtain ⟨a0, a1, a2, a3, a4, F0, F1, F2, F3, F4, rfl, rfl, hnd, m0, m1, m2, m3, m4⟩ := mine_code hM
  unfold wCode wStr at hn
  have d0 := nodup_app hnd
  have d1 := nodup_app d0.2.1
  have d2 := nodup_app d1.2.1
  have d3 := nodup_app d2.2.1
  refine F24_call ?_
  unfold F24
  refine op_boxB fun w1 hx1 hB1 => ?_
  have hg : ∀ b ∈ F0 ++ (F1 ++ (F2 ++ (F3 ++ F4))), b ≠ w.heap.size := fun b hb e => by have := hM.lt b hb; omega
  refine rd_fld fd35_0 ?_
  refine rd_blkV ty22 hB1 rfl ?_
  refine (markStringS_ok (m0.ext hx1) (by omega) (by omega) (by omega)).mono ?_
  rintro _ w2 ⟨rfl, hc2, _⟩
  have hB2 := hB1.chg hc2 fun hm => hg _ (by simp [hm]) rfl
  have m12 := (m1.ext hx1).chgD hc2 fun b hb h0 => d0.2.2 b h0 (by simp [hb])
  have m22 := (m2.ext hx1).chgD hc2 fun b hb h0 => d0.2.2 b h0 (by simp [hb])
  have m32 := (m3.ext hx1).chgD hc2 fun b hb h0 => d0.2.2 b h0 (by simp [hb])
  have m42 := (m4.ext hx1).chgD hc2 fun b hb h0 => d0.2.2 b h0 (by simp [hb])
  refine rd_fld fd35_1 ?_
  refine rd_blkV ty22 hB2 rfl ?_
  refine (markStringS_ok m12 (by omega) (by omega) (by omega)).mono ?_
  rintro _ w3 ⟨rfl, hc3, _⟩
  have hB3 := hB2.chg hc3 fun hm => hg _ (by simp [hm]) rfl
  have m23 := m22.chgD hc3 fun b hb h0 => d1.2.2 b h0 (by simp [hb])
  have m33 := m32.chgD hc3 fun b hb h0 => d1.2.2 b h0 (by simp [hb])
  have m43 := m42.chgD hc3 fun b hb h0 => d1.2.2 b h0 (by simp [hb])
  refine rd_fld fd35_2 ?_
  refine rd_blkV ty22 hB3 rfl ?_
  refine (markStringS_ok m23 (by omega) (by omega) (by omega)).mono ?_
  rintro _ w4 ⟨rfl, hc4, _⟩
  have hB4 := hB3.chg hc4 fun hm => hg _ (by simp [hm]) rfl
  have m34 := m33.chgD hc4 fun b hb h0 => d2.2.2 b h0 (by simp [hb])
  have m44 := m43.chgD hc4 fun b hb h0 => d2.2.2 b h0 (by simp [hb])
  refine rd_fld fd35_3 ?_
  refine rd_blkV ty23 hB4 rfl ?_
  refine (markIntS_ok m34 (by omega) (by omega) (by omega)).mono ?_
  rintro _ w5 ⟨rfl, hc5, _⟩
  have hB5 := hB4.chg hc5 fun hm => hg _ (by simp [hm]) rfl
  have m45 := m44.chgD hc5 fun b hb h0 => d3.2.2 b h0 hb
  refine rd_fld fd35_4 ?_
  refine rd_blkV ty33 hB5 rfl ?_
  refine (markInsS_ok m45 (by omega) (by omega) (by omega)).mono ?_
  rintro _ w6 ⟨n, rfl, hn0, hn1, hc6, _⟩
  refine ⟨n, rfl, by omega, ?_⟩
  have hc : Chg (F0 ++ (F1 ++ (F2 ++ (F3 ++ F4)))) w w6 := (((((hx1.chg _).sub hc2 (by simp +contextual)).sub hc3 (by simp +contextual)).sub hc4 (by simp +contextual)).sub hc5 (by simp +contextual)).sub hc6 (by simp +contextual)
  exact hc.toI hF
def mkLL (k : Int) : List (List Int) → List (List Int)
  | [] => []
  | x :: r => cnt k x.length :: mkLL (k + x.length) r
theorem mkLL_len (k : Int) (l : List (List Int)) : (mkLL k l).length = l.length := by
  induction l generalizing k with
  | nil => rfl
  | cons x r ih => simp [mkLL, ih]
theorem mkLL_append (k : Int) (l m : List (List Int)) : mkLL k (l ++ m) = mkLL k l ++ mkLL (k + nLL l) m := by
  induction l generalizing k with
  | nil => simp [mkLL, nLL, sm]
  | cons x r ih => simp [mkLL, ih, nLL, sm, Int.add_assoc]
theorem mkLL_get (k : Int) (l : List (List Int)) {i : Nat} (hi : i < l.length) : (mkLL k l)[i]'(by rw [mkLL_len]; exact hi) = cnt (k + nLL (l.take i)) l[i].length := by
  have e : l = l.take i ++ (l[i] :: l.drop (i + 1)) := by simp
  have h1 : (mkLL k l)[i]? = some (cnt (k + nLL (l.take i)) l[i].length) := by
    conv => lhs; rw [e, mkLL_append]
    rw [List.getElem?_append_right (by rw [mkLL_len, List.length_take]; omega)]
    simp [mkLL, mkLL_len, Nat.min_eq_left (Nat.le_of_lt hi)]
  rw [List.getElem?_eq_getElem (by rw [mkLL_len]; exact hi)] at h1
  exact Option.some.inj h1
theorem markIntSS_ok {w : World} {F : List Nat} {v : Value} {l : List (List Int)} {k : Int} (h : Mine F w v l) (hn : l.length + nLL l ≤ 1073741824) (hk0 : 0 ≤ k) (hk1 : k ≤ 1000000000000000000) :
    CALL Tryz.prog 37 [v, .int .i64 k] w fun r w' => r = .int .i64 (k + nLL l) ∧ Chg F w w' ∧ OwnS F w' v (mkLL k l) := by
  refine F37_call ?_
  unfold F37
  refine loopC l.length (fun i us w' => us = [.int .i64 (k + nLL (l.take i)), .int .i64 (i : Int)] ∧ Chg F w w' ∧ OwnS F w' v (mkLL k (l.take i) ++ l.drop i)) 0 (Nat.zero_le _) ⟨by simp [nLL, sm], Chg.refl _ _, by simpa [mkLL] using h.toS⟩ ?_
  rintro i m u w2 hkm ⟨hu, hc2, F', hm2, hF'⟩
  simp only [List.map_cons, List.map_nil, List.cons.injEq, and_true] at hu
  obtain ⟨hu1, hu2⟩ := hu
  rw [hu1, hu2]
  have hlen : (mkLL k (l.take i) ++ l.drop i).length = l.length := by simp [mkLL_len]; omega
  refine rd_len u27 hm2.is ?_
  rw [hlen]
  refine rd_lss ?_
  refine br (fun hlt => ?_) (fun hge => ?_)
  · have hi : i < l.length := by omega
    have h1 := nLL_take hi
    have h2 := nLL_le (l := l) (i + 1)
    refine rd_focus u27 ty23 hm2 (by omega) fun b o G hL => ?_
    refine rd_lens_row ty23 hL fun u3 hM3 hG3 hb3 => ?_
    have hget : (mkLL k (l.take i) ++ l.drop i)[i]'(by omega) = l[i] := by
      rw [List.getElem_append_right (by rw [mkLL_len, List.length_take]; omega)]
      simp [mkLL_len, Nat.min_eq_left (Nat.le_of_lt hi)]
    rw [hget] at hM3
    refine (markIntS_ok hM3 (by omega) (by omega) (by omega)).mono ?_
    rintro _ w3 ⟨rfl, hc3, hm3⟩
    obtain ⟨F4, hm4, hF4⟩ := hb3 w3 G _ hc3 hm3 fun c hc => .inl hc
    refine rd_inc (by omega) ?_
    refine ⟨m - 1, by omega, i + 1, by omega, by rw [h1]; simp [Int.add_assoc], hc2.sub hc3 fun c hc => hF' c (hG3 c hc), F4, ?_, fun c hc => ?_⟩
    · have : (mkLL k (l.take i) ++ l.drop i).set i (cnt (k + nLL (l.take i)) l[i].length) = mkLL k (l.take (i + 1)) ++ l.drop (i + 1) := by
        rw [List.drop_eq_getElem_cons hi, List.set_append_right _ _ (by rw [mkLL_len, List.length_take]; omega), List.take_succ_eq_append_getElem hi, mkLL_append, mkLL_len, List.length_take, Nat.min_eq_left (Nat.le_of_lt hi), Nat.sub_self, List.set_cons_zero]
        simp only [mkLL, List.append_assoc, List.cons_append, List.nil_append]
      rw [← this]; exact hm4
    · rcases hF4 c hc with h | h
      · exact hF' c h
      · exact hF' c (hG3 c h)
  · have : i = l.length := by omega
    subst this
    rw [List.take_length, List.drop_length, List.append_nil] at hm2
    exact ⟨by rw [List.take_length], hc2, F', hm2, hF'⟩
theorem heldIntSS_ok {w w0 : World} {v : Value} {l : List (List Int)} {k : Int} (h : Is w0 v (mkLL k l)) (hx : Ext w0 w) (hn : l.length + nLL l ≤ 1073741824) (hk0 : 0 ≤ k) (hk1 : k ≤ 1000000000000000000) :
    CALL Tryz.prog 38 [v, .int .i64 k] w fun r w' => r = .int .i64 (k + nLL l) ∧ Ext w w' := by
  refine F38_call ?_
  unfold F38
  refine loopC l.length (fun i us w' => us = [.int .i64 (k + nLL (l.take i)), .int .i64 (i : Int)] ∧ Ext w w') 0 (Nat.zero_le _) ⟨by simp [nLL, sm], Ext.refl w⟩ ?_
  rintro i m u w2 hkm ⟨hu, hx2⟩
  simp only [List.map_cons, List.map_nil, List.cons.injEq, and_true] at hu
  obtain ⟨hu1, hu2⟩ := hu
  rw [hu1, hu2]
  refine rd_len u27 h ?_
  rw [mkLL_len]
  refine rd_lss ?_
  refine br (fun hlt => ?_) (fun hge => ?_)
  · have hi : i < l.length := by omega
    have h1 := nLL_take hi
    have h2 := nLL_le (l := l) (i + 1)
    refine rd_indexN u27 ty23 h (by rw [mkLL_len]; exact hi) fun b o hA => ?_
    rw [mkLL_get k l hi] at hA
    refine rd_load ty23 hA (hx.trans hx2) fun v3 h3 => ?_
    refine (heldIntS_ok h3 (hx.trans hx2) (by omega) (by omega) (by omega)).mono ?_
    rintro _ w3 ⟨rfl, hx3⟩
    refine rd_lss ?_
    refine br (fun h => by omega) (fun _ => ?_)
    refine rd_inc (by omega) ?_
    exact ⟨m - 1, by omega, i + 1, by omega, by rw [h1]; simp [Int.add_assoc], hx2.trans hx3⟩
  · have : i = l.length := by omega
    subst this
    exact ⟨by rw [List.take_length], hx2⟩
end Go.Proofs.YtjgfldfbljmhhaaGreat
namespace Go.Proofs.YtjgfldfbljmhhaaGreat
open Go Go.Sh Go.Proofs
set_option linter.unusedVariables false
def F42 (a0 a1 : Value) (w : World) (R : Value → World → Prop) : Prop :=
 LOOPI [1, 5] [a1, (Value.int .i64 0)] w fun u2 w next2 =>
 RD Tryz.prog (Builtin.len_ #[58] 3 [a0].toArray) w fun x8 =>
 RD Tryz.prog (bin .lss 3 (.tmp 0) (.tmp 0) (u2 5) x8) w fun x9 =>
 BR x9
 (RD Tryz.prog (Instr.indexAt 58 a0 (u2 5)) w fun x15 =>
 RD Tryz.prog (Instr.fieldAt 109 x15 0) w fun x16 =>
 OPU Tryz.prog (Instr.storeAt 3 x16 (u2 1)) w fun w =>
 RD Tryz.prog (bin .add 3 (.tmp 0) (.const undef) (u2 1) (Value.int .i64 1)) w fun x18 =>
 RD Tryz.prog (Instr.indexAt 58 a0 (u2 5)) w fun x22 =>
 RD Tryz.prog (Instr.fieldAt 109 x22 1) w fun x23 =>
 OPU Tryz.prog (Instr.storeAt 3 x23 x18) w fun w =>
 RD Tryz.prog (bin .add 3 (.tmp 0) (.const undef) x18 (Value.int .i64 1)) w fun x25 =>
 RD Tryz.prog (Instr.indexAt 58 a0 (u2 5)) w fun x29 =>
 RD Tryz.prog (Instr.fieldAt 109 x29 2) w fun x30 =>
 OPU Tryz.prog (Instr.storeAt 3 x30 x25) w fun w =>
 RD Tryz.prog (bin .add 3 (.tmp 0) (.const undef) x25 (Value.int .i64 1)) w fun x32 =>
 RD Tryz.prog (bin .add 3 (.tmp 0) (.const undef) (u2 5) (Value.int .i64 1)) w fun x11 =>
 next2 [x32, x11] w)
 (R (u2 1) w)
def cfg42 : Cfg := { ext := extL, joins := [], loops := [(2, 8589934562, [1, 5])], draws := [], pars := [] }
theorem F42_eq (a0 a1 : Value) (w : World) (R : Value → World → Prop) : vcF Tryz.prog cfg42 Tryz.f42 [a0, a1] w R = F42 a0 a1 w R := by kernel_rfl
theorem F42_call {a0 a1 : Value} {w : World} {R : Value → World → Prop} (h : F42 a0 a1 w R) : CALL Tryz.prog 42 [a0, a1] w R :=
  call_of (g := cfg42) ent mixed Tryz.func42 (Nat.le_of_ble_eq_true (by kernel_rfl)) (by kernel_rfl) (F42_eq a0 a1 w R ▸ h)
def F43 (a0 a1 : Value) (w : World) (R : Value → World → Prop) : Prop :=
 LOOPI [1, 5] [a1, (Value.int .i64 0)] w fun u2 w next2 =>
 RD Tryz.prog (Builtin.len_ #[58] 3 [a0].toArray) w fun x8 =>
 RD Tryz.prog (bin .lss 3 (.tmp 0) (.tmp 0) (u2 5) x8) w fun x9 =>
 BR x9
 (RD Tryz.prog (Instr.indexAt 58 a0 (u2 5)) w fun x14 =>
 RD Tryz.prog (Instr.fieldAt 109 x14 0) w fun x15 =>
 RD Tryz.prog (Instr.loadAt 3 x15) w fun x16 =>
 RD Tryz.prog (bin .neq 3 (.tmp 0) (.tmp 0) x16 (u2 1)) w fun x18 =>
 BR x18
 (R (Value.int .i64 (-1)) w)
 (RD Tryz.prog (bin .add 3 (.tmp 0) (.const undef) (u2 1) (Value.int .i64 1)) w fun x20 =>
 RD Tryz.prog (Instr.indexAt 58 a0 (u2 5)) w fun x23 =>
 RD Tryz.prog (Instr.fieldAt 109 x23 1) w fun x24 =>
 RD Tryz.prog (Instr.loadAt 3 x24) w fun x25 =>
 RD Tryz.prog (bin .neq 3 (.tmp 0) (.tmp 0) x25 x20) w fun x27 =>
 BR x27
 (R (Value.int .i64 (-1)) w)
 (RD Tryz.prog (bin .add 3 (.tmp 0) (.const undef) x20 (Value.int .i64 1)) w fun x29 =>
 RD Tryz.prog (Instr.indexAt 58 a0 (u2 5)) w fun x32 =>
 RD Tryz.prog (Instr.fieldAt 109 x32 2) w fun x33 =>
 RD Tryz.prog (Instr.loadAt 3 x33) w fun x34 =>
 RD Tryz.prog (bin .neq 3 (.tmp 0) (.tmp 0) x34 x29) w fun x36 =>
 BR x36
 (R (Value.int .i64 (-1)) w)
 (RD Tryz.prog (bin .add 3 (.tmp 0) (.const undef) x29 (Value.int .i64 1)) w fun x38 =>
 RD Tryz.prog (bin .add 3 (.tmp 0) (.const undef) (u2 5) (Value.int .i64 1)) w fun x11 =>
 next2 [x38, x11] w))))
 (R (u2 1) w)
def cfg43 : Cfg := { ext := extL, joins := [], loops := [(2, 549755813874, [1, 5])], draws := [], pars := [] }
theorem F43_eq (a0 a1 : Value) (w : World) (R : Value → World → Prop) : vcF Tryz.prog cfg43 Tryz.f43 [a0, a1] w R = F43 a0 a1 w R := by kernel_rfl
theorem F43_call {a0 a1 : Value} {w : World} {R : Value → World → Prop} (h : F43 a0 a1 w R) : CALL Tryz.prog 43 [a0, a1] w R :=
  call_of (g := cfg43) ent mixed Tryz.func43 (Nat.le_of_ble_eq_true (by kernel_rfl)) (by kernel_rfl) (F43_eq a0 a1 w R ▸ h)
set_option linter.unusedVariables false
set_option linter.unusedSimpArgs false
def mk1Race (k : Int) : DRace := ⟨k, k + 1, k + 1 + 1⟩
def mkLRace (k : Int) (n : Nat) : List DRace := (List.range n).map fun i : Nat => mk1Race (k + 3 * (i : Int))
theorem mkLRace_len (k : Int) (n : Nat) : (mkLRace k n).length = n := by simp [mkLRace]
theorem mkLRace_succ (k : Int) (n : Nat) : mkLRace k (n + 1) = mkLRace k n ++ [mk1Race (k + 3 * (n : Int))] := by simp [mkLRace, List.range_succ]
theorem mkLRace_get (k : Int) (n : Nat) {i : Nat} (hi : i < n) : (mkLRace k n)[i]'(by rw [mkLRace_len]; exact hi) = mk1Race (k + 3 * (i : Int)) := by simp [mkLRace]
theorem markRaceS_ok {w : World} {F : List Nat} {v : Value} {l : List DRace} {k : Int} (h : Mine F w v l) (hn : l.length ≤ 1073741824) (hk0 : 0 ≤ k) (hk1 : k ≤ 1000000000000000000) :
    CALL Tryz.prog 42 [v, .int .i64 k] w fun r w' => r = .int .i64 (k + 3 * (l.length : Int)) ∧ Chg F w w' ∧ OwnS F w' v (mkLRace k l.length) := by
  refine F42_call ?_
  unfold F42
  refine loopC l.length (fun i us w' => us = [.int .i64 (k + 3 * (i : Int)), .int .i64 (i : Int)] ∧ Chg F w w' ∧ OwnS F w' v (mkLRace k i ++ l.drop i)) 0 (Nat.zero_le _) ⟨by simp, Chg.refl _ _, by simpa [mkLRace] using h.toS⟩ ?_
  rintro i m u w0 hkm ⟨hu, hc, F', hm0, hF'⟩
  simp only [List.map_cons, List.map_nil, List.cons.injEq, and_true] at hu
  obtain ⟨hu1, hu2⟩ := hu
  rw [hu1, hu2]
  have hlen : (mkLRace k i ++ l.drop i).length = l.length := by rw [List.length_append, mkLRace_len, List.length_drop]; omega
  refine rd_len u58 hm0.is ?_
  rw [hlen]
  refine rd_lss ?_
  refine br (fun hlt => ?_) (fun hge => ?_)
  · have hi : i < l.length := by omega
    have hset : (mkLRace k i ++ l.drop i).set i (mk1Race (k + 3 * (i : Int))) = mkLRace k (i + 1) ++ l.drop (i + 1) := by
      rw [List.drop_eq_getElem_cons hi, List.set_append_right _ _ (by rw [mkLRace_len]; omega), mkLRace_len, Nat.sub_self, List.set_cons_zero, mkLRace_succ]
      simp only [List.append_assoc, List.cons_append, List.nil_append]
    generalize hL : mkLRace k i ++ l.drop i = L at hm0 hlen hset
    clear hL
    obtain ⟨q, hq⟩ : ∃ q, q = k + 3 * (i : Int) := ⟨_, rfl⟩
    rw [← hq] at hset ⊢
    refine st_fld (α := DRace) (β := Int) (sel := DRace.g) (g := fun a y => ⟨y, a.a, a.b⟩) u58 ty109 fd109_0 ty3 (fun h => lens_DRace_0 h) hm0 (by first | omega | (simp only [List.length_set]; omega)) (mine_int (by unfold I64; omega)) fun w1 F1 hc1 hm1 hF1 => ?_
    refine rd_add (by unfold I64; omega) ?_
    refine st_fld (α := DRace) (β := Int) (sel := DRace.a) (g := fun a y => ⟨a.g, y, a.b⟩) u58 ty109 fd109_1 ty3 (fun h => lens_DRace_1 h) hm1 (by first | omega | (simp only [List.length_set]; omega)) (mine_int (by unfold I64; omega)) fun w2 F2 hc2 hm2 hF2 => ?_
    refine rd_add (by unfold I64; omega) ?_
    refine st_fld (α := DRace) (β := Int) (sel := DRace.b) (g := fun a y => ⟨a.g, a.a, y⟩) u58 ty109 fd109_2 ty3 (fun h => lens_DRace_2 h) hm2 (by first | omega | (simp only [List.length_set]; omega)) (mine_int (by unfold I64; omega)) fun w3 F3 hc3 hm3 hF3 => ?_
    refine rd_add (by unfold I64; omega) ?_
    refine rd_inc (by omega) ?_
    simp only [List.set_set, List.getElem_set_self] at hm3
    have hcc : Chg F' w0 w3 := ((hc1).sub hc2 fun c hc => hF1 c hc).sub hc3 fun c hc => hF1 c (hF2 c hc)
    refine ⟨m - 1, by omega, i + 1, by omega, by rw [hq]; simp only [List.cons.injEq, Value.int.injEq, true_and, and_true, Int.natCast_add, Int.natCast_one]; omega, hc.sub hcc hF', F3, ?_, fun c hc => hF' c (hF1 c (hF2 c (hF3 c hc)))⟩
    rw [← hset]; exact hm3
  · have : i = l.length := by omega
    subst this
    rw [List.drop_length, List.append_nil] at hm0
    exact ⟨rfl, hc, F', hm0, hF'⟩
theorem markRaceS_I {w : World} {lo hi : Nat} {v : Value} {l : List DRace} {k : Int} (h : OwnI lo hi w v l) (hn : l.length ≤ 1073741824) (hk0 : 0 ≤ k) (hk1 : k ≤ 1000000000000000000) :
    CALL Tryz.prog 42 [v, .int .i64 k] w fun r w' => r = .int .i64 (k + 3 * (l.length : Int)) ∧ ChgI lo hi w w' ∧ OwnI lo hi w' v (mkLRace k l.length) := by
  obtain ⟨F, hM, hF⟩ := h
  exact (markRaceS_ok hM hn hk0 hk1).mono fun r w' ⟨h1, h2, h3⟩ => ⟨h1, h2.toI hF, h3.toI hF⟩
theorem heldRaceS_ok {w w0 : World} {v : Value} {n : Nat} {k : Int} (h : Is w0 v (mkLRace k n)) (hx : Ext w0 w) (hn : n ≤ 1073741824) (hk0 : 0 ≤ k) (hk1 : k ≤ 1000000000000000000) :
    CALL Tryz.prog 43 [v, .int .i64 k] w fun r w' => Ext w w' ∧ r = .int .i64 (k + 3 * (n : Int)) := by
  refine F43_call ?_
  unfold F43
  refine loopC n (fun i us w' => us = [.int .i64 (k + 3 * (i : Int)), .int .i64 (i : Int)] ∧ Ext w w') 0 (Nat.zero_le _) ⟨by simp, Ext.refl w⟩ ?_
  rintro i m u w2 hkm ⟨hu, hx2⟩
  simp only [List.map_cons, List.map_nil, List.cons.injEq, and_true] at hu
  obtain ⟨hu1, hu2⟩ := hu
  rw [hu1, hu2]
  refine rd_len u58 h ?_
  rw [mkLRace_len]
  refine rd_lss ?_
  refine br (fun hlt => ?_) (fun hge => ?_)
  · have hi : i < n := by omega
    have hg := mkLRace_get k n hi
    obtain ⟨q, hq⟩ : ∃ q, q = k + 3 * (i : Int) := ⟨_, rfl⟩
    rw [← hq] at hg ⊢
    refine rd_indexN u58 ty109 h (by rw [mkLRace_len]; exact hi) fun b0 o0 hA0 => ?_
    rw [hg] at hA0
    refine rd_fld fd109_0 ?_
    refine rd_loadI ty3 (at_DRace_0 hA0) (hx.trans hx2) fun _ => ?_
    refine rd_neq ?_
    refine br (fun h => absurd rfl h) (fun _ => ?_)
    refine rd_add (by unfold I64; omega) ?_
    refine rd_indexN u58 ty109 h (by rw [mkLRace_len]; exact hi) fun b1 o1 hA1 => ?_
    rw [hg] at hA1
    refine rd_fld fd109_1 ?_
    refine rd_loadI ty3 (at_DRace_1 hA1) (hx.trans hx2) fun _ => ?_
    refine rd_neq ?_
    refine br (fun h => absurd rfl h) (fun _ => ?_)
    refine rd_add (by unfold I64; omega) ?_
    refine rd_indexN u58 ty109 h (by rw [mkLRace_len]; exact hi) fun b2 o2 hA2 => ?_
    rw [hg] at hA2
    refine rd_fld fd109_2 ?_
    refine rd_loadI ty3 (at_DRace_2 hA2) (hx.trans hx2) fun _ => ?_
    refine rd_neq ?_
    refine br (fun h => absurd rfl h) (fun _ => ?_)
    refine rd_add (by unfold I64; omega) ?_
    refine rd_inc (by omega) ?_
    exact ⟨m - 1, by omega, i + 1, by omega, by rw [hq]; simp only [List.cons.injEq, Value.int.injEq, true_and, and_true, Int.natCast_add, Int.natCast_one]; omega, hx2⟩
  · have : i = n := by omega
    subst this
    exact ⟨hx2, rfl⟩
end Go.Proofs.YtjgfldfbljmhhaaGreat
