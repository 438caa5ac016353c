/-
  Parts of the proof, put together by program.
-/
import Derived.Test.YtbnjpfjjmhodnaaGreatPFnStates5
set_option linter.unusedVariables false
set_option linter.unusedSimpArgs false
set_option linter.unusedSectionVars false
namespace Go.Proofs.YtbnjpfjjmhodnaaGreat
open Go Go.Sh Go.Proofs
open Rep (rep)
def F31 (a0:Value) (w:World) (R:VW):Prop:=
 oP (Instr.box 28 a0) w fun x1 w=>
 oP (Instr.alloc 33 true (.tuple #[])) w fun x2 w=>
 rL 28 x1 w fun x5=>
 cL 81 [x5] w fun x6 w=>
 rD (Op.unary .not x6) w fun x7=>
 BR x7
 (rD (Instr.build 33 #[]) w fun x8=>
 oS 33 x2 x8 w fun w=>
 rD (zaw 33 x2) w fun r2=>R r2 w)
 (rF 28 x1 0 w fun x9=>
 rL 24 x9 w fun x10=>
 rN 24 3 x10 w fun x11=>
 oP (Instr.makeSlice 25 x11 x11) w fun x12 w=>
 rD (Instr.build 33 #[(0,x12)]) w fun x13=>
 oP (Instr.alloc 33 true (.tuple #[])) w fun x3 w=>
 oS 33 x3 x13 w fun w=>
 LOOPI [4] [(iV 0)] w fun u5 w next5=>
 rF 28 x1 1 w fun x15=>
 rL 24 x15 w fun x16=>
 rN 24 3 x16 w fun x17=>
 rC (u5 4) x17 w fun x18=>
 BR x18
 (rF 33 x3 1 w fun x21=>
 rL 25 x21 w fun x22=>
 oP (Instr.buildSlice 25 1 #[(0,(iV (-1)))]) w fun x23 w=>
 oP (Builtin.append_ #[25,25] 25 [x22,x23].toArray) w fun x24 w=>
 rF 33 x3 1 w fun x25=>
 oS 25 x25 x24 w fun w=>
 rA (u5 4) (iV 1) w fun x20=>
 next5 [x20] w)
 ((fun w=>rF 33 x3 2 w fun x26=>
 rL 31 x26 w fun x27=>
 rF 28 x1 3 w fun x28=>
 rL 25 x28 w fun x29=>
 rL 28 x1 w fun x30=>
 (fun w_=>cL 90 [x30] w_ fun x31 w=>
 Ext w_ w ∧
 rX 25 x29 x31 w fun x32=>
 rL 3 x32 w fun x33=>
 (fun w_=>oP (Instr.buildSlice 25 1 #[(0,x33)]) w_ fun x34 w=>
 Ext w_ w ∧
 ((fun w_=>oP (Instr.buildSlice 31 1 #[(0,x34)]) w_ fun x35 w=>
 Ext w_ w ∧
 (oP (Builtin.append_ #[31,31] 31 [x27,x35].toArray) w fun x36 w=>
 rF 33 x3 2 w fun x37=>
 oS 31 x37 x36 w fun w=>
 rL 33 x3 w fun x38=>
 oS 33 x2 x38 w fun w=>
 rD (zaw 33 x2) w fun r2=>R r2 w)) w)) w) w) (World.drew1 w)))
def cfg31:Cfg:=⟨extL,[],[(5,67092496,[4])],[(8,[0,1,2,3,4,5,6,7,8,9,10,11,12],800)],[],[],[]⟩
theorem F31_call {a0:Value} {w:World} {R:VW} (h:F31 a0 w R):cL 31 [a0] w R:=co (g:=cfg31) Tryz.func31 (by kernel_rfl) (by kernel_rfl) (by kernel_rfl) h
def F73 (a0:Value) (w:World) (R:VW):Prop:=
 oP (Instr.box 28 a0) w fun x1 w=>
 oP (Instr.alloc 33 true (.tuple #[])) w fun x2 w=>
 (fun w0=>PAR w0 [[(0,5)],[(1,6),(0,5)],[(2,7),(1,6)],[(3,8),(2,7),(2,7)],[(4,9)],[(5,10),(4,9)],[(6,11),(5,10)],[(7,12),(6,11),(6,11)],[(8,13),(3,8),(7,12)],[(9,3)]] (fun Q=>
 (∀ (u1:Env) (T:Nat→Nat×Nat) (w:World),Ext w0 w→zaA [] w0.heap.size w.heap.size T→(True)→(fun w1=>rF 28 x1 0 w fun x5=>
 Ext w1 w∧Q 0 (upd u1 5 x5) (zbv T 0 (w1.heap.size,w.heap.size)) w) w) ∧
 (∀ (u1:Env) (T:Nat→Nat×Nat) (w:World),Ext w0 w→zaA [0] w0.heap.size w.heap.size T→(Q 0 u1 T w∧True)→(fun w1=>rL 24 (u1 5) w fun x6=>
 Ext w1 w∧Q 1 (upd u1 6 x6) (zbv T 1 (w1.heap.size,w.heap.size)) w) w) ∧
 (∀ (u1:Env) (T:Nat→Nat×Nat) (w:World),Ext w0 w→zaA [1] w0.heap.size w.heap.size T→(Q 1 u1 T w∧True)→(fun w1=>rN 24 3 (u1 6) w fun x7=>
 Ext w1 w∧Q 2 (upd u1 7 x7) (zbv T 2 (w1.heap.size,w.heap.size)) w) w) ∧
 (∀ (u1:Env) (T:Nat→Nat×Nat) (w:World),Ext w0 w→zaA [2,2] w0.heap.size w.heap.size T→(Q 2 u1 T w∧Q 2 u1 T w∧True)→(fun w1=>oP (Instr.makeSlice 25 (u1 7) (u1 7)) w fun x8 w=>
 Ext w1 w∧Q 3 (upd u1 8 x8) (zbv T 3 (w1.heap.size,w.heap.size)) w) w) ∧
 (∀ (u1:Env) (T:Nat→Nat×Nat) (w:World),Ext w0 w→zaA [] w0.heap.size w.heap.size T→(True)→(fun w1=>rF 28 x1 1 w fun x9=>
 Ext w1 w∧Q 4 (upd u1 9 x9) (zbv T 4 (w1.heap.size,w.heap.size)) w) w) ∧
 (∀ (u1:Env) (T:Nat→Nat×Nat) (w:World),Ext w0 w→zaA [4] w0.heap.size w.heap.size T→(Q 4 u1 T w∧True)→(fun w1=>rL 24 (u1 9) w fun x10=>
 Ext w1 w∧Q 5 (upd u1 10 x10) (zbv T 5 (w1.heap.size,w.heap.size)) w) w) ∧
 (∀ (u1:Env) (T:Nat→Nat×Nat) (w:World),Ext w0 w→zaA [5] w0.heap.size w.heap.size T→(Q 5 u1 T w∧True)→(fun w1=>rN 24 3 (u1 10) w fun x11=>
 Ext w1 w∧Q 6 (upd u1 11 x11) (zbv T 6 (w1.heap.size,w.heap.size)) w) w) ∧
 (∀ (u1:Env) (T:Nat→Nat×Nat) (w:World),Ext w0 w→zaA [6,6] w0.heap.size w.heap.size T→(Q 6 u1 T w∧Q 6 u1 T w∧True)→(fun w1=>oP (Instr.makeSlice 25 (u1 11) (u1 11)) w fun x12 w=>
 Ext w1 w∧Q 7 (upd u1 12 x12) (zbv T 7 (w1.heap.size,w.heap.size)) w) w) ∧
 (∀ (u1:Env) (T:Nat→Nat×Nat) (w:World),Ext w0 w→zaA [3,7] w0.heap.size w.heap.size T→(Q 3 u1 T w∧Q 7 u1 T w∧True)→(fun w1=>rD (Instr.build 33 #[(0,(u1 8)),(1,(u1 12))]) w fun x13=>
 Ext w1 w∧Q 8 (upd u1 13 x13) (zbv T 8 (w1.heap.size,w.heap.size)) w) w) ∧
 (∀ (u1:Env) (T:Nat→Nat×Nat) (w:World),Ext w0 w→zaA [] w0.heap.size w.heap.size T→(True)→(fun w1=>oP (Instr.alloc 33 true (.tuple #[])) w fun x3 w=>
 Ext w1 w∧Q 9 (upd u1 3 x3) (zbv T 9 (w1.heap.size,w.heap.size)) w) w) ∧
 True)
 (fun Q=>∀ (u1:Env) (T:Nat→Nat×Nat) (w:World),Ext w0 w→zaA [0,1,2,3,4,5,6,7,8,9] w0.heap.size w.heap.size T→(Q 0 u1 T w∧Q 1 u1 T w∧Q 2 u1 T w∧Q 3 u1 T w∧Q 4 u1 T w∧Q 5 u1 T w∧Q 6 u1 T w∧Q 7 u1 T w∧Q 8 u1 T w∧Q 9 u1 T w∧True) →
 oS 33 (u1 3) (u1 13) w fun w=>
 rF 33 (u1 3) 1 w fun x14=>
 rL 25 x14 w fun x15=>
 rN 25 3 x15 w fun x16=>
 LOOPI [17] [(iV 0)] w fun u3 w next3=>
 rC (u3 17) x16 w fun x18=>
 BR x18
 (rF 33 (u1 3) 1 w fun x20=>
 rL 25 x20 w fun x21=>
 rX 25 x21 (u3 17) w fun x23=>
 oS 3 x23 (iV (-1)) w fun w=>
 rA (u3 17) (iV 1) w fun x24=>
 next3 [x24] w)
 ((fun w=>rF 28 x1 3 w fun x25=>
 rL 25 x25 w fun x26=>
 rF 28 x1 2 w fun x27=>
 rL 24 x27 w fun x28=>
 (fun w_=>cL 134 [x28,(Value.string (ByteArray.mk #[109,97,105,110]))] w_ fun x29 w=>
 Ext w_ w ∧
 rX 25 x26 x29 w fun x30=>
 rL 3 x30 w fun x31=>
 oP (Instr.buildSlice 25 1 #[(0,x31)]) w fun x32 w=>
 oP (Instr.buildSlice 31 1 #[(0,x32)]) w fun x33 w=>
 rF 33 (u1 3) 2 w fun x34=>
 oS 31 x34 x33 w fun w=>
 rL 33 (u1 3) w fun x35=>
 oS 33 x2 x35 w fun w=>
 rD (zaw 33 x2) w fun r2=>R r2 w) w) (World.drew1 w)))) (World.drew1 w)
def cfg73:Cfg:=⟨extL,[],[(3,33423376,[17])],[(7,[0,1,2,3,4,5,6,7,8,9,10],16)],[(1,16360,10)],[],[]⟩
theorem F73_call {a0:Value} {w:World} {R:VW} (h:F73 a0 w R):cL 73 [a0] w R:=co (g:=cfg73) Tryz.func73 (by kernel_rfl) (by kernel_rfl) (by kernel_rfl) h
def F12 (a0:Value) (w:World) (R:VW):Prop:=
 oP (Instr.box 28 a0) w fun x1 w=>
 oP (Instr.alloc 33 true (.tuple #[])) w fun x2 w=>
 rL 28 x1 w fun x3=>
 cL 72 [x3] w fun x4 w=>
 rD (Op.unary .not x4) w fun x5=>
 BR x5
 (rD (Instr.build 33 #[]) w fun x6=>
 oS 33 x2 x6 w fun w=>
 rD (zaw 33 x2) w fun r2=>R r2 w)
 (rL 28 x1 w fun x7=>
 cL 73 [x7] w fun x8 w=>
 oS 33 x2 x8 w fun w=>
 rD (zaw 33 x2) w fun r2=>R r2 w)
def zbO (c:DCode):DState:=⟨List.replicate c.globals.length 0,List.replicate c.locks.length (-1),[[en c (plc zgi c.procs).toNat]]⟩
def zgC (c:DCode):DState:=if CodeR c then zbO c else ⟨[],[],[]⟩
theorem zlI:zc7 Tryz.prog 3=some [.int .i64 0]:=by kernel_rfl
theorem zls {c:DCode} (hc:CodeR c):0≤plc zgi c.procs∧(plc zgi c.procs).toNat<c.entry.length:=by
 have h1:=zdS.2 hc.1.2.2.2.2.2.2
 have h2:=zhq (s:=zgi) (l:=c.procs)
 have h3:=hc.2.1.1
 omega
theorem zmd {lo hi:Nat} {w:World}:OwnI lo hi w (.agg #[.slice none 0 0,.slice none 0 0,.slice none 0 0]) (⟨[],[],[]⟩:DState):=
 (zcO (s:=⟨[],[],[]⟩) (lo:=lo) (hi:=lo) (l0:=lo) (h0:=lo) (l1:=lo) (h1:=lo) (l2:=lo) (h2:=lo) (zcl none) (zcl none) (zcl none) (by omega) (by omega) (by omega) (by omega) (by omega) (by omega)).elim fun F h=>⟨F,h.1,fun b hb=>by have:=h.2 b hb;omega⟩
def F90 (a0:Value) (w:World) (R:VW):Prop:=
 oP (Instr.box 28 a0) w fun x1 w=>
 rF 28 x1 2 w fun x3=>
 rL 24 x3 w fun x4=>
 cL 150 [x4,(Value.string (ByteArray.mk #[109,97,105,110]))] w fun x5 w=>
 R x5 w
def cfg90:Cfg:=⟨extL,[],[],[],[],[],[]⟩
theorem F90_call {a0:Value} {w:World} {R:VW} (h:F90 a0 w R):cL 90 [a0] w R:=co (g:=cfg90) Tryz.func90 (by kernel_rfl) (by kernel_rfl) (by kernel_rfl) h
theorem zmQ {w:World} {v0:Value} {W0:World} {c:DCode}  (h0:Is W0 v0 c) (e0:Ext W0 w)  :
   CALL Tryz.prog 90 [v0] w fun r w'=>Ext w w'∧(r=.int .i64 (plc zgi c.procs)):=by
 refine F90_call ?_
 unfold F90
 refine zap zcx rfl h0 e0 fun w1_ hx1_ hA1 hV1=>?_
 refine zaa zdg ?_
 refine zab zcJ (zbi hA1) (Ext.refl w1_) fun v4 h4=>?_
 refine (zbF h4 (Ext.refl w1_)).mono ?_
 rintro _ w2_ ⟨hx2_,rfl⟩
 refine ⟨(hx1_.trans hx2_),?_⟩
 rfl
theorem zfg {w W:World} {v:Value} {c:DCode} (h:Is W v c) (e:Ext W w) (hw:zgh c≤1048576) :
   CALL Tryz.prog 31 [v] w fun r w'=>Ext w w'∧Own w.heap.size w' r (zgC c):=by
 refine F31_call ?_
 unfold F31
 refine zbR h e fun w1 hx1 hA=>?_
 refine za6 zl7 fun w2 hx2 hB2=>?_
 have hg2:=hB2.lt
 have hs1:=hx1.size
 refine zab zcx hA hx2 fun v5 h5=>?_
 refine (zfP h5 hx2).mono ?_
 rintro _ w3 ⟨hx3,rfl⟩
 have hs3:=hx3.size
 refine zau ?_
 refine br (fun hn=>?_) (fun hc=>?_)
 · refine zaR (cells:=#[.slice none 0 0,.slice none 0 0,.slice none 0 0]) (by kernel_rfl) ?_
   refine za7 (lo:=w3.heap.size) (hi:=w3.heap.size) zbf rfl (hB2.ext hx3) rfl zmd fun w4 hc4 hB4=>?_
   refine zdc hB4 zbf ?_
   refine ⟨Ext.chgI (hx1.trans (hx2.trans hx3)) hc4 (by omega),?_⟩
   unfold zgC
   rw [if_neg hn]
   exact (zmd (lo:=w4.heap.size) (hi:=w4.heap.size)).own.mono (by have:=hc4.size;omega)
 have hc:=Decidable.not_not.1 hc
 have hsz:c.globals.length≤1048576∧c.locks.length≤1048576:=by unfold zgh znJ at hw;omega
 refine zaa zc0 ?_
 refine zab zcJ (zaW hA) (hx2.trans hx3) fun v10 h10=>?_
 refine zae u24 h10 ?_
 refine zje (α:=Int) u25 ty3 rfl rfl zlI (by omega) (by omega) fun w4 hx4 r12=>?_
 have hs4:=hx4.size
 refine zaR (cells:=#[.slice (some ⟨w3.heap.size,0,none⟩) c.globals.length c.globals.length,.slice none 0 0,.slice none 0 0]) (by kernel_rfl) ?_
 refine za6 zl7 fun w5 hx5 hB5=>?_
 have hg5:=hB5.lt
 have hs5:=hx5.size
 have o12:=(r12.own.ext hx5)
 refine za7 (x:=(⟨List.replicate c.globals.length 0,[],[]⟩:DState)) (lo:=w3.heap.size) (hi:=w4.heap.size) zbf rfl hB5 rfl
   (zcO (l0:=w3.heap.size) (h0:=w4.heap.size) (l1:=w4.heap.size) (h1:=w4.heap.size) (l2:=w4.heap.size) (h2:=w4.heap.size) o12 (zcl none) (zcl none) (by omega) (by omega) (by omega) (by omega) (by omega) (by omega)) fun w6 hc6 hB6=>?_
 have hs6:=hc6.size
 have r12':=(r12.ext hx5).chg hc6 (by omega)
 have hx16:Ext w1 w6:=Ext.chgI (hx2.trans (hx3.trans (hx4.trans hx5))) hc6 (by omega)
 refine zaF c.locks.length (fun k us w'=>us=[.int .i64 (k:Int)]∧∃ v1 hi,hi≤w'.heap.size∧w6.heap.size≤w'.heap.size∧Ext w1 w'∧Blk w4.heap.size 33 w' [.slice (some ⟨w3.heap.size,0,none⟩) c.globals.length c.globals.length,v1,.slice none 0 0] ∧
   RowI w3.heap.size w4.heap.size 3 w' (.slice (some ⟨w3.heap.size,0,none⟩) c.globals.length c.globals.length) (List.replicate c.globals.length 0)∧RowI w6.heap.size hi 3 w' v1 (List.replicate k (-1))∧Blk w1.heap.size 33 w' [.slice none 0 0,.slice none 0 0,.slice none 0 0]) 0 (Nat.zero_le _)
   ⟨rfl,.slice none 0 0,w6.heap.size,Nat.le_refl _,Nat.le_refl _,hx16,hB6,r12',zcS _ _ _ _,((hB2.ext hx3).ext (hx4.trans hx5)).chgI hc6 (by omega)⟩ ?_
 rintro k m u w7 hkm ⟨hu,v1,hi,hhi,hs7,hx7,hB7,o7,r7,hB27⟩
 simp only [List.map_cons,List.map_nil,List.cons.injEq,and_true] at hu
 rw [hu]
 refine zaa zeC ?_
 refine zab zcJ (zbK hA) hx7 fun v16 h16=>?_
 refine zae u24 h16 ?_
 refine zai ?_
 refine br (fun hlt=>?_) (fun hge=>?_)
 · refine zaa zb5 ?_
   refine zb9 zaJ hB7 rfl ?_
   refine zeF (α:=Int) (lo2:=w7.heap.size) (hi2:=w7.heap.size) u25 ty3 z3 zc3 (by decide) r7 (by omega) (ownI_int (by unfold I64;omega)) (by omega) (by omega) (by rw [zak,List.length_replicate];omega) (by rw [List.length_replicate];omega) fun v24 w8 hc8 r8=>?_
   have hs8:=hc8.size
   refine zaa zb5 ?_
   refine zcp (α:=List Int) zaJ rfl rfl (hB7.chgI hc8 (by omega)) (by simp) r8.own fun w9 hc9 hB9=>?_
   have hs9:=hc9.size
   refine zal (by omega) ?_
   refine ⟨m-1,by omega,k+1,by omega,rfl,v24,w8.heap.size,by omega,by omega,Ext.chgI (Ext.chgI hx7 hc8 (by omega)) hc9 (by omega),hB9,(o7.chg hc8 (by omega)).chg hc9 (by omega),?_,(hB27.chgI hc8 (by omega)).chgI hc9 (by omega)⟩
   have:=r8.chg hc9 (by omega)
   rwa [←List.replicate_succ'] at this
 have hk:k=c.locks.length:=by omega
 subst hk
 have hx8:=zah w7
 have hs8:=hx8.size
 refine zaa zaC ?_
 refine zb9 zc1 (hB7.ext hx8) rfl ?_
 refine zaa zbe ?_
 refine zab zaJ (zao hA) (hx7.trans hx8) fun v29 h29=>?_
 refine zab zcx hA (hx7.trans hx8) fun v30 h30=>?_
 refine (zmQ h30 (hx7.trans hx8)).mono ?_
 rintro _ w9 ⟨hx9,rfl⟩
 have hs9:=hx9.size
 refine ⟨hx9,?_⟩
 obtain ⟨hp0,hp1⟩:=zls hc
 refine zas u25 ty3 h29 hp0 hp1 fun b o hA2=>?_
 refine zac ty3 hA2 (hx7.trans (hx8.trans hx9)) fun hI=>?_
 refine zd4 (α:=Int) (lo:=w9.heap.size) (hi:=w9.heap.size) u25 ty3 z3 (by decide) (ownI_int hI) (by omega) fun v34 w10 hx10 o34=>?_
 have hs10:=hx10.size
 refine ⟨hx10,?_⟩
 refine zg2 (α:=List Int) (lo:=w9.heap.size) (hi:=w9.heap.size) u31 zaJ z25 zqD (by decide) (zcS _ _ _ _) (by omega) o34 (by omega) (by omega) (by rw [zak];simp) (by simp) fun v36 w11 hc11 r36=>?_
 have hs11:=hc11.size
 have hB11:=((hB7.ext (hx8.trans (hx9.trans hx10)))).chgI hc11 (by omega)
 have o11:=((o7.ext (hx8.trans (hx9.trans hx10)))).chg hc11 (by omega)
 have r11:=((r7.ext (hx8.trans (hx9.trans hx10)))).chg hc11 (by omega)
 have hB211:=((hB27.ext (hx8.trans (hx9.trans hx10)))).chgI hc11 (by omega)
 refine zaa zaC ?_
 refine zcp (α:=List (List Int)) zc1 rfl rfl hB11 (by simp) r36.own fun w12 hc12 hB12=>?_
 have hs12:=hc12.size
 refine zdb hB12 zbf ?_
 have ost:OwnI w3.heap.size w11.heap.size w12 (.agg #[.slice (some ⟨w3.heap.size,0,none⟩) c.globals.length c.globals.length,v1,v36]) (zbO c):=by
   refine zcO (l0:=w3.heap.size) (h0:=w4.heap.size) (l1:=w6.heap.size) (h1:=hi) (l2:=w9.heap.size) (h2:=w11.heap.size) (o11.chg hc12 (by omega)).own (r11.chg hc12 (by omega)).own ?_ (by omega) (by omega) (by omega) (by omega) (by omega) (by omega)
   have:=(r36.chg hc12 (by omega)).own
   rw [zbD] at this
   exact this
 refine za7 zbf rfl (hB211.chgI hc12 (by omega)) rfl ost fun w13 hc13 hB13=>?_
 have hs13:=hc13.size
 refine zdc hB13 zbf ?_
 refine ⟨Ext.chgI (Ext.chgI (Ext.chgI (hx1.trans (hx7.trans (hx8.trans (hx9.trans hx10)))) hc11 (by omega)) hc12 (by omega)) hc13 (by omega),?_⟩
 unfold zgC
 rw [if_pos hc]
 exact (ost.chg hc13 (by omega)).own.mono (by omega)
def stQ (c:DCode) (g1:Nat) (w0:World):ParQ:=fun i u T w=>match i with
 | 0=>u 5=.pointer (some ⟨g1,0+0,none⟩)
 | 1=>Is w0 (u 6) c.globals
 | 2=>u 7=.int .i64 (c.globals.length:Int)
 | 3=>∃ a cap,u 8=.slice a c.globals.length cap∧RowI (T 3).1 (T 3).2 3 w (u 8) (List.replicate c.globals.length (0:Int))
 | 4=>u 9=.pointer (some ⟨g1,0+1,none⟩)
 | 5=>Is w0 (u 10) c.locks
 | 6=>u 11=.int .i64 (c.locks.length:Int)
 | 7=>∃ a cap,u 12=.slice a c.locks.length cap∧RowI (T 7).1 (T 7).2 3 w (u 12) (List.replicate c.locks.length (0:Int))
 | 8=>u 13=.agg #[u 8,u 12,.slice none 0 0]
 | 9=>∃ g,u 3=.pointer (some ⟨g,0,none⟩)∧(T 9).1≤g∧g<(T 9).2∧Blk g 33 w [.slice none 0 0,.slice none 0 0,.slice none 0 0]
 | _=>True
theorem zmR {w W:World} {v:Value} {c:DCode} (h:Is W v c) (e:Ext W w) (hw:zgh c≤1048576) (hc:CodeR c) :
   CALL Tryz.prog 73 [v] w fun r w'=>Ext w w'∧Own w.heap.size w' r (zbO c):=by
 have hsz:c.globals.length≤1048576∧c.locks.length≤1048576:=by unfold zgh znJ at hw;omega
 refine F73_call ?_
 unfold F73
 refine zbR h e fun w1 hx1 hA=>?_
 refine za6 zl7 fun w2 hx2 hB2=>?_
 have hg2:=hB2.lt
 have hs1:=hx1.size
 have hx3:=zah w2
 have hs3:=hx3.size
 refine PAR.mk (stQ c w.heap.size (World.drew1 w2)) ?_ ?_ ?_
 · intro i u u' T T' wa wb hxa hxb hd hq
   match i,hd,hq with
   | 0,hd,hq=>exact (hd (0,5) (by decide)).1.trans hq
   | 1,hd,hq=>have:=(hd (1,6) (by decide)).1;show Is _ (u' 6) _;simp only [this];exact hq
   | 2,hd,hq=>exact (hd (2,7) (by decide)).1.trans hq
   | 3,hd,⟨a,cap,q1,q2⟩=>
     obtain ⟨e1,e2⟩:=hd (3,8) (by decide)
     simp only at e1 e2
     refine ⟨a,cap,e1.trans q1,?_⟩
     simp only [e1,e2];exact q2.ext hxb
   | 4,hd,hq=>exact (hd (4,9) (by decide)).1.trans hq
   | 5,hd,hq=>have:=(hd (5,10) (by decide)).1;show Is _ (u' 10) _;simp only [this];exact hq
   | 6,hd,hq=>exact (hd (6,11) (by decide)).1.trans hq
   | 7,hd,⟨a,cap,q1,q2⟩=>
     obtain ⟨e1,e2⟩:=hd (7,12) (by decide)
     simp only at e1 e2
     refine ⟨a,cap,e1.trans q1,?_⟩
     simp only [e1,e2];exact q2.ext hxb
   | 8,hd,hq=>
     have e1:=(hd (8,13) (by decide)).1
     have e2:=(hd (3,8) (by decide)).1
     have e3:=(hd (7,12) (by decide)).1
     simp only at e1 e2 e3
     show u' 13=.agg #[u' 8,u' 12,.slice none 0 0]
     rw [e1,e2,e3];exact hq
   | 9,hd,⟨g,q1,q2,q3,q4⟩=>
     obtain ⟨e1,e2⟩:=hd (9,3) (by decide)
     simp only at e1 e2
     exact ⟨g,e1.trans q1,by rw [e2];exact q2,by rw [e2];exact q3,q4.ext hxb⟩
   | n+10,_,_=>trivial
 · refine ⟨fun u T w' hx _ _=>?_,fun u T w' hx _ hp=>?_,fun u T w' hx _ hp=>?_,fun u T w' hx _ hp=>?_,fun u T w' hx _ _=>?_,fun u T w' hx _ hp=>?_,fun u T w' hx _ hp=>?_,fun u T w' hx _ hp=>?_,fun u T w' hx _ hp=>?_,fun u T w' hx _ _=>?_,trivial⟩
   · exact zaa zc0 ⟨Ext.refl _,rfl⟩
   · have q0:u 5=_:=hp.1
     rw [q0]
     exact zab zcJ (zaW hA) (hx2.trans (hx3.trans hx)) fun v6 h6=>⟨Ext.refl _,(h6.ext (hx2.trans hx3))⟩
   · have q1:Is _ (u 6) c.globals:=hp.1
     exact zae u24 q1 ⟨Ext.refl _,rfl⟩
   · have q2:u 7=_:=hp.1
     rw [q2]
     exact zje (α:=Int) u25 ty3 rfl rfl zlI (by omega) (by omega) fun w4 hx4 r=>⟨hx4,_,_,rfl,r⟩
   · exact zaa zeC ⟨Ext.refl _,rfl⟩
   · have q0:u 9=_:=hp.1
     rw [q0]
     exact zab zcJ (zbK hA) (hx2.trans (hx3.trans hx)) fun v6 h6=>⟨Ext.refl _,(h6.ext (hx2.trans hx3))⟩
   · have q1:Is _ (u 10) c.locks:=hp.1
     exact zae u24 q1 ⟨Ext.refl _,rfl⟩
   · have q2:u 11=_:=hp.1
     rw [q2]
     exact zje (α:=Int) u25 ty3 rfl rfl zlI (by omega) (by omega) fun w4 hx4 r=>⟨hx4,_,_,rfl,r⟩
   · obtain ⟨a,cap,q1,_⟩:∃ a cap,u 8=.slice a c.globals.length cap∧_:=hp.1
     obtain ⟨a',cap',q1',_⟩:∃ a cap,u 12=.slice a c.locks.length cap∧_:=hp.2.1
     rw [q1,q1']
     refine zaR (cells:=#[.slice a c.globals.length cap,.slice a' c.locks.length cap',.slice none 0 0]) (by kernel_rfl) ⟨Ext.refl _,?_⟩
     show _=Value.agg #[u 8,u 12,.slice none 0 0]
     rw [q1,q1'];rfl
   exact za6 zl7 fun w4 hx4 hB=>⟨hx4,w'.heap.size,rfl,Nat.le_refl _,hB.lt,hB⟩
 rintro u T w4 hx4 hap ⟨-,-,-,⟨a,cap,-,r8⟩,-,-,-,⟨a',cap',-,r12⟩,q13,⟨g,q3,hg0,hg1,hB3⟩,-⟩
 have q13:u 13=.agg #[u 8,u 12,.slice none 0 0]:=q13
 have t3:=hap.1 3 (by decide)
 have t7:=hap.1 7 (by decide)
 have t9:=hap.1 9 (by decide)
 have d37:=hap.2 3 (by decide) 7 (by decide) (by decide)
 have d39:=hap.2 3 (by decide) 9 (by decide) (by decide)
 have d79:=hap.2 7 (by decide) 9 (by decide) (by decide)
 generalize u 8=v8 at *
 generalize u 12=v12 at *
 have hs4:=hx4.size
 rw [q13,q3]
 refine za7 (x:=(⟨List.replicate c.globals.length 0,List.replicate c.locks.length 0,[]⟩:DState)) (lo:=0) (hi:=w4.heap.size) zbf rfl hB3 rfl
   (zcO (l2:=0) (h2:=0) r8.own r12.own (zcl none) (by omega) (by omega) (by omega) (by omega) (by omega) (by omega)) fun w5 hc5 hB5=>?_
 have hs5:=hc5.size
 have hx15:Ext w1 w5:=Ext.chgI (hx2.trans (hx3.trans hx4)) hc5 (by omega)
 have o8:=r8.own.chg hc5 (by omega)
 have o12:=r12.own.chg hc5 (by omega)
 have hB25:=((hB2.ext hx3).ext hx4).chgI hc5 (by omega)
 refine zaa zb5 ?_
 refine zb9 zaJ hB5 rfl ?_
 refine zae u25 o12.is ?_
 rw [List.length_replicate]
 refine zaF c.locks.length (fun k us w'=>us=[.int .i64 (k:Int)]∧w5.heap.size≤w'.heap.size∧Ext w1 w'∧Blk g 33 w' [v8,v12,.slice none 0 0]∧OwnI (T 3).1 (T 3).2 w' v8 (List.replicate c.globals.length (0:Int)) ∧
   OwnI (T 7).1 (T 7).2 w' v12 (List.replicate k (-1)++List.replicate (c.locks.length-k) (0:Int))∧Blk w1.heap.size 33 w' [.slice none 0 0,.slice none 0 0,.slice none 0 0]) 0 (Nat.zero_le _)
   ⟨rfl,Nat.le_refl _,hx15,hB5,o8,by simpa using o12,hB25⟩ ?_
 rintro k m uu w7 hkm ⟨hu,hs7,hx7,hB7,o8,⟨F,hM,hF⟩,hB27⟩
 simp only [List.map_cons,List.map_nil,List.cons.injEq,and_true] at hu
 rw [hu]
 refine zai ?_
 refine br (fun hlt=>?_) (fun hge=>?_)
 · refine zaa zb5 ?_
   refine zb9 zaJ hB7 rfl ?_
   refine ziS (α:=Int) u25 ty3 hM (by simp;omega) (zbT (w:=w7) (x:=-1) (by unfold I64;omega)).own fun w8 hc8 hM8=>?_
   have hcI:=hc8.toI hF
   have hs8:=hc8.size
   refine zal (by omega) ?_
   refine ⟨m-1,by omega,k+1,by omega,rfl,by omega,Ext.chgI hx7 hcI (by omega),hB7.chgI hcI (by omega),o8.chg hcI (by omega),⟨F,?_,hF⟩,hB27.chgI hcI (by omega)⟩
   have:(List.replicate k (-1)++List.replicate (c.locks.length-k) (0:Int)).set k (-1)=List.replicate (k+1) (-1)++List.replicate (c.locks.length-(k+1)) 0:=by
     rw [show c.locks.length-k=(c.locks.length-(k+1))+1 by omega,List.replicate_succ (n:=c.locks.length-(k+1)),List.set_append_right _ _ (by simp),List.length_replicate,Nat.sub_self,List.set_cons_zero,List.replicate_succ' (n:=k)]
     simp
   rw [←this];exact hM8
 have hk:k=c.locks.length:=by omega
 subst hk
 have o12:OwnI (T 7).1 (T 7).2 w7 v12 (List.replicate c.locks.length (-1)):=⟨F,by simpa using hM,hF⟩
 clear hM
 have hx8:=zah w7
 have hs8:=hx8.size
 refine zaa zbe ?_
 refine zab zaJ (zao hA) (hx7.trans hx8) fun v26 h26=>?_
 refine zaa zdg ?_
 refine zab zcJ (zbi hA) (hx7.trans hx8) fun v28 h28=>?_
 refine (zfo h28 (hx7.trans hx8)).mono ?_
 rintro _ w9 ⟨hx9,rfl⟩
 have hs9:=hx9.size
 refine ⟨hx9,?_⟩
 obtain ⟨hp0,hp1⟩:0≤plc (ByteArray.mk #[109,97,105,110]) c.procs∧(plc (ByteArray.mk #[109,97,105,110]) c.procs).toNat<c.entry.length:=zls hc
 refine zas u25 ty3 h26 hp0 hp1 fun b o hA2=>?_
 refine zac ty3 hA2 (hx7.trans (hx8.trans hx9)) fun hI=>?_
 refine zd4 (α:=Int) (lo:=w9.heap.size) (hi:=w9.heap.size) u25 ty3 z3 (by decide) (ownI_int hI) (by omega) fun v32 w10 hx10 o32=>?_
 have hs10:=hx10.size
 refine zd4 (α:=List Int) u31 zaJ z25 (by decide) o32 (by omega) fun v33 w11 hx11 o33=>?_
 have hs11:=hx11.size
 have hx711:=hx8.trans (hx9.trans (hx10.trans hx11))
 refine zaa zaC ?_
 refine zcp (α:=List (List Int)) zc1 rfl rfl (hB7.ext hx711) (by simp) o33 fun w12 hc12 hB12=>?_
 have hs12:=hc12.size
 refine zdb hB12 zbf ?_
 have ost:OwnI w2.heap.size w11.heap.size w12 (.agg #[v8,v12,v33]) (zbO c):=by
   refine zcO (l2:=w9.heap.size) (h2:=w11.heap.size) ((o8.ext hx711).chg hc12 (by omega)) ((o12.ext hx711).chg hc12 (by omega)) ?_ (by omega) (by omega) (by omega) (by omega) (by omega) (by omega)
   have:=(o33.chg hc12 (by omega))
   rw [zbD] at this
   exact this
 refine za7 zbf rfl ((hB27.ext hx711).chgI hc12 (by omega)) rfl ost fun w13 hc13 hB13=>?_
 have hs13:=hc13.size
 refine zdc hB13 zbf ?_
 refine ⟨Ext.chgI (Ext.chgI (hx1.trans (hx7.trans hx711)) hc12 (by omega)) hc13 (by omega),?_⟩
 exact (ost.chg hc13 (by omega)).own.mono (by omega)
theorem zjq {α:Type} {l:List α} {i:Nat} {x y:α} (h:y∈l.set i x):y=x∨y∈l:=by
 rcases List.mem_or_eq_of_mem_set h with h | h
 · exact .inr h
 exact .inl h
theorem zhR {c:DCode} (hc:CodeR c):zaK c (zbO c):=by
 obtain ⟨hp0,hp1⟩:=zls hc
 have hl:=hc.f.lt _ hp1
 have h0:=hc.f.nonneg hp1
 refine ⟨by simp [zbO],by simp [zbO],by simp [zbO],fun v hv=>?_,fun o ho=>?_,fun l hl'=>?_⟩
 · have:=List.eq_of_mem_replicate hv;omega
 · have:=List.eq_of_mem_replicate ho;simp only [zbO,List.length_cons,List.length_nil];omega
 simp only [zbO,List.mem_cons,List.not_mem_nil,or_false] at hl'
 subst hl'
 refine ⟨by simp,fun i hi=>?_,fun i hi=>by simp at hi⟩
 have:i=0:=by simp at hi;omega
 subst this
 simp only [st,List.getD_cons_zero]
 omega
theorem zqU {l:List Int} {i j:Nat} {x:Int} (hi:i<l.length):st (l.set i x) j=if i=j then x else st l j:=by
 unfold st
 rw [List.getD_eq_getElem?_getD,List.getD_eq_getElem?_getD,List.getElem?_set]
 by_cases h:i=j
 · subst h;simp [hi]
 simp [h]
theorem zjr {l:List Int} {k j:Nat} (hj:j<k):st (l.take k) j=st l j:=by
 unfold st
 rw [List.getD_eq_getElem?_getD,List.getD_eq_getElem?_getD,List.getElem?_take,if_pos hj]
theorem zlt {l:List Int} {j:Nat} {x:Int}:st (l++[x]) j=if j=l.length then x else st l j:=by
 unfold st
 rw [List.getD_eq_getElem?_getD,List.getD_eq_getElem?_getD,List.getElem?_append]
 by_cases h:j<l.length
 · rw [if_pos h,if_neg (by omega)]
 by_cases h2:j=l.length
 · subst h2;simp
 rw [if_neg h,if_neg h2,List.getElem?_eq_none (by simp;omega),List.getElem?_eq_none (by omega)]
theorem zkh {c:DCode} (hc:CodeR c) {a:Int} (h0:0≤a) (h1:a<c.ins.length) (ho:(zbG c a.toNat).op≠9):a+1<c.ins.length∧zaD c (a+1)=zaD c a:=by
 obtain ⟨i,hi,h2,h3,h4⟩:=hc.f.find hc.1.procs8.2 h0 h1
 have h5:=(hc.2.1.2.2.2 a.toNat (by omega))
 rw [Int.toNat_of_nonneg h0,h4,zcT] at h5
 have h6:zdj c i-1≠a:=fun e=>ho (h5.2 e)
 have h7:=(hc.f.lt i hi).2
 exact ⟨by omega,by rw [h4];exact hc.f.proc hi (by omega) (by omega)⟩
theorem zoj {c:DCode} (hc:CodeR c) {a:Int} (h0:0≤a) (h1:a<c.ins.length) (ho:(zbG c a.toNat).op=2∨(zbG c a.toNat).op=3) :
   0≤(zbG c a.toNat).to∧(zbG c a.toNat).to<c.ins.length∧zaD c (zbG c a.toNat).to=zaD c a:=by
 obtain ⟨i,hi,h2,h3,h4⟩:=hc.f.find hc.1.procs8.2 h0 h1
 have h5:=(zhN hc (j:=a.toNat) (by omega)).2.2.2
 rw [if_pos ho,Int.toNat_of_nonneg h0,h4,zcT,Int.toNat_natCast] at h5
 have h6:=hc.f.nonneg hi
 have h7:=(hc.f.lt i hi).2
 exact ⟨by omega,by omega,by rw [h4];exact hc.f.proc hi h5.1 (by omega)⟩
theorem zok {c:DCode} (hc:CodeR c) {i:Nat} (hi:i<c.entry.length):0≤en c i∧en c i<c.ins.length∧zaD c (en c i)=i:=by
 have h6:=hc.f.nonneg hi
 have h7:=hc.f.lt i hi
 exact ⟨h6,by omega,hc.f.proc hi (Int.le_refl _) h7.1⟩
theorem zmS (c:DCode):zcd c []:=⟨by simp,fun i hi=>by simp at hi,fun i hi=>by simp at hi⟩
theorem zmT {c:DCode} {n:Int} (h0:0≤n) (h1:n<c.ins.length):zcd c [n]:=by
 refine ⟨by simp,fun i hi=>?_,fun i hi=>by simp at hi⟩
 have:i=0:=by simp at hi;omega
 subst this
 exact ⟨h0,h1⟩
theorem ziz {c:DCode} {l:List Int} {n:Int} (h:zcd c l) (hl:0<l.length) (h0:0≤n) (h1:n<c.ins.length) (hp:zaD c n=zaD c (st l (l.length-1))):zcd c (l.set (l.length-1) n):=by
 have hs:∀ j,st (l.set (l.length-1) n) j=if l.length-1=j then n else st l j:=fun j=>zqU (by omega)
 refine ⟨by rw [List.length_set];exact h.1,fun i hi=>?_,fun i hi=>?_⟩
 · rw [List.length_set] at hi
   rw [hs]
   split
   · exact ⟨h0,h1⟩
   exact h.2.1 i hi
 rw [List.length_set] at hi
 have h2:=h.2.2 i hi
 rw [hs i,if_neg (by omega)]
 refine ⟨h2.1,?_⟩
 rw [hs (i+1)]
 split
 · rename_i he
   rw [hp,he];exact h2.2
 exact h2.2
theorem zlu {c:DCode} {l:List Int} {n:Int} (h:zcd c l) (hl:l.length<8) (h0:0≤n) (h1:n<c.ins.length) (hp:0<l.length→(zbG c (st l (l.length-1)).toNat).op=4∧zaD c n=(zbG c (st l (l.length-1)).toNat).arg):zcd c (l++[n]):=by
 refine ⟨by simp;omega,fun i hi=>?_,fun i hi=>?_⟩
 · rw [zlt]
   split
   · exact ⟨h0,h1⟩
   exact h.2.1 i (by simp at hi;omega)
 simp only [List.length_append,List.length_cons,List.length_nil] at hi
 rw [zlt,zlt,if_neg (by omega)]
 by_cases e:i+1=l.length
 · rw [if_pos e]
   have:i=l.length-1:=by omega
   subst this
   exact hp (by omega)
 rw [if_neg e]
 exact h.2.2 i (by omega)
theorem zlv {c:DCode} {l:List Int} (h:zcd c l) (k:Nat):zcd c (l.take k):=by
 refine ⟨by rw [List.length_take];have:=h.1;omega,fun i hi=>?_,fun i hi=>?_⟩
 · rw [List.length_take] at hi
   rw [zjr (by omega)]
   exact h.2.1 i (by omega)
 rw [List.length_take] at hi
 rw [zjr (by omega),zjr (by omega)]
 exact h.2.2 i (by omega)
theorem zmU {c:DCode} (hc:CodeR c) {l:List Int} (h:zcd c l) (hl:0<l.length):zcd c (zhQ l):=by
 unfold zhQ
 split
 · exact zmS c
 rename_i h1
 have h2:=h.2.2 (l.length-2) (by omega)
 have h3:=h.2.1 (l.length-2) (by omega)
 obtain ⟨h4,h5⟩:=zkh hc h3.1 h3.2 (by omega)
 have h6:=ziz (n:=st l (l.length-2)+1) (zlv h (l.length-1)) (by rw [List.length_take];omega) (by omega) h4 (by
   rw [List.length_take,zjr (by omega),h5]
   congr 2
   omega)
 rw [List.length_take] at h6
 rw [show min (l.length-1) l.length-1=l.length-2 by omega] at h6
 exact h6
theorem zgD {c:DCode} {s:DState} (hs:zaK c s) {k:Nat} {l:List Int} (hl:zcd c l):zaK c ⟨s.vars,s.owner,s.stacks.set k l⟩:=by
 refine ⟨hs.1,hs.2.1,by simp only [List.length_set];exact hs.2.2.1,hs.2.2.2.1,by simp only [List.length_set];exact hs.2.2.2.2.1,fun x hx=>?_⟩
 rcases zjq hx with rfl | hx
 · exact hl
 exact hs.2.2.2.2.2 x hx
theorem zki {c:DCode} {s:DState} {t:Int} (hc:CodeR c) (hs:zaK c s) (hgo:GoR c s t):zaK c (zaM c s t):=by
 have hth:=zeL hgo.1
 unfold zaM
 split
 · refine ⟨by simp only [List.length_set];exact hs.1,hs.2.1,hs.2.2.1,fun v hv=>?_,hs.2.2.2.2.1,hs.2.2.2.2.2⟩
   rcases zjq hv with rfl | hv
   · exact zcv _ _ _ _
   exact hs.2.2.2.1 v hv
 split
 · split
   · rename_i h1 h5 h6
     have hp:=ze5 hc hs hgo.1 (.inr h5)
     refine ⟨hs.1,hs.2.1,by simp only [List.length_append,List.length_cons,List.length_nil];omega,hs.2.2.2.1,fun o ho=>?_,fun x hx=>?_⟩
     · have:=hs.2.2.2.2.1 o ho
       simp only [List.length_append,List.length_cons,List.length_nil];omega
     rcases List.mem_append.1 hx with hx | hx
     · exact hs.2.2.2.2.2 x hx
     simp only [List.mem_cons,List.not_mem_nil,or_false] at hx
     subst hx
     obtain ⟨h7,h8,_⟩:=zok hc hp.2
     exact zmT h7 h8
   exact hs
 split
 · refine ⟨hs.1,by simp only [List.length_set];exact hs.2.1,hs.2.2.1,hs.2.2.2.1,fun o ho=>?_,hs.2.2.2.2.2⟩
   rcases zjq ho with rfl | ho
   · simp only;omega
   exact hs.2.2.2.2.1 o ho
 split
 · split
   · refine ⟨hs.1,by simp only [List.length_set];exact hs.2.1,hs.2.2.1,hs.2.2.2.1,fun o ho=>?_,hs.2.2.2.2.2⟩
     rcases zjq ho with rfl | ho
     · simp only;omega
     exact hs.2.2.2.2.1 o ho
   exact hs
 exact hs
theorem ziA {c:DCode} {s:DState} {t:Int} (hc:CodeR c) (hs:zaK c s) (hgo:GoR c s t):zaK c (zby c s t):=by
 have hth:=zeL hgo.1
 obtain ⟨tn,rfl,htn,hne,hl8,hat⟩:=zjn hs hgo.1
 have hpos:=List.length_pos_iff.2 hne
 have hk:=hs.2.2.2.2.2 (stk s tn) (by rw [←zdU (by omega)];exact List.getElem_mem _)
 have hlt:=zlo hs tn
 unfold zby
 split
 · rename_i h4
   have hp:=ze5 hc hs hgo.1 (.inl h4)
   obtain ⟨h7,h8,h9⟩:=zok hc hp.2
   have h10:=hgo.2.2 h4
   refine zgD hs (zlu hk (by omega) h7 h8 fun _=>?_)
   rw [←hat]
   refine ⟨h4,?_⟩
   rw [h9]
   have:=hp.1
   unfold atI at this ⊢
   omega
 split
 · exact zgD hs (zmU hc hk hpos)
 rename_i h4 h9
 have hn:=zkh hc hgo.1 hlt.2 h9
 have key:0≤zcn c s tn∧zcn c s tn<c.ins.length∧zaD c (zcn c s tn)=zaD c (zdR s tn):=by
   unfold zcn
   have hnx:0≤zdR s tn+1∧zdR s tn+1<c.ins.length∧zaD c (zdR s tn+1)=zaD c (zdR s tn):=⟨by have:=hgo.1;omega,hn.1,hn.2⟩
   split
   · rename_i h2
     split
     · exact zoj hc hgo.1 hlt.2 (.inl h2)
     exact hnx
   split
   · rename_i h3
     exact zoj hc hgo.1 hlt.2 (.inr h3)
   exact hnx
 refine zgD (zki hc hs hgo) (ziz hk hpos key.1 key.2.1 ?_)
 rw [key.2.2,hat]
end Go.Proofs.YtbnjpfjjmhodnaaGreat
namespace Go.Sh
def zrs (l:List Nat):List Int:=l.map fun x:Nat=>(x:Int)
section
variable {nx:Nat→List Nat} {n a k x q:Nat} {M0 ms:List Bool} {td td':List Nat}
end
noncomputable def zrt (p:Nat→Prop):Nat→Nat
 | 0=>0
 | n+1=>zrt p n ||| (if @decide (p n) (Classical.propDecidable _) then 2^n else 0)
section
variable {n:Nat} {p q:Nat→Prop}
end
end Go.Sh
namespace Go.Proofs.YtbnjpfjjmhodnaaGreat
open Go Go.Sh Go.Proofs
open Rep (rep)
noncomputable def m6 (p:Nat→Prop):Nat:=zrt p 6
abbrev Tab:=List (Nat×Nat)
structure DEffect where
 keep:Int
 gen:Int
theorem DEffect.ext_iff {x y:DEffect}:x=y↔(x.keep=y.keep∧x.gen=y.gen):=⟨fun h=>by rw [h];exact ⟨rfl,rfl⟩,fun h=>by obtain ⟨h0,h1⟩:=h;cases x;cases y;simp only at h0 h1;simp only [h0,h1]⟩
instance:DecidableEq DEffect:=fun x y=>decidable_of_iff (x.keep=y.keep∧x.gen=y.gen) DEffect.ext_iff.symm
instance:Rep DEffect:=Rep.via fun x=>(x.keep,x.gen)
instance:RepZ DEffect:=⟨⟨(RepZ.zv:Int),(RepZ.zv:Int)⟩,RepZ.zc (Int×Int),fun w=>RepZ.zr (α:=Int×Int) w⟩
instance:Flat DEffect:=⟨fun h=>Flat.flat (α:=Int×Int) h⟩
end Go.Proofs.YtbnjpfjjmhodnaaGreat
namespace Go.Sh
open Rep (rep)
theorem ChgI.one {w w':World} {g:Nat} (h:ChgI g (g+1) w w'):Chg [g] w w':=⟨h.os,h.tape,h.output,h.size,fun b hb hn=>h.block b hb (by simp at hn;omega)⟩
end Go.Sh
namespace Go.Proofs.YtbnjpfjjmhodnaaGreat
open Go Go.Sh Go.Proofs
open Rep (rep)
theorem zjs {w:World} {lo hi:Nat} {u:Value} (h:u.oneCell'=true):OwnI lo hi w u (⟨u⟩:Raw):=⟨[],⟨⟨[u],⟨rfl,rfl,h⟩,rfl⟩,List.nodup_nil,Wr.nil _⟩,by simp⟩
section
variable {w1 w w':World} {gv g ga n:Nat} {ms:List Bool} {ag:Bool}
end
abbrev Raw5:=Raw×Raw×Raw×Raw×Raw
theorem zkj {w:World} {lo hi:Nat} {a b c d e:Value} (ha:a.oneCell'=true) (hb:b.oneCell'=true) (hc:c.oneCell'=true) (hd:d.oneCell'=true) (he:e.oneCell'=true):OwnI lo hi w (.agg #[a,b,c,d,e]) ((⟨a⟩,⟨b⟩,⟨c⟩,⟨d⟩,⟨e⟩):Raw5):=by
 refine ⟨[],⟨⟨[a,b,c,d,e],?_,rfl⟩,List.nodup_nil,Wr.nil _⟩,by simp⟩
 have r:∀ {v:Value},v.oneCell'=true→rep [] w [v] (⟨v⟩:Raw):=fun h=>⟨rfl,rfl,h⟩
 exact zav (F:=[]) (r ha) (zav (F:=[]) (r hb) (zav (F:=[]) (r hc) (zav (F:=[]) (r hd) (r he))))
theorem zol {w:World} {v:Value} {p:DProg} (h:Is w v p):∃ c0 c1 c2,v=.agg #[c0,c1,c2]∧c0.oneCell'=true∧c1.oneCell'=true∧c2.oneCell'=true:=by
 obtain ⟨F,cs,hr,rfl⟩:=h
 have hone:=Rep.one hr
 obtain ⟨F1,F2,x1,x2,rfl,rfl,h1,F3,F4,x3,x4,rfl,rfl,h2,h3⟩:=hr
 have e1:∃ a,x1=[a]:=by obtain ⟨a,cap,Fi,xs,rfl,_⟩:=h1;exact ⟨_,rfl⟩
 have e2:∃ a,x3=[a]:=by obtain ⟨a,cap,Fi,xs,rfl,_⟩:=h2;exact ⟨_,rfl⟩
 have e3:∃ a,x4=[a]:=by obtain ⟨a,cap,Fi,xs,rfl,_⟩:=h3;exact ⟨_,rfl⟩
 obtain ⟨a1,rfl⟩:=e1
 obtain ⟨a2,rfl⟩:=e2
 obtain ⟨a3,rfl⟩:=e3
 exact ⟨a1,a2,a3,rfl,hone a1 (by simp),hone a2 (by simp),hone a3 (by simp)⟩
theorem zom {α:Type} [Rep α] (ha:Rep.agg α=false) {lo hi:Nat} {w:World} {v:Value} {x:α} (h:OwnI lo hi w v x):v.oneCell'=true:=by
 obtain ⟨F,⟨hm,_,_⟩,_⟩:=h
 exact Rep.one (zaV ha hm) v (by simp)
def cdQ (p:DProg) (g1:Nat) (w0:World):ParQ:=fun i u T w=>match i with
 | 0=>∃ a,u 11=.slice (some a) 0 0
 | 1=>u 12=.pointer (some ⟨g1,0+0,none⟩)
 | 2=>Is w0 (u 13) p.globals
 | 3=>OwnI (T 3).1 (T 3).2 w (u 14) p.globals
 | 4=>∃ a,u 15=.slice (some a) 0 0
 | 5=>u 16=.pointer (some ⟨g1,0+1,none⟩)
 | 6=>Is w0 (u 17) p.locks
 | 7=>OwnI (T 7).1 (T 7).2 w (u 18) p.locks
 | 8=>u 19=.agg #[u 14,u 18,.slice none 0 0,.slice none 0 0,.slice none 0 0]
 | 9=>∃ g,u 4=.pointer (some ⟨g,0,none⟩)∧(T 9).1≤g∧g<(T 9).2∧Blk g 28 w [.slice none 0 0,.slice none 0 0,.slice none 0 0,.slice none 0 0,.slice none 0 0]
 | _=>True
structure CdS (W:World) (p:DProg) (gk ge bs x2 l3 h3 l7 h7:Nat) (v14 v18 vp ve:Value) (N:List ByteArray) (E:List Int) (L:List DIns) (Fp Fe Fi:List Nat) (w:World):Prop where
 bk:Blk gk 28 w [v14,v18,vp,ve,.slice none 0 0]
 g:OwnI l3 h3 w v14 p.globals
 l:OwnI l7 h7 w v18 p.locks
 n:RowG Fp 9 w vp N
 e:RowG Fe 3 w ve E
 nn:Fp.Nodup
 en:Fe.Nodup
 em:EmF W ge p L Fi w
 x:Blk x2 28 w [.slice none 0 0,.slice none 0 0,.slice none 0 0,.slice none 0 0,.slice none 0 0]
 dpe:∀ c∈Fp,c∉Fe
 dpi:∀ c∈Fp,c∉Fi
 dei:∀ c∈Fe,c∉Fi
 bp:∀ c∈Fp,bs≤c
 be:∀ c∈Fe,bs≤c
 bi:∀ c∈Fi,bs≤c
section
variable {W:World} {p:DProg} {gk ge bs x2 l3 h3 l7 h7:Nat} {v14 v18 vp ve:Value} {N:List ByteArray} {E:List Int} {L:List DIns} {Fp Fe Fi:List Nat} {w w':World}
theorem zdt {α:Type} [Rep α] {lo hi:Nat} {v:Value} {x:α} {S:List Nat} (h:OwnI lo hi w v x) (hc:Chg S w w') (hd:∀ c∈S,c<lo∨hi≤c):OwnI lo hi w' v x:=by
 obtain ⟨F,hm,hF⟩:=h
 exact ⟨F,hm.keep fun c hcm=>hc.block c (hm.lt c hcm) fun hs=>by have:=hF c hcm;have:=hd c hs;omega,hF⟩
theorem CdS.ext (h:CdS W p gk ge bs x2 l3 h3 l7 h7 v14 v18 vp ve N E L Fp Fe Fi w) (hx:Ext w w'):CdS W p gk ge bs x2 l3 h3 l7 h7 v14 v18 vp ve N E L Fp Fe Fi w':=
 ⟨h.bk.ext hx,h.g.ext hx,h.l.ext hx,h.n.keep fun c hc=>hx.heap (h.n.lt c hc),h.e.keep fun c hc=>hx.heap (h.e.lt c hc),h.nn,h.en,h.em.ext hx,h.x.ext hx,h.dpe,h.dpi,h.dei,h.bp,h.be,h.bi⟩
variable (ho:gk<bs∧ge<bs∧gk≠ge∧x2<bs∧x2≠gk∧x2≠ge∧h3≤bs∧h7≤bs∧(gk<l3∨h3≤gk)∧(gk<l7∨h7≤gk)∧(ge<l3∨h3≤ge)∧(ge<l7∨h7≤ge)∧W.heap.size≤gk∧W.heap.size≤ge)
include ho
theorem CdS.names (h:CdS W p gk ge bs x2 l3 h3 l7 h7 v14 v18 vp ve N E L Fp Fe Fi w) {vp':Value} {N':List ByteArray} {Fp':List Nat} (hc:Chg (gk :: Fp) w w') (hB:Blk gk 28 w' [v14,v18,vp',ve,.slice none 0 0])
   (hR:RowG Fp' 9 w' vp' N') (hn:Fp'.Nodup) (hs:∀ c∈Fp',c∈Fp∨w.heap.size≤c) (hb:bs≤w.heap.size):CdS W p gk ge bs x2 l3 h3 l7 h7 v14 v18 vp' ve N' E L Fp' Fe Fi w':=by
 have hlt:=h.em.lt
 have hS:∀ c∈gk :: Fp,c=gk∨bs≤c:=fun c hc=>by
   rcases List.mem_cons.1 hc with e | hc
   · exact .inl e
   exact .inr (h.bp c hc)
 refine ⟨hB,zdt h.g hc fun c hcm=>by have:=hS c hcm;omega,zdt h.l hc fun c hcm=>by have:=hS c hcm;omega,hR,h.e.keep fun c hcm=>hc.block c (h.e.lt c hcm) fun hm=>?_,hn,h.en,h.em.keep (fun c hcm=>hc.block c ?_ fun hm=>?_) (h.em.old.chgL hc fun c hcm=>?_),h.x.chg hc fun hm=>?_,fun c hcm hce=>?_,fun c hcm hci=>?_,h.dei,fun c hcm=>?_,h.be,h.bi⟩
 · rcases List.mem_cons.1 hm with e | hm
   · have:=h.be c hcm;omega
   exact h.dpe c hm hcm
 · rcases List.mem_cons.1 hcm with rfl | hcm
   · exact hlt.1
   exact hlt.2.1 c hcm
 · rcases List.mem_cons.1 hcm with e1 | hcm
   · rcases List.mem_cons.1 hm with e | hm
     · omega
     have:=h.bp c hm;omega
   rcases List.mem_cons.1 hm with e | hm
   · have:=h.bi c hcm;omega
   exact h.dpi c hm hcm
 · rcases List.mem_cons.1 hcm with e | hcm
   · omega
   have:=h.bp c hcm;omega
 · have:=hS _ hm;omega
 · rcases hs c hcm with k | k
   · exact h.dpe c k hce
   have:=h.e.lt c hce;omega
 · rcases hs c hcm with k | k
   · exact h.dpi c k hci
   have:=hlt.2.1 c hci;omega
 rcases hs c hcm with k | k
 · exact h.bp c k
 omega
theorem CdS.ents (h:CdS W p gk ge bs x2 l3 h3 l7 h7 v14 v18 vp ve N E L Fp Fe Fi w) {ve':Value} {E':List Int} {Fe':List Nat} (hc:Chg (gk :: Fe) w w') (hB:Blk gk 28 w' [v14,v18,vp,ve',.slice none 0 0])
   (hR:RowG Fe' 3 w' ve' E') (hn:Fe'.Nodup) (hs:∀ c∈Fe',c∈Fe∨w.heap.size≤c) (hb:bs≤w.heap.size):CdS W p gk ge bs x2 l3 h3 l7 h7 v14 v18 vp ve' N E' L Fp Fe' Fi w':=by
 have hlt:=h.em.lt
 have hS:∀ c∈gk :: Fe,c=gk∨bs≤c:=fun c hc=>by
   rcases List.mem_cons.1 hc with e | hc
   · exact .inl e
   exact .inr (h.be c hc)
 refine ⟨hB,zdt h.g hc fun c hcm=>by have:=hS c hcm;omega,zdt h.l hc fun c hcm=>by have:=hS c hcm;omega,h.n.keep fun c hcm=>hc.block c (h.n.lt c hcm) fun hm=>?_,hR,h.nn,hn,h.em.keep (fun c hcm=>hc.block c ?_ fun hm=>?_) (h.em.old.chgL hc fun c hcm=>?_),h.x.chg hc fun hm=>?_,fun c hcm hce=>?_,h.dpi,fun c hcm hci=>?_,h.bp,fun c hcm=>?_,h.bi⟩
 · rcases List.mem_cons.1 hm with e | hm
   · have:=h.bp c hcm;omega
   exact h.dpe c hcm hm
 · rcases List.mem_cons.1 hcm with rfl | hcm
   · exact hlt.1
   exact hlt.2.1 c hcm
 · rcases List.mem_cons.1 hcm with e1 | hcm
   · rcases List.mem_cons.1 hm with e | hm
     · omega
     have:=h.be c hm;omega
   rcases List.mem_cons.1 hm with e | hm
   · have:=h.bi c hcm;omega
   exact h.dei c hm hcm
 · rcases List.mem_cons.1 hcm with e | hcm
   · omega
   have:=h.be c hcm;omega
 · have:=hS _ hm;omega
 · rcases hs c hce with k | k
   · exact h.dpe c hcm k
   have:=h.n.lt c hcm;omega
 · rcases hs c hcm with k | k
   · exact h.dei c k hci
   have:=hlt.2.1 c hci;omega
 rcases hs c hcm with k | k
 · exact h.be c k
 omega
theorem CdS.ems (h:CdS W p gk ge bs x2 l3 h3 l7 h7 v14 v18 vp ve N E L Fp Fe Fi w) {L':List DIns} {Fi':List Nat} (hc:Chg (ge :: Fi) w w') (hE:EmF W ge p L' Fi' w') (hs:∀ c∈Fi',c∈Fi∨w.heap.size≤c) (hb:bs≤w.heap.size) :
   CdS W p gk ge bs x2 l3 h3 l7 h7 v14 v18 vp ve N E L' Fp Fe Fi' w':=by
 have hS:∀ c∈ge :: Fi,c=ge∨bs≤c:=fun c hc=>by
   rcases List.mem_cons.1 hc with e | hc
   · exact .inl e
   exact .inr (h.bi c hc)
 refine ⟨h.bk.chg hc fun hm=>?_,zdt h.g hc fun c hcm=>by have:=hS c hcm;omega,zdt h.l hc fun c hcm=>by have:=hS c hcm;omega,h.n.keep fun c hcm=>hc.block c (h.n.lt c hcm) fun hm=>?_,h.e.keep fun c hcm=>hc.block c (h.e.lt c hcm) fun hm=>?_,h.nn,h.en,hE,h.x.chg hc fun hm=>?_,h.dpe,fun c hcm hci=>?_,fun c hcm hci=>?_,h.bp,h.be,fun c hcm=>?_⟩
 · have:=hS _ hm;omega
 · rcases List.mem_cons.1 hm with e | hm
   · have:=h.bp c hcm;omega
   exact h.dpi c hcm hm
 · rcases List.mem_cons.1 hm with e | hm
   · have:=h.be c hcm;omega
   exact h.dei c hcm hm
 · have:=hS _ hm;omega
 · rcases hs c hci with k | k
   · exact h.dpi c hcm k
   have:=h.n.lt c hcm;omega
 · rcases hs c hci with k | k
   · exact h.dei c hcm k
   have:=h.e.lt c hcm;omega
 rcases hs c hcm with k | k
 · exact h.bi c k
 omega
end
theorem zpe {G L P:List ByteArray} {l:List DProc} {k:Nat} (hk:k<l.length) (a:Nat):emP G L P (l.drop k) a=emL G L P l[k].body a++(zp5 :: emP G L P (l.drop (k+1)) (a+(emL G L P l[k].body a).length+1)):=by
 rw [List.drop_eq_getElem_cons hk,emP]
theorem zon {G L P:List ByteArray} {l:List DProc} {k:Nat} (hk:k<l.length) (a:Nat):zj9 G L P (l.drop k) a=(a:Int) :: zj9 G L P (l.drop (k+1)) (a+(emL G L P l[k].body a).length+1):=by
 rw [List.drop_eq_getElem_cons hk,zj9]
theorem zhS {α:Type} [Rep α] {e:TypeId} {F:List Nat} {w:World} {v:Value} {l:List α} (h:RowG F e w v l) (hn:F.Nodup):Mine F w v l:=⟨h.own,hn,h.wr⟩
def F96 (a0:Value) (w:World) (R:VW):Prop:=
 oP (Instr.box 112 a0) w fun x1 w=>
 oP (Instr.alloc 28 true (.tuple #[])) w fun x2 w=>
 rL 112 x1 w fun x7=>
 cL 158 [x7] w fun x8 w=>
 rB .neq 3 T0 U0 x8 (iV 0) w fun x9=>
 BR x9
 (rD (Instr.build 28 #[]) w fun x10=>
 oS 28 x2 x10 w fun w=>
 rD (zaw 28 x2) w fun r2=>R (Value.tuple #[r2,(Value.bool false)]) w)
 ((fun w0=>PAR w0 [[(0,11)],[(1,12)],[(2,13),(1,12)],[(3,14),(0,11),(2,13)],[(4,15)],[(5,16)],[(6,17),(5,16)],[(7,18),(4,15),(6,17),(3,14)],[(8,19),(3,14),(7,18)],[(9,4)]] (fun Q=>
 (∀ (u3:Env) (T:Nat→Nat×Nat) (w:World),Ext w0 w→zaA [] w0.heap.size w.heap.size T→(True)→(fun w1=>oP (Instr.buildSlice 24 0 #[]) w fun x11 w=>
 Ext w1 w∧Q 0 (upd u3 11 x11) (zbv T 0 (w1.heap.size,w.heap.size)) w) w) ∧
 (∀ (u3:Env) (T:Nat→Nat×Nat) (w:World),Ext w0 w→zaA [] w0.heap.size w.heap.size T→(True)→(fun w1=>rF 112 x1 0 w fun x12=>
 Ext w1 w∧Q 1 (upd u3 12 x12) (zbv T 1 (w1.heap.size,w.heap.size)) w) w) ∧
 (∀ (u3:Env) (T:Nat→Nat×Nat) (w:World),Ext w0 w→zaA [1] w0.heap.size w.heap.size T→(Q 1 u3 T w∧True)→(fun w1=>rL 24 (u3 12) w fun x13=>
 Ext w1 w∧Q 2 (upd u3 13 x13) (zbv T 2 (w1.heap.size,w.heap.size)) w) w) ∧
 (∀ (u3:Env) (T:Nat→Nat×Nat) (w:World),Ext w0 w→zaA [0,2] w0.heap.size w.heap.size T→(Q 0 u3 T w∧Q 2 u3 T w∧True)→(fun w1=>oP (Builtin.append_ #[24,24] 24 [(u3 11),(u3 13)].toArray) w fun x14 w=>
 Ext w1 w∧Q 3 (upd u3 14 x14) (zbv T 3 (w1.heap.size,w.heap.size)) w) w) ∧
 (∀ (u3:Env) (T:Nat→Nat×Nat) (w:World),Ext w0 w→zaA [] w0.heap.size w.heap.size T→(True)→(fun w1=>oP (Instr.buildSlice 24 0 #[]) w fun x15 w=>
 Ext w1 w∧Q 4 (upd u3 15 x15) (zbv T 4 (w1.heap.size,w.heap.size)) w) w) ∧
 (∀ (u3:Env) (T:Nat→Nat×Nat) (w:World),Ext w0 w→zaA [] w0.heap.size w.heap.size T→(True)→(fun w1=>rF 112 x1 1 w fun x16=>
 Ext w1 w∧Q 5 (upd u3 16 x16) (zbv T 5 (w1.heap.size,w.heap.size)) w) w) ∧
 (∀ (u3:Env) (T:Nat→Nat×Nat) (w:World),Ext w0 w→zaA [5] w0.heap.size w.heap.size T→(Q 5 u3 T w∧True)→(fun w1=>rL 24 (u3 16) w fun x17=>
 Ext w1 w∧Q 6 (upd u3 17 x17) (zbv T 6 (w1.heap.size,w.heap.size)) w) w) ∧
 (∀ (u3:Env) (T:Nat→Nat×Nat) (w:World),Ext w0 w→zaA [4,6,3] w0.heap.size w.heap.size T→(Q 4 u3 T w∧Q 6 u3 T w∧Q 3 u3 T w∧True)→(fun w1=>oP (Builtin.append_ #[24,24] 24 [(u3 15),(u3 17)].toArray) w fun x18 w=>
 Ext w1 w∧Q 7 (upd u3 18 x18) (zbv T 7 (w1.heap.size,w.heap.size)) w) w) ∧
 (∀ (u3:Env) (T:Nat→Nat×Nat) (w:World),Ext w0 w→zaA [3,7] w0.heap.size w.heap.size T→(Q 3 u3 T w∧Q 7 u3 T w∧True)→(fun w1=>rD (Instr.build 28 #[(0,(u3 14)),(1,(u3 18))]) w fun x19=>
 Ext w1 w∧Q 8 (upd u3 19 x19) (zbv T 8 (w1.heap.size,w.heap.size)) w) w) ∧
 (∀ (u3:Env) (T:Nat→Nat×Nat) (w:World),Ext w0 w→zaA [] w0.heap.size w.heap.size T→(True)→(fun w1=>oP (Instr.alloc 28 true (.tuple #[])) w fun x4 w=>
 Ext w1 w∧Q 9 (upd u3 4 x4) (zbv T 9 (w1.heap.size,w.heap.size)) w) w) ∧
 True)
 (fun Q=>∀ (u3:Env) (T:Nat→Nat×Nat) (w:World),Ext w0 w→zaA [0,1,2,3,4,5,6,7,8,9] w0.heap.size w.heap.size T→(Q 0 u3 T w∧Q 1 u3 T w∧Q 2 u3 T w∧Q 3 u3 T w∧Q 4 u3 T w∧Q 5 u3 T w∧Q 6 u3 T w∧Q 7 u3 T w∧Q 8 u3 T w∧Q 9 u3 T w∧True) →
 oS 28 (u3 4) (u3 19) w fun w=>
 rL 112 x1 w fun x20=>
 rD (Instr.build 169 #[(0,x20)]) w fun x21=>
 oP (Instr.box 169 x21) w fun x22 w=>
 LOOPI [6] [(iV 0)] w fun u6 w next6=>
 rF 112 x1 2 w fun x24=>
 rL 110 x24 w fun x25=>
 rN 110 3 x25 w fun x26=>
 rC (u6 6) x26 w fun x27=>
 BR x27
 ((fun w=>rF 28 (u3 4) 2 w fun x30=>
 rL 24 x30 w fun x31=>
 rF 112 x1 2 w fun x32=>
 rL 110 x32 w fun x33=>
 rX 110 x33 (u6 6) w fun x35=>
 rF 164 x35 0 w fun x36=>
 rL 9 x36 w fun x37=>
 (fun w_=>oP (Instr.buildSlice 24 1 #[(0,x37)]) w_ fun x38 w=>
 Ext w_ w ∧
 (oP (Builtin.append_ #[24,24] 24 [x31,x38].toArray) w fun x39 w=>
 rF 28 (u3 4) 2 w fun x40=>
 oS 24 x40 x39 w fun w=>
 (fun w=>rF 28 (u3 4) 3 w fun x41=>
 rL 25 x41 w fun x42=>
 NIL x22 <|
 rF 169 x22 1 w fun x45=>
 rL 26 x45 w fun x46=>
 rN 26 3 x46 w fun x47=>
 (fun w_=>oP (Instr.buildSlice 25 1 #[(0,x47)]) w_ fun x48 w=>
 Ext w_ w ∧
 (oP (Builtin.append_ #[25,25] 25 [x42,x48].toArray) w fun x49 w=>
 rF 28 (u3 4) 3 w fun x50=>
 oS 25 x50 x49 w fun w=>
 rF 112 x1 2 w fun x52=>
 rL 110 x52 w fun x53=>
 rX 110 x53 (u6 6) w fun x55=>
 rF 164 x55 1 w fun x56=>
 rL 162 x56 w fun x57=>
 cL 159 [x22,x57] w fun x58 w=>
 rD (Instr.build 77 #[(0,(iV 9))]) w fun x60=>
 cL 160 [x22,x60] w fun x61 w=>
 rA (u6 6) (iV 1) w fun x29=>
 next6 [x29] w)) w) (World.drew1 w))) w) (World.drew1 w))
 (NIL x22 <|
 rF 169 x22 1 w fun x64=>
 rL 26 x64 w fun x65=>
 rF 28 (u3 4) 4 w fun x66=>
 oS 26 x66 x65 w fun w=>
 rL 28 (u3 4) w fun x67=>
 oS 28 x2 x67 w fun w=>
 rD (zaw 28 x2) w fun r2=>R (Value.tuple #[r2,(Value.bool true)]) w))) (World.drew1 w))
def cfg96:Cfg:=⟨extL,[],[(6,4611686018418999360,[6])],[(8,[0,1,2,3,4,5,6,7,8,9,10,11],256),(9,[0,1,2,3,4,5,6,7,8,9,10],128)],[(3,1046544,10)],[],[]⟩
theorem F96_call {a0:Value} {w:World} {R:VW} (h:F96 a0 w R):cL 96 [a0] w R:=co (g:=cfg96) Tryz.func96 (by kernel_rfl) (by kernel_rfl) (by kernel_rfl) h
open Rep (rep)
theorem zjt {w W:World} {v:Value} {p:DProg} (h:Is W v p) (e:Ext W w) (hp:ProgR p) :
   CALL Tryz.prog 96 [v] w fun r w'=>Ext w w'∧∃ a,r=.tuple #[a,.bool true]∧OwnI w.heap.size w'.heap.size w' a (zcb p):=by
 have hcl:=(zis hp).2
 obtain ⟨f1,f2,f3,f4⟩:=hp.facts
 refine F96_call ?_
 unfold F96
 refine zbR h e fun w1 hx1 hA=>?_
 have hs1:=hx1.size
 refine za6 zpT fun w2 hx2 hB2=>?_
 have hs2:=hx2.size
 have hg2:=hB2.lt
 refine zab zeD hA hx2 fun v7 h7=>?_
 refine (zke h7 hx2 hp).mono ?_
 rintro _ w3 ⟨hx3,rfl⟩
 have hs3:=hx3.size
 refine zaY ?_
 refine br (fun hc=>absurd rfl hc) (fun _=>?_)
 have hx13:=hx2.trans hx3
 have hx4:=zah w3
 have hs4:=hx4.size
 generalize World.drew1 w3=w4 at *
 have hx14:=hx13.trans hx4
 have hg1:w.heap.size<w1.heap.size:=by
   obtain ⟨F,cs,hr,hr2⟩:=hA
   exact zgc hr2 (by rw [Rep.len hr];decide)
 refine PAR.mk (cdQ p w.heap.size w4) ?_ ?_ ?_
 · intro i u u' T T' wa wb hxa hxb hd hq
   match i,hd,hq with
   | 0,hd,⟨a,hq⟩=>exact ⟨a,(hd (0,11) (by decide)).1.trans hq⟩
   | 1,hd,hq=>exact (hd (1,12) (by decide)).1.trans hq
   | 2,hd,hq=>have:=(hd (2,13) (by decide)).1;show Is _ (u' 13) _;simp only [this];exact hq
   | 3,hd,hq=>
     obtain ⟨e1,e2⟩:=hd (3,14) (by decide)
     simp only at e1 e2
     show OwnI (T' 3).1 (T' 3).2 wb (u' 14) p.globals
     rw [e1,e2];exact OwnI.ext hq hxb
   | 4,hd,⟨a,hq⟩=>exact ⟨a,(hd (4,15) (by decide)).1.trans hq⟩
   | 5,hd,hq=>exact (hd (5,16) (by decide)).1.trans hq
   | 6,hd,hq=>have:=(hd (6,17) (by decide)).1;show Is _ (u' 17) _;simp only [this];exact hq
   | 7,hd,hq=>
     obtain ⟨e1,e2⟩:=hd (7,18) (by decide)
     simp only at e1 e2
     show OwnI (T' 7).1 (T' 7).2 wb (u' 18) p.locks
     rw [e1,e2];exact OwnI.ext hq hxb
   | 8,hd,hq=>
     have e1:=(hd (8,19) (by decide)).1
     have e2:=(hd (3,14) (by decide)).1
     have e3:=(hd (7,18) (by decide)).1
     simp only at e1 e2 e3
     show u' 19=.agg #[u' 14,u' 18,.slice none 0 0,.slice none 0 0,.slice none 0 0]
     rw [e1,e2,e3];exact hq
   | 9,hd,⟨g,q1,q2,q3,q4⟩=>
     obtain ⟨e1,e2⟩:=hd (9,4) (by decide)
     simp only at e1 e2
     exact ⟨g,e1.trans q1,by rw [e2];exact q2,by rw [e2];exact q3,q4.ext hxb⟩
   | n+10,_,_=>trivial
 · refine ⟨fun u T w' hx _ _=>?_,fun u T w' hx _ _=>?_,fun u T w' hx _ hp'=>?_,fun u T w' hx _ hp'=>?_,fun u T w' hx _ _=>?_,fun u T w' hx _ _=>?_,fun u T w' hx _ hp'=>?_,fun u T w' hx _ hp'=>?_,fun u T w' hx _ hp'=>?_,fun u T w' hx _ _=>?_,trivial⟩
   · exact zbq (α:=ByteArray) u24 ty9 fun a w5 hx5 _=>⟨hx5,a,rfl⟩
   · exact zaa zgf ⟨Ext.refl _,rfl⟩
   · have q0:u 12=_:=hp'.1
     rw [q0]
     exact zab zcJ (zd0 hA) (hx14.trans hx) fun v6 h6=>⟨Ext.refl _,h6.ext hx14⟩
   · obtain ⟨a,q0⟩:∃ a,u 11=.slice (some a) 0 0:=hp'.1
     have q1:Is _ (u 13) p.globals:=hp'.2.1
     rw [q0]
     exact zds (α:=ByteArray) u24 ty9 zc9 q1 hx (by rw [hp.g,zak];decide) (by rw [hp.g];decide) fun v5 w5 hx5 r5=>⟨hx5,r5.own⟩
   · exact zbq (α:=ByteArray) u24 ty9 fun a w5 hx5 _=>⟨hx5,a,rfl⟩
   · exact zaa zhm ⟨Ext.refl _,rfl⟩
   · have q0:u 16=_:=hp'.1
     rw [q0]
     exact zab zcJ (zeV hA) (hx14.trans hx) fun v6 h6=>⟨Ext.refl _,h6.ext hx14⟩
   · obtain ⟨a,q0⟩:∃ a,u 15=.slice (some a) 0 0:=hp'.1
     have q1:Is _ (u 17) p.locks:=hp'.2.1
     rw [q0]
     exact zds (α:=ByteArray) u24 ty9 zc9 q1 hx (by rw [hp.l,zak];decide) (by rw [hp.l];decide) fun v5 w5 hx5 r5=>⟨hx5,r5.own⟩
   · have o1:OwnI _ _ _ (u 14) p.globals:=hp'.1
     have o2:OwnI _ _ _ (u 18) p.locks:=hp'.2.1
     obtain ⟨a,n,cap,q1⟩:=zbX o1
     obtain ⟨a',n',cap',q1'⟩:=zbX o2
     rw [q1,q1']
     refine zaR (cells:=#[.slice a n cap,.slice a' n' cap',.slice none 0 0,.slice none 0 0,.slice none 0 0]) (by kernel_rfl) ⟨Ext.refl _,?_⟩
     show _=Value.agg #[u 14,u 18,.slice none 0 0,.slice none 0 0,.slice none 0 0]
     rw [q1,q1'];rfl
   exact za6 zpT fun w5 hx5 hB=>⟨hx5,w'.heap.size,rfl,Nat.le_refl _,hB.lt,hB⟩
 rintro u T w5 hx5 hap ⟨-,-,-,o14,-,-,-,o18,q19,⟨gk,q4,hgk0,hgk1,hB5⟩,-⟩
 have o14:OwnI (T 3).1 (T 3).2 w5 (u 14) p.globals:=o14
 have o18:OwnI (T 7).1 (T 7).2 w5 (u 18) p.locks:=o18
 have q19:u 19=.agg #[u 14,u 18,.slice none 0 0,.slice none 0 0,.slice none 0 0]:=q19
 have t3:=hap.1 3 (by decide)
 have t7:=hap.1 7 (by decide)
 have t9:=hap.1 9 (by decide)
 have d37:=hap.2 3 (by decide) 7 (by decide) (by decide)
 have d39:=hap.2 3 (by decide) 9 (by decide) (by decide)
 have d79:=hap.2 7 (by decide) 9 (by decide) (by decide)
 have hs5:=hx5.size
 obtain ⟨l3,hl3⟩:∃ x,(T 3).1=x:=⟨_,rfl⟩
 obtain ⟨h3,hh3⟩:∃ x,(T 3).2=x:=⟨_,rfl⟩
 obtain ⟨l7,hl7⟩:∃ x,(T 7).1=x:=⟨_,rfl⟩
 obtain ⟨h7,hh7⟩:∃ x,(T 7).2=x:=⟨_,rfl⟩
 rw [hl3,hh3] at o14 t3 d37 d39
 rw [hl7,hh7] at o18 t7 d37 d79
 generalize u 14=v14 at *
 generalize u 18=v18 at *
 rw [q19,q4]
 have one14:=zom rfl o14
 have one18:=zom rfl o18
 refine za7 (α:=Raw5) (x:=(⟨v14⟩,⟨v18⟩,⟨.slice none 0 0⟩,⟨.slice none 0 0⟩,⟨.slice none 0 0⟩)) (lo:=0) (hi:=0) zcx rfl hB5 rfl (zkj one14 one18 rfl rfl rfl) fun w6 hc6 hB6=>?_
 have hs6:=hc6.size
 have hx16:Ext w1 w6:=Ext.chgI (hx14.trans hx5) hc6 (by omega)
 refine zab zeD hA hx16 fun v20 h20=>?_
 obtain ⟨c0,c1,c2,rfl,one0,one1,one2⟩:=zol h20
 refine zaR (cells:=#[c0,c1,c2,.slice none 0 0]) (by kernel_rfl) ?_
 refine zlb fun w7 hx7 hB7=>?_
 have hs7:=hx7.size
 have hg7:=hB7.lt
 have hE7:EmF w1 w6.heap.size p [] [] w7:=by
   refine ⟨c0,c1,c2,.slice none 0 0,h20,⟨[c0,c1,c2,.slice none 0 0],?_,hB7.range,List.nodup_nil,Wr.nil _,by simp,_,_,hB7⟩,hx16.trans hx7,by omega,by simp⟩
   have r:∀ {v:Value},v.oneCell'=true→rep [] w7 [v] (⟨v⟩:Raw):=fun h=>⟨rfl,rfl,h⟩
   exact zav (F:=[]) (r one0) (zav (F:=[]) (r one1) (zav (F:=[]) (r one2) (show rep [] w7 [Value.slice none 0 0] (⟨.slice none 0 0,[]⟩:RIns) from ⟨rfl,.inl ⟨none,rfl,rfl,rfl⟩⟩)))
 have hord:gk<w7.heap.size∧w6.heap.size<w7.heap.size∧gk≠w6.heap.size∧w1.heap.size<w7.heap.size∧w1.heap.size≠gk∧w1.heap.size≠w6.heap.size∧h3≤w7.heap.size∧h7≤w7.heap.size∧(gk<l3∨h3≤gk)∧(gk<l7∨h7≤gk) ∧
     (w6.heap.size<l3∨h3≤w6.heap.size)∧(w6.heap.size<l7∨h7≤w6.heap.size)∧w1.heap.size≤gk∧w1.heap.size≤w6.heap.size:=by omega
 have hS7:CdS w1 p gk w6.heap.size w7.heap.size w1.heap.size l3 h3 l7 h7 v14 v18 (.slice none 0 0) (.slice none 0 0) [] [] [] [] [] [] w7:=
   ⟨hB6.ext hx7,(o14.chg hc6 (by omega)).ext hx7,(o18.chg hc6 (by omega)).ext hx7,.inl ⟨none,rfl,rfl,rfl⟩,.inl ⟨none,rfl,rfl,rfl⟩,List.nodup_nil,List.nodup_nil,hE7,((((hB2.ext hx3).ext hx4).ext hx5).chgI hc6 (by omega)).ext hx7,by simp,by simp,by simp,by simp,by simp,by simp⟩
 generalize hge:w6.heap.size=ge at *
 generalize hbs:w7.heap.size=bs at *
 obtain ⟨G,hG⟩:∃ G,G=p.globals:=⟨_,rfl⟩
 obtain ⟨Lk,hLk⟩:∃ G,G=p.locks:=⟨_,rfl⟩
 obtain ⟨Pn,hPn⟩:∃ G,G=p.procs.map DProc.name:=⟨_,rfl⟩
 have hcd:zcb p=⟨G,Lk,Pn,zj9 G Lk Pn p.procs 0,emP G Lk Pn p.procs 0⟩:=by rw [hG,hLk,hPn];rfl
 refine zaF p.procs.length (fun k us w'=>us=[.int .i64 (k:Int)]∧∃ vp ve E L Fp Fe Fi,k≤p.procs.length∧E.length=k∧CdS w1 p gk ge bs w1.heap.size l3 h3 l7 h7 v14 v18 vp ve ((p.procs.take k).map DProc.name) E L Fp Fe Fi w'∧bs≤w'.heap.size ∧
     zj9 G Lk Pn p.procs 0=E++zj9 G Lk Pn (p.procs.drop k) L.length∧emP G Lk Pn p.procs 0=L++emP G Lk Pn (p.procs.drop k) L.length) 0 (Nat.zero_le _)
     ⟨rfl,_,_,[],[],[],[],[],Nat.zero_le _,rfl,by simpa using hS7,by omega,by simp,by simp⟩ ?_
 rintro k m uu w8 hkm ⟨hu,vp,ve,E,L,Fp,Fe,Fi,hkl,hEl,hS8,hb8,hent,hem⟩
 simp only [List.map_cons,List.map_nil,List.cons.injEq,and_true] at hu
 rw [hu]
 have hx18:=hS8.em.old
 refine zaa zcu ?_
 refine zab zfm (zbo hA) hx18 fun v25 h25=>?_
 refine zae zlO h25 ?_
 refine zai ?_
 have hLl:L.length≤436:=by
   have h1:=congrArg List.length hem
   have h2:(zcb p).ins.length=(emP G Lk Pn p.procs 0).length:=by rw [hcd]
   rw [List.length_append] at h1
   omega
 refine br (fun hlt=>?_) (fun hge'=>?_)
 · have hk:k<p.procs.length:=by omega
   have hbody:=hp.b _ (List.getElem_mem hk)
   rw [zon hk] at hent
   rw [zpe hk] at hem
   have hx9:=zah w8
   have hS9:=hS8.ext hx9
   have hs9:=hx9.size
   generalize World.drew1 w8=w9 at *
   have hx19:=hx18.trans hx9
   refine zaa zdg ?_
   refine zb9 zcJ hS9.bk rfl ?_
   refine zaa zcu ?_
   refine zab zfm (zbo hA) hx19 fun v33 h33=>?_
   refine zad zlO zjP h33 hk fun b35 o35 hA35=>?_
   refine zaa ziZ ?_
   refine zam ty9 (zeU hA35) hx19 fun hS37=>?_
   have hnl:((p.procs.take k).map DProc.name).length=k:=by rw [List.length_map,List.length_take];omega
   refine zdn (β:=ByteArray) (G:=Fp) u24 ty9 z9 zc9 (by decide) hS9.n hS9.nn (zlZ hS37) (by simp) (by rw [zak,hnl];omega) (by rw [hnl];omega) (fun w10 v39 w11 Fp' hx10 hc11 hR11 hN11 hs11=>?_) fun s' w' hx' h'=>⟨hx',h'⟩
   have hs10:=hx10.size
   have hs11':=hc11.size
   have hgkF:gk∉Fp:=fun hm=>by have:=hS9.bp _ hm;omega
   have hB11:=(hS9.bk.ext hx10).chg hc11 hgkF
   refine zaa zdg ?_
   refine zcp (α:=Raw) (lo:=0) (hi:=0) zcJ rfl rfl hB11 (by simp) (zjs hR11.one) fun w12 hc12 hB12=>?_
   have hs12:=hc12.size
   have hgkF':gk∉Fp':=fun hm=>by
     rcases hs11 _ hm with h | h | h
     · exact hgkF h
     · simp at h
     omega
   have hS12:=hS9.names hord (vp':=v39) (N':=(p.procs.take (k+1)).map DProc.name) (Fp':=Fp') (w':=w12) ((((hx10.chg Fp).trans hc11).mono (by simp +contextual)).trans (hc12.toC.mono (by simp))) hB12
     (by rw [List.take_succ_eq_append_getElem hk,List.map_append];exact hR11.keep fun c hc=>hc12.block c (hR11.lt c hc) (by have:c≠gk:=fun e=>hgkF' (e▸hc);omega)) hN11 (fun c hc=>by
       rcases hs11 c hc with h | h | h
       · exact .inl h
       · simp at h
       exact .inr h) (by omega)
   have hx13:=zah w12
   have hS13:=hS12.ext hx13
   have hs13:=hx13.size
   generalize World.drew1 w12=w13 at *
   have hx113:=hS13.em.old
   refine zaa zbe ?_
   refine zb9 zaJ hS13.bk rfl ?_
   refine NIL.mk rfl ?_
   obtain ⟨d0,d1,d2,rv,hd1,hd2,hd3,hd4,hd5⟩:=hS13.em
   refine zaa zfn ?_
   refine zab (α:=RIns) zeX (zji hd2.at) (Ext.refl _) fun v46 k46=>?_
   obtain ⟨q46,h46⟩:=zh4 k46
   have q46:v46=rv:=q46
   have h46:Is w13 rv L:=h46
   rw [q46]
   refine zae u26 h46 ?_
   refine zdn (β:=Int) (G:=Fe) (x:=(L.length:Int)) u25 ty3 z3 zc3 (by decide) hS13.e hS13.en (zbT (by unfold I64;omega)) (by simp) (by rw [zak,hEl];omega) (by rw [hEl];omega) (fun w14 v49 w15 Fe' hx14' hc15 hR15 hN15 hs15=>?_) fun s' w' hx' h'=>⟨hx',h'⟩
   have hs14:=hx14'.size
   have hs15':=hc15.size
   have hgkE:gk∉Fe:=fun hm=>by have:=hS13.be _ hm;omega
   have hB15:=(hS13.bk.ext hx14').chg hc15 hgkE
   refine zaa zbe ?_
   refine zcp (α:=Raw) (lo:=0) (hi:=0) zaJ rfl rfl hB15 (by simp) (zjs hR15.one) fun w16 hc16 hB16=>?_
   have hs16:=hc16.size
   have hgkE':gk∉Fe':=fun hm=>by
     rcases hs15 _ hm with h | h | h
     · exact hgkE h
     · simp at h
     omega
   have hS16:=hS13.ents hord (ve':=v49) (E':=E++[(L.length:Int)]) (Fe':=Fe') (w':=w16) ((((hx14'.chg Fe).trans hc15).mono (by simp +contextual)).trans (hc16.toC.mono (by simp))) hB16
     (hR15.keep fun c hc=>hc16.block c (hR15.lt c hc) (by have:c≠gk:=fun e=>hgkE' (e▸hc);omega)) hN15 (fun c hc=>by
       rcases hs15 c hc with h | h | h
       · exact .inl h
       · simp at h
       exact .inr h) (by omega)
   have hx116:=hS16.em.old
   refine zaa zcu ?_
   refine zab zfm (zbo hA) hx116 fun v53 h53=>?_
   refine zad zlO zjP h53 hk fun b55 o55 hA55=>?_
   refine zaa zkY ?_
   refine zab zcB (zge hA55) hx116 fun v57 h57=>?_
   have hbl:=zgz G Lk Pn (p.procs[k]).body L.length
   refine (zhM _ 2 _ hS16.em h57 hbody.1 (by have:=hbody.2;omega)).mono ?_
   rintro r58 w17 ⟨hc17,Fi',hE17,hF17⟩
   have hs17:=hc17.size
   rw [←hG,←hLk,←hPn] at hE17
   have hS17:=hS16.ems hord hc17 hE17 hF17 (by omega)
   obtain ⟨z1,z2,z3,z4,z5⟩:=hE17.lt
   refine zhL (lo:=w17.heap.size) (hi:=w17.heap.size) (by unfold I64;omega) fun v60 o60=>?_
   refine (zfX hE17 o60 z1 z2 (Nat.le_refl _) (by have:=hbody.2;rw [List.length_append];omega)).mono ?_
   rintro r61 w18 ⟨-,hc18,Fi'',hE18,hF18⟩
   have hs18:=hc18.size
   have hS18:=hS17.ems hord hc18 hE18 hF18 (by omega)
   refine zal (by omega) ?_
   refine ⟨m-1,by omega,k+1,by omega,rfl,_,_,_,_,_,_,_,by omega,by simp [hEl],hS18,by omega,?_,?_⟩
   · rw [hent];simp [Nat.add_assoc]
   rw [hem];simp [Nat.add_assoc,zp5]
 have hk:k=p.procs.length:=by omega
 subst hk
 rw [List.drop_length,zj9,List.append_nil] at hent
 rw [List.drop_length,emP,List.append_nil] at hem
 rw [List.take_length] at hS8
 refine NIL.mk rfl ?_
 obtain ⟨d0,d1,d2,rv,hd1,hd2,hd3,hd4,hd5⟩:=hS8.em
 refine zaa zfn ?_
 refine zab (α:=RIns) zeX (zji hd2.at) (Ext.refl _) fun v65 k65=>?_
 obtain ⟨q65,-⟩:=zh4 k65
 have q65:v65=rv:=q65
 rw [q65]
 obtain ⟨Gi,hLi⟩:=zgy (Lens.var hd2)
 obtain ⟨cs1,⟨rfl,hrow⟩,hr1,hnG,_,hg1,_⟩:=hLi.here
 have hrow:RowG Gi 77 w8 rv L:=hrow
 have hGi:∀ c∈Gi,c∈Fi:=fun c hc=>by
   rcases List.mem_cons.1 (hLi.sub c (by simp [hc])) with e | h
   · exact absurd (e▸hc) hg1
   exact h
 refine zaa zbL ?_
 refine zcp (α:=Raw) (lo:=0) (hi:=0) zeX rfl rfl hS8.bk (by simp) (zjs hrow.one) fun w9 hc9 hB9=>?_
 have hs9:=hc9.size
 refine zdb hB9 zcx ?_
 have hx9:=hS8.x.chgI hc9 (by omega)
 refine za7 (α:=Raw5) (x:=(⟨v14⟩,⟨v18⟩,⟨vp⟩,⟨ve⟩,⟨rv⟩)) (lo:=0) (hi:=0) zcx rfl hx9 rfl (zkj one14 one18 hS8.n.one hS8.e.one hrow.one) fun w10 hc10 hB10=>?_
 have hs10:=hc10.size
 refine zdc hB10 zcx ?_
 have hxf:Ext w w10:=Ext.chgI (Ext.chgI (hx1.trans hx18) hc9 (by omega)) hc10 (by omega)
 refine ⟨hxf,_,rfl,?_⟩
 obtain ⟨F3,M3,B3⟩:=(hS8.g.chg hc9 (by omega)).chg hc10 (by omega)
 obtain ⟨F7,M7,B7⟩:=(hS8.l.chg hc9 (by omega)).chg hc10 (by omega)
 have keep:∀ c,bs≤c→c<w8.heap.size→w10.heap[c]?=w8.heap[c]?:=fun c h1 h2=>(hc10.block c (by omega) (by omega)).trans (hc9.block c h2 (by omega))
 have Mp:=zhS (hS8.n.keep fun c hc=>keep c (hS8.bp c hc) (hS8.n.lt c hc)) hS8.nn
 have Me:=zhS (hS8.e.keep fun c hc=>keep c (hS8.be c hc) (hS8.e.lt c hc)) hS8.en
 have Mi:=zhS (hrow.keep fun c hc=>keep c (hS8.bi c (hGi c hc)) (hrow.lt c hc)) hnG
 rw [hcd,hent,hem,hG,hLk,hPn]
 refine ⟨F3++(F7++(Fp++(Fe++Gi))),⟨⟨[v14,v18,vp,ve,rv],zav (zaV rfl M3.own) (zav (zaV rfl M7.own) (zav (zaV rfl Mp.own) (zav (zaV rfl Me.own) (zaV rfl Mi.own)))),rfl⟩,?_,M3.wr.append (M7.wr.append (Mp.wr.append (Me.wr.append Mi.wr)))⟩,fun c hc=>?_⟩
 · simp only [List.nodup_append,List.mem_append]
   refine ⟨M3.nodup,⟨M7.nodup,⟨hS8.nn,⟨hS8.en,hnG,fun a ha b hb e=>?_⟩,fun a ha b hb e=>?_⟩,fun a ha b hb e=>?_⟩,fun a ha b hb e=>?_⟩
   · exact hS8.dei a ha (hGi a (e▸hb))
   · subst e
     rcases hb with h | h
     · exact hS8.dpe a ha h
     exact hS8.dpi a ha (hGi a h)
   · subst e
     have:=B7 a ha
     rcases hb with h | h | h
     · have:=hS8.bp a h;omega
     · have:=hS8.be a h;omega
     have:=hS8.bi a (hGi a h);omega
   subst e
   have:=B3 a ha
   rcases hb with h | h | h | h
   · have:=B7 a h;omega
   · have:=hS8.bp a h;omega
   · have:=hS8.be a h;omega
   have:=hS8.bi a (hGi a h);omega
 simp only [List.mem_append] at hc
 rcases hc with h | h | h | h | h
 · have:=B3 c h;omega
 · have:=B7 c h;omega
 · have:=hS8.bp c h;have:=hS8.n.lt c h;omega
 · have:=hS8.be c h;have:=hS8.e.lt c h;omega
 have:=hS8.bi c (hGi c h);have:=hrow.lt c h;omega
def F69 (a0:Value) (w:World) (R:VW):Prop:=
 rN 22 3 a0 w fun x6=>
 rB .add 3 U0 T0 (iV 94701) x6 w fun x7=>
 LOOPI [3,4] [x7,(iV 0)] w fun u3 w next3=>
 rN 22 3 a0 w fun x10=>
 rC (u3 4) x10 w fun x11=>
 BR x11
 (rB .lss 3 T0 U0 (u3 4) (iV 4000) w fun x14=>
 BR x14
 (rB .mul 3 T0 U0 (u3 3) (iV 131) w fun x19=>
 rX 22 a0 (u3 4) w fun x22=>
 rL 5 x22 w fun x23=>
 rD (convert 5 3 x23) w fun x24=>
 rB .add 3 T0 T0 x19 x24 w fun x25=>
 rA x25 (iV 7) w fun x26=>
 rB .and 3 T0 U0 x26 (iV 1073741823) w fun x27=>
 rA (u3 4) (iV 1) w fun x17=>
 next3 [x27,x17] w)
 (rD (Instr.build 144 #[(0,a0),(2,(u3 3))]) w fun x30=>
 oP (Instr.box 144 x30) w fun x31 w=>
 R x31 w))
 (rD (Instr.build 144 #[(0,a0),(2,(u3 3))]) w fun x30=>
 oP (Instr.box 144 x30) w fun x31 w=>
 R x31 w)
def cfg69:Cfg:=⟨extL,[],[(3,268435224,[3,4])],[],[],[],[]⟩
theorem F69_call {a0:Value} {w:World} {R:VW} (h:F69 a0 w R):cL 69 [a0] w R:=co (g:=cfg69) Tryz.func69 (by kernel_rfl) (by kernel_rfl) (by kernel_rfl) h
def F68 (a0:Value) (w:World) (R:VW):Prop:=
 oP (Instr.alloc 28 true (.tuple #[])) w fun x2 w=>
 cL 129 [a0] w fun x9 w=>
 cL 96 [x9] w fun x10 w=>
 rE x10 0 w fun x11=>
 rE x10 1 w fun x12=>
 oP (Instr.alloc 28 true (.tuple #[])) w fun x3 w=>
 oS 28 x3 x11 w fun w=>
 rD (Op.unary .not x12) w fun x14=>
 BR x14
 (cL 94 [(Value.string (ByteArray.mk #[103,108,111,98,97,108,115,32,120,59,32,108,111,99,107,115,32,97,59,32,112,114,111,99,32,109,97,105,110,32,123,32,108,111,99,107,32,97,59,32,120,32,61,32,49,59,32,117,110,108,111,99,107,32,97,59,32,115,112,97,119,110,32,112,59,32,125,32,112,114,111,99,32,112,32,123,32,120,32,61,32,50,59,32,125]))] w fun x16 w=>
 rE x16 0 w fun x17=>
 rE x16 1 w fun x18=>
 oP (Instr.alloc 112 true (.tuple #[])) w fun x5 w=>
 oP (Instr.alloc 114 true (.tuple #[])) w fun x6 w=>
 oS 112 x5 x17 w fun w=>
 oS 114 x6 x18 w fun w=>
 rL 112 x5 w fun x20=>
 cL 96 [x20] w fun x21 w=>
 rE x21 0 w fun x22=>
 rE x21 1 w fun x23=>
 oS 28 x3 x22 w fun w=>
 rL 28 x3 w fun x24=>
 oS 28 x2 x24 w fun w=>
 rD (zaw 28 x2) w fun r2=>R r2 w)
 (rL 28 x3 w fun x24=>
 oS 28 x2 x24 w fun w=>
 rD (zaw 28 x2) w fun r2=>R r2 w)
def cfg68:Cfg:=⟨extL,[],[],[],[],[],[]⟩
theorem F68_call {a0:Value} {w:World} {R:VW} (h:F68 a0 w R):cL 68 [a0] w R:=co (g:=cfg68) Tryz.func68 (by kernel_rfl) (by kernel_rfl) (by kernel_rfl) h
def F10 (a0:Value) (w:World) (R:VW):Prop:=
 oP (Instr.alloc 28 true (.tuple #[])) w fun x2 w=>
 cL 69 [a0] w fun x4 w=>
 cL 68 [x4] w fun x5 w=>
 oS 28 x2 x5 w fun w=>
 rD (zaw 28 x2) w fun r2=>R r2 w
def cfg10:Cfg:=⟨extL,[],[],[],[],[],[]⟩
theorem F10_call {a0:Value} {w:World} {R:VW} (h:F10 a0 w R):cL 10 [a0] w R:=co (g:=cfg10) Tryz.func10 (by kernel_rfl) (by kernel_rfl) (by kernel_rfl) h
def F27 (a0:Value) (w:World) (R:VW):Prop:=
 cL 69 [a0] w fun x7 w=>
 cL 70 [x7] w fun x9 w=>
 oP (Instr.buildSlice 25 0 #[]) w fun x10 w=>
 LOOPI [4,5] [x10,(iV 0)] w fun u5 w next5=>
 rB .lss 3 T0 U0 (u5 5) (iV 12) w fun x12=>
 BR x12
 (cL 71 [x7,(iV 10000)] w fun x17 w=>
 oP (Instr.buildSlice 25 1 #[(0,x17)]) w fun x18 w=>
 oP (Builtin.append_ #[25,25] 25 [(u5 4),x18].toArray) w fun x19 w=>
 rA (u5 5) (iV 1) w fun x14=>
 next5 [x19,x14] w)
 (R (u5 4) w)
def cfg27:Cfg:=⟨extL,[],[(5,1046576,[4,5])],[],[],[],[]⟩
theorem F27_call {a0:Value} {w:World} {R:VW} (h:F27 a0 w R):cL 27 [a0] w R:=co (g:=cfg27) Tryz.func27 (by kernel_rfl) (by kernel_rfl) (by kernel_rfl) h
open Rep (rep)
theorem zoo {bs:List UInt8} {k:Nat} (hk:k<(bs.take 4000).length) (h:Int):((bs.take 4000).take (k+1)).foldl (fun h (b:UInt8)=>zms (h*131+(b.toNat:Int)+7) 1073741823) h =
   zms (((bs.take 4000).take k).foldl (fun h (b:UInt8)=>zms (h*131+(b.toNat:Int)+7) 1073741823) h*131+(((bs.take 4000)[k]).toNat:Int)+7) 1073741823:=by
 rw [List.take_succ_eq_append_getElem hk,List.foldl_append];rfl
set_option maxRecDepth 100000 in
theorem zkk {w W:World} {v:Value} {bs:List UInt8} (h:Is W v bs) (e:Ext W w) (hl:bs.length≤1048576) :
    CALL Tryz.prog 69 [v] w fun r w'=>Ext w w'∧∃ g,r=.pointer (some ⟨g,0,none⟩)∧w.heap.size≤g∧CurAt w g bs (zfQ bs) w':=by
  have fin:∀ {w1:World} {hh:Int},Ext w w1→hh=zrf bs→I64 hh→RD Tryz.prog (Instr.build 144 #[(0,v),(2,.int .i64 hh)]) w1 fun x30=>OP Tryz.prog (Instr.box 144 x30) w1 fun x31 w2=>
      Ext w w2∧∃ g,x31=.pointer (some ⟨g,0,none⟩)∧w.heap.size≤g∧CurAt w g bs (zfQ bs) w2:=by
    intro w1 hh hx1 hh1 hI
    obtain ⟨a,cap,Fi,xs,rfl,_⟩:=zct h
    refine zaR (cells:=#[.slice a bs.length cap,.int .i64 0,.int .i64 hh]) (by kernel_rfl) ?_
    refine zlb fun w2 hx2 hB2=>?_
    refine ⟨hx1.trans hx2,_,rfl,hx1.size,.slice a bs.length cap,h.ext e,hx1.trans hx2,hx1.size,?_,Nat.zero_le _,hl⟩
    rw [hh1] at hB2
    exact hB2
  refine F69_call ?_
  unfold F69
  refine zae u22 h ?_
  refine zb3 (by unfold I64;omega) ?_
  refine zaF (bs.take 4000).length (fun k us w'=>∃ hh:Int,us=[.int .i64 hh,.int .i64 (k:Int)]∧Ext w w'∧k≤(bs.take 4000).length∧0≤hh∧hh≤1073741823∧hh=((bs.take 4000).take k).foldl (fun h (b:UInt8)=>zms (h*131+(b.toNat:Int)+7) 1073741823) (94701+(bs.length:Int))) 0 (Nat.zero_le _)
    ⟨_,rfl,Ext.refl w,Nat.zero_le _,by omega,by omega,by simp⟩ ?_
  rintro k m u w1 hkm ⟨hh,hu,hx1,hkl,h0,h1,hf⟩
  obtain ⟨hu0,hu1⟩:=zkG hu
  rw [hu0,hu1]
  have htl:(bs.take 4000).length=min 4000 bs.length:=List.length_take
  have hdone:(bs.take 4000).length≤k→hh=zrf bs:=fun hk=>by
    rw [hf,List.take_of_length_le hk];rfl
  have hIh:I64 hh:=by unfold I64;omega
  refine zae u22 h ?_
  refine zai ?_
  refine br (fun hlt=>?_) (fun hge=>fin hx1 (hdone (by omega)) hIh)
  refine zai ?_
  refine br (fun hlt2=>?_) (fun hge=>fin hx1 (hdone (by omega)) hIh)
  have hk:k<(bs.take 4000).length:=by omega
  have hkb:k<bs.length:=by omega
  refine zid (by unfold I64;omega) ?_
  refine zad u22 ty5 (i:=k) h hkb fun b o hA=>?_
  refine zl0 ty5 hA (e.trans hx1) ?_
  have h256:=UInt8.toNat_lt (bs[k])
  refine znx (by kernel_rfl) u3 (by omega) ?_
  refine zb3 (by unfold I64;omega) ?_
  refine zb3 (by unfold I64;omega) ?_
  refine zkV ?_
  refine zal (by omega) ?_
  have hb:=ziV (hh*131+((bs[k]).toNat:Int)+7) (n:=1073741823) (by omega)
  refine ⟨m-1,by omega,k+1,by omega,_,rfl,hx1,by omega,hb.1,hb.2,?_⟩
  rw [zoo hk,←hf,List.getElem_take]
def zcq (bs:List UInt8):DCode:=zcb (zch bs (zfQ bs)).1
theorem ziB (bs:List UInt8):CodeR (zcq bs)∧(zcq bs).ins.length≤436:=zis (zgr bs _)
set_option maxRecDepth 20000 in
theorem zmV {W w:World} {g:Nat} {bs:List UInt8} {s:Cur} (hC:CurAt W g bs s w) :
    CALL Tryz.prog 68 [.pointer (some ⟨g,0,none⟩)] w fun r w'=>ChgI g (g+1) w w'∧OwnI w.heap.size w'.heap.size w' r (zcb (zch bs s).1)∧CurAt W g bs (zch bs s).2 w':=by
  have hgl:=hC.lt
  refine F68_call ?_
  unfold F68
  refine za6 zpT fun w1 hx1 hB1=>?_
  have hs1:=hx1.size
  have hg1:=hB1.lt
  refine (zmO (hC.ext hx1)).mono ?_
  rintro v9 w2 ⟨hc2,hC2,o9⟩
  have hs2:=hc2.size
  refine (zjt o9.is (Ext.refl _) (zgr bs s)).mono ?_
  rintro _ w3 ⟨hx3,a,rfl,o10⟩
  have hs3:=hx3.size
  refine za3 rfl ?_
  refine za3 rfl ?_
  refine za6 zpT fun w4 hx4 hB4=>?_
  have hs4:=hx4.size
  have hg4:=hB4.lt
  have o10:=o10.ext hx4
  have hform:∃ us:Array Value,a=.agg us:=by
    obtain ⟨F,⟨⟨cs,hr,hv⟩,_⟩,_⟩:=o10
    exact ⟨cs.toArray,by simpa [mkv,Rep.agg] using hv⟩
  obtain ⟨us,rfl⟩:=hform
  have hB1':Blk w.heap.size 28 w4 _:=((hB1.chgI hc2 (by omega)).ext hx3).ext hx4
  have hul:us.toList.length=5:=by
    obtain ⟨F,⟨⟨cs,hr,hv⟩,_⟩,_⟩:=o10
    have:us=cs.toArray:=by simpa [mkv,Rep.agg] using hv
    rw [this];exact Rep.len hr
  refine za7 zcx rfl hB4 rfl o10 fun w5 hc5 hB5=>?_
  have hs5:=hc5.size
  have o10:=o10.chg hc5 (by omega)
  refine zbt ?_
  refine zdN (fun hc=>by simp at hc) (fun _=>?_)
  refine zdb hB5 (by rw [hul];exact zcx) ?_
  have hB15:=hB1'.chgI hc5 (by omega)
  refine za7 zcx rfl hB15 rfl o10 fun w6 hc6 hB6=>?_
  have hs6:=hc6.size
  refine zdc hB6 (by rw [hul];exact zcx) ?_
  refine ⟨?_,(o10.chg hc6 (by omega)).mono (by omega) (by omega),?_⟩
  · exact ChgI.out (ChgI.out (((hx1.toI.trans hc2).trans hx3.toI).trans hx4.toI) hc5 (by omega)) hc6 (by omega)
  exact (((hC2.ext hx3).ext hx4).chg hc5 (by omega) (by omega)).chg hc6 (by omega) (by omega)
theorem zlw {w W:World} {v:Value} {bs:List UInt8} (h:Is W v bs) (e:Ext W w) (hl:bs.length≤1048576) :
   CALL Tryz.prog 10 [v] w fun r w'=>Ext w w'∧Own w.heap.size w' r (zcq bs):=by
 refine F10_call ?_
 unfold F10
 refine za6 zpT fun w1 hx1 hB1=>?_
 have hs1:=hx1.size
 have hg1:=hB1.lt
 refine (zkk h (e.trans hx1) hl).mono ?_
 rintro _ w2 ⟨hx2,g,rfl,hg,hC2⟩
 have hs2:=hx2.size
 have hg2:=hC2.lt
 refine (zmV hC2).mono ?_
 rintro v5 w3 ⟨hc3,o5,-⟩
 have hs3:=hc3.size
 have hform:∃ us:Array Value,v5=.agg us:=by
   obtain ⟨F,⟨⟨cs,hr,hv⟩,_⟩,_⟩:=o5
   exact ⟨cs.toArray,by simpa [mkv,Rep.agg] using hv⟩
 obtain ⟨us,rfl⟩:=hform
 have hul:us.toList.length=5:=by
   obtain ⟨F,⟨⟨cs,hr,hv⟩,_⟩,_⟩:=o5
   have:us=cs.toArray:=by simpa [mkv,Rep.agg] using hv
   rw [this];exact Rep.len hr
 have hB3:=(hB1.ext hx2).chgI hc3 (by omega)
 refine za7 zcx rfl hB3 rfl o5 fun w4 hc4 hB4=>?_
 refine zdc hB4 (by rw [hul];exact zcx) ?_
 exact ⟨Ext.chgI (Ext.chgI (hx1.trans hx2) hc3 (by omega)) hc4 (by omega),(o5.chg hc4 (by omega)).own.mono (by omega)⟩
def zcW (bs:List UInt8) (m:Int):Nat→Cur→List Int
 | 0,_=>[]
 | n+1,s=>zbg bs m s :: zcW bs m n (zaj bs m s)
theorem zgT (bs:List UInt8) (m:Int):∀ (n:Nat) (s:Cur),(zcW bs m n s).length=n
 | 0,_=>rfl
 | n+1,s=>by rw [zcW,List.length_cons,zgT bs m n]
theorem zhT (bs:List UInt8) {m:Int} (hm:0<m):∀ (n:Nat) (s:Cur),∀ x∈zcW bs m n s,0≤x∧x<m
 | 0,_,x,h=>by rw [zcW] at h;cases h
 | n+1,s,x,h=>by
   rw [zcW] at h
   rcases List.mem_cons.1 h with rfl | h
   · exact zbM bs hm s
   exact zhT bs hm n _ x h
def zhU (bs:List UInt8):List Int:=zcW bs 10000 12 (zcD bs (zfQ bs))
theorem zju {w W:World} {v:Value} {bs:List UInt8} (h:Is W v bs) (e:Ext W w) (hl:bs.length≤1048576) :
   CALL Tryz.prog 27 [v] w fun r w'=>Ext w w'∧Own w.heap.size w' r (zhU bs):=by
 refine F27_call ?_
 unfold F27
 refine (zkk h e hl).mono ?_
 rintro _ w1 ⟨hx1,g,rfl,hg,hC1⟩
 have hs1:=hx1.size
 have hgl:=hC1.lt
 refine (zdq hC1).mono ?_
 rintro _ w2 ⟨hc2,hC2,rfl⟩
 have hs2:=hc2.size
 refine zbq (α:=Int) u25 ty3 fun v10 w3 hx3 r10=>?_
 have hs3:=hx3.size
 refine zaF 12 (fun k us w'=>∃ v hi l s1,us=[v,.int .i64 (k:Int)]∧k≤12∧ChgI g (g+1) w2 w'∧CurAt w g bs s1 w'∧RowI w3.heap.size hi 3 w' v l∧w3.heap.size≤hi∧hi≤w'.heap.size∧l.length=k∧zhU bs=l++zcW bs 10000 (12-k) s1) 0 (Nat.zero_le _)
   ⟨_,w3.heap.size,[],_,rfl,by omega,hx3.toI,hC2.ext hx3,r10,Nat.le_refl _,Nat.le_refl _,rfl,rfl⟩ ?_
 rintro k m u w4 hkm ⟨v4,hi,l,s1,hu,hkl,hc4,hC4,r4,hlo,hhi,hll,heq⟩
 obtain ⟨hu0,hu1⟩:=zkG hu
 rw [hu0,hu1]
 refine zai ?_
 refine br (fun hlt=>?_) (fun hge=>?_)
 · have hk:k<12:=by omega
   refine (zbV hC4 (by omega)).mono ?_
   rintro _ w5 ⟨hc5,hC5,rfl⟩
   have hs5:=hc5.size
   have hb:=zbM bs (n:=10000) (by omega) s1
   refine zeF (α:=Int) (lo2:=w5.heap.size) (hi2:=w5.heap.size) u25 ty3 z3 zc3 (by decide) (r4.chg hc5 (by omega)) (by omega) (Go.Sh.ownI_int (by unfold I64;omega)) (by omega) (by omega) (by rw [zak];omega) (by omega) fun v19 w6 hc6 r6=>?_
   have hs6:=hc6.size
   refine zal (by omega) ?_
   refine ⟨m-1,by omega,k+1,by omega,v19,w6.heap.size,_,_,rfl,by omega,ChgI.out (hc4.trans hc5) hc6 (by omega),hC5.chg hc6 (by omega) (by omega),r6,by omega,Nat.le_refl _,by simp [hll],?_⟩
   rw [heq,show 12-k=(12-(k+1))+1 by omega,zcW];simp
 have hk:k=12:=by omega
 subst hk
 rw [Nat.sub_self,zcW,List.append_nil] at heq
 rw [heq]
 exact ⟨Ext.chgI (Ext.chgI hx1 hc2 hg) hc4 hg,r4.own.own.mono (by omega)⟩
theorem zru {G L P:List ByteArray} {pr:List ByteArray} (hG:G=glb) (hL:L=lks) (hP:∀ x∈pr,x∈P):∀ (l:List DProc) (a:Nat),(∀ x∈l,zmE pr x.body)→∀ y∈emP G L P l a,wT y.term≤24
 | [],_,_,y,h=>by rw [emP] at h;cases h
 | x :: l,a,hb,y,h=>by
   have w0:wT term0≤24:=by decide
   rw [emP] at h
   rcases List.mem_append.1 h with h | h
   · have:=((zri hG hL hP 2).2 x.body a (hb x (by simp)).1).1 y h
     obtain ⟨_,_,_,q4,_⟩:=this
     split at q4
     · exact q4.2.2
     rw [q4];exact w0
   rcases List.mem_cons.1 h with rfl | h
   · exact w0
   exact zru hG hL hP l _ (fun z hz=>hb z (by simp [hz])) y h
theorem zpD {α:Type} {f:α→Nat} {b:Nat}:∀ {l:List α},(∀ x∈l,f x≤b)→sm f l≤l.length*b
 | [],_=>by simp [sm]
 | x :: l,h=>by
   have h1:=zpD (l:=l) fun y hy=>h y (List.mem_cons_of_mem _ hy)
   have h2:=h x List.mem_cons_self
   simp only [sm,List.map_cons,List.sum_cons,List.length_cons,Nat.add_mul] at h1 ⊢
   omega
theorem zmW (bs:List UInt8):zgh (zcq bs)≤1048576:=by
 have hp:=zgr bs (zfQ bs)
 have hl:=(ziB bs).2
 obtain ⟨f1,f2,f3,f4⟩:=hp.facts
 obtain ⟨k,hk,hn⟩:=hp.n
 have h1:znJ (zcq bs).globals≤100:=by
   show znJ (zch bs (zfQ bs)).1.globals≤100
   rw [hp.g];decide
 have h2:znJ (zcq bs).locks≤100:=by
   show znJ (zch bs (zfQ bs)).1.locks≤100
   rw [hp.l];decide
 have h3:znJ (zcq bs).procs≤100:=by
   show znJ ((zch bs (zfQ bs)).1.procs.map DProc.name)≤100
   rw [hn]
   match k,hk with
   | 0,_=>decide
   | 1,_=>decide
   | 2,_=>decide
 have h4:(zcq bs).entry.length≤4:=by
   have:(zcq bs).entry.length=(zch bs (zfQ bs)).1.procs.length:=zg9 _ _ _ _ _
   omega
 have h5:zrd (zcq bs).ins≤20000:=by
   have:=zpD (f:=fun i:DIns=>wT i.term) (b:=24) (l:=(zcq bs).ins) (zru hp.g hp.l (fun x hx=>List.mem_of_mem_drop hx) _ _ hp.b)
   unfold zrd
   omega
 unfold zgh
 omega
section
variable {P:Program} {w:World} {K:Value→World→Prop}
end
def i3 (a b c:Int):Array Value:=#[.int .i64 a,.int .i64 b,.int .i64 c]
def ltR (x y:DRace):Prop:=x.g<y.g∨(x.g=y.g∧(x.a<y.a∨(x.a=y.a∧x.b<y.b)))
end Go.Proofs.YtbnjpfjjmhodnaaGreat
namespace Go.Proofs.YtbnjpfjjmhodnaaGreat
open Go Go.Sh Go.Proofs Go.Sort
open Rep (rep)
structure DOrder where
 fr:Int
 to:Int
 at_:Int
theorem DOrder.ext_iff {x y:DOrder}:x=y↔(x.fr=y.fr∧x.to=y.to∧x.at_=y.at_):=⟨fun h=>by rw [h];exact ⟨rfl,rfl,rfl⟩,fun h=>by obtain ⟨h0,h1,h2⟩:=h;cases x;cases y;simp only at h0 h1 h2;simp only [h0,h1,h2]⟩
instance:DecidableEq DOrder:=fun x y=>decidable_of_iff (x.fr=y.fr∧x.to=y.to∧x.at_=y.at_) DOrder.ext_iff.symm
instance:Rep DOrder:=Rep.via fun x=>(x.fr,x.to,x.at_)
instance:RepZ DOrder:=⟨⟨(RepZ.zv:Int),(RepZ.zv:Int),(RepZ.zv:Int)⟩,RepZ.zc (Int×Int×Int),fun w=>RepZ.zr (α:=Int×Int×Int) w⟩
instance:Flat DOrder:=⟨fun h=>Flat.flat (α:=Int×Int×Int) h⟩
def ltO (x y:DOrder):Prop:=x.fr<y.fr∨(x.fr=y.fr∧(x.to<y.to∨(x.to=y.to∧x.at_<y.at_)))
instance (x y:DOrder):Decidable (ltO x y):=by unfold ltO;infer_instance
instance:Inhabited DOrder:=⟨⟨0,0,0⟩⟩
def zop (a b:DTouch):Prop:=a.global=b.global∧(a.write=true∨b.write=true)∧(0≤a.held∧a.held≤63)∧(0≤b.held∧b.held≤63)∧a.held.toNat &&& b.held.toNat=0
instance (a b:DTouch):Decidable (zop a b):=by unfold zop;infer_instance
def zqV (a b:DTouch):DRace:=⟨a.global,min a.at_ b.at_,max a.at_ b.at_⟩
instance (x y:DRace):Decidable (ltR x y):=by unfold ltR;infer_instance
end Go.Proofs.YtbnjpfjjmhodnaaGreat
namespace Go.Proofs.YtbnjpfjjmhodnaaGreat
open Go Go.Sh Go.Proofs Go.Sort
open Rep (rep)
instance:Inhabited DRace:=⟨⟨0,0,0⟩⟩
def clR (a b:DTouch):List DRace:=if zop a b then [zqV a b] else []
def gB (a:DTouch) (bs:List DTouch):List DRace:=bs.flatMap (clR a)
def hA (bs xs:List DTouch):List DRace:=xs.flatMap fun a=>gB a bs
def hU (T:Nat→List DTouch) (xs:List DTouch) (t:Nat):List DRace:=(List.range t).flatMap fun u=>hA (T u) xs
def hT (T:Nat→List DTouch) (n:Nat):List DRace:=(List.range n).flatMap fun t=>hU T (T t) t
structure DArc where
 fr:Int
 to:Int
theorem DArc.ext_iff {x y:DArc}:x=y↔(x.fr=y.fr∧x.to=y.to):=⟨fun h=>by rw [h];exact ⟨rfl,rfl⟩,fun h=>by obtain ⟨h0,h1⟩:=h;cases x;cases y;simp only at h0 h1;simp only [h0,h1]⟩
instance:DecidableEq DArc:=fun x y=>decidable_of_iff (x.fr=y.fr∧x.to=y.to) DArc.ext_iff.symm
instance:Rep DArc:=Rep.via fun x=>(x.fr,x.to)
instance:RepZ DArc:=⟨⟨(RepZ.zv:Int),(RepZ.zv:Int)⟩,RepZ.zc (Int×Int),fun w=>RepZ.zr (α:=Int×Int) w⟩
instance:Flat DArc:=⟨fun h=>Flat.flat (α:=Int×Int) h⟩
end Go.Proofs.YtbnjpfjjmhodnaaGreat
namespace Go.Proofs.YtbnjpfjjmhodnaaGreat
open Go Go.Sh Go.Proofs Go.Sort
open Rep (rep)
def hd0 (l:List Int):Int:=l.headD 0
end Go.Proofs.YtbnjpfjjmhodnaaGreat
namespace Go.Sh
open Rep (rep)
instance:Rep Nat where
 size:=1
 agg:=false
 rep F _ cs x:=F=[]∧cs=[.int .u64 (x:Int)]∧x<18446744073709551616
 pos:=by decide
 sz _:=rfl
 len:=by rintro _ _ _ _ ⟨_,rfl,_⟩;rfl
 one:=by rintro _ _ _ _ ⟨_,rfl,_⟩ v hv;simp at hv;subst hv;rfl
 keep:=by rintro _ _ _ _ _ h _;exact h
 lt:=by rintro _ _ _ _ ⟨rfl,_⟩ b hb;cases hb
instance:Flat Nat:=⟨fun h=>h.1⟩
instance:RepZ Nat:=⟨0,[.int .u64 0],fun _=>⟨rfl,rfl,by decide⟩⟩
section
variable {P:Program} {w w0:World} {K:Value→Prop} {t:TypeId} {x y:Operand}
end
end Go.Sh
namespace Go.Proofs.YtbnjpfjjmhodnaaGreat
open Go Go.Sh Go.Proofs
open Rep (rep)
def F9 (a0:Value) (w:World) (R:VW):Prop:=
 rN 22 3 a0 w fun x4=>
 rB .gtr 3 T0 U0 x4 (iV 1048576) w fun x5=>
 R x5 w
def cfg9:Cfg:=⟨extL,[],[],[],[],[],[]⟩
theorem F9_call {a0:Value} {w:World} {R:VW} (h:F9 a0 w R):cL 9 [a0] w R:=co (g:=cfg9) Tryz.func9 (by kernel_rfl) (by kernel_rfl) (by kernel_rfl) h
theorem zqW {w:World} {v0:Value} {W0:World} {bs:(List UInt8)}  (h0:Is W0 v0 bs) (e0:Ext W0 w)  :
   CALL Tryz.prog 9 [v0] w fun r w'=>Ext w w'∧(r=.bool (decide ((1048576:Int)<bs.length))):=by
 refine F9_call ?_
 unfold F9
 have hln4:=zaf h0
 refine zae u22 h0 ?_
 refine zci ?_
 refine ⟨Ext.refl w,?_⟩
 rfl
def F15 (a0 a1:Value) (w:World) (R:VW):Prop:=
 rN 25 3 a0 w fun x7=>
 rN 25 3 a1 w fun x9=>
 rB .neq 3 T0 T0 x7 x9 w fun x10=>
 BR x10
 (R (Value.bool false) w)
 (LOOPI [5] [(iV 0)] w fun u4 w next4=>
 rN 25 3 a0 w fun x13=>
 rC (u4 5) x13 w fun x14=>
 BR x14
 ((fun w=>rX 25 a0 (u4 5) w fun x19=>
 rL 3 x19 w fun x20=>
 rX 25 a1 (u4 5) w fun x23=>
 rL 3 x23 w fun x24=>
 rB .neq 3 T0 T0 x20 x24 w fun x25=>
 BR x25
 (R (Value.bool false) w)
 (rA (u4 5) (iV 1) w fun x16=>
 next4 [x16] w)) (World.drew1 w))
 (R (Value.bool true) w))
def cfg15:Cfg:=⟨extL,[],[(4,67106864,[5])],[(6,[0,1,2,3,4,5,6,7,8],0)],[],[],[]⟩
theorem F15_call {a0 a1:Value} {w:World} {R:VW} (h:F15 a0 a1 w R):cL 15 [a0,a1] w R:=co (g:=cfg15) Tryz.func15 (by kernel_rfl) (by kernel_rfl) (by kernel_rfl) h
theorem zeO {w:World} {v0:Value} {W0:World} {l1:(List Int)} {v1:Value} {W1:World} {l2:(List Int)}  (h0:Is W0 v0 l1) (e0:Ext W0 w) (h1:Is W1 v1 l2) (e1:Ext W1 w)  :
   CALL Tryz.prog 15 [v0,v1] w fun r w'=>Ext w w'∧(r=.bool (decide (l1=l2))):=by
 refine F15_call ?_
 unfold F15
 have hl1:=zaf h0
 have hln7:=zaf h0
 refine zae u25 h0 ?_
 have hln9:=zaf h1
 refine zae u25 h1 ?_
 refine zaY ?_
 refine br (fun c1=>?_) (fun c1=>?_)
 · refine ⟨Ext.refl w,?_⟩
   have:l1≠l2:=fun e=>c1 (by rw [e])
   simp [this]
 refine zaF (l1.length) (fun k us w'=>us=[.int .i64 (k:Int)]∧Ext w w'∧(l1.take k=l2.take k)) (0) (by omega) ⟨by simp,Ext.refl w,by simp⟩ ?_
 rintro k m4 uu4 w1_ hk4 ⟨hu,hx1_,hinv⟩
 simp only [List.map_cons,List.map_nil,List.cons.injEq,and_true] at hu
 try rw [hu]
 try clear hu
 have hln13:=zaf h0
 refine zae u25 h0 ?_
 refine zai ?_
 refine br (fun c2=>?_) (fun c2=>?_)
 · have hx2_:=zah w1_
   refine zad u25 ty3 h0 (by omega) fun b19 o19 h19=>?_
   refine zac ty3 h19 (e0.trans (hx1_.trans hx2_)) fun hI20=>?_
   refine zad u25 ty3 h1 (by omega) fun b23 o23 h23=>?_
   refine zac ty3 h23 (e1.trans (hx1_.trans hx2_)) fun hI24=>?_
   refine zaY ?_
   refine br (fun c3=>?_) (fun c3=>?_)
   · refine ⟨(hx1_.trans hx2_),?_⟩
     have:l1≠l2:=fun e=>c3 (by subst e;rfl)
     simp [this]
   refine zal (by omega) ?_
   refine ⟨m4-1,by omega,k+1,by omega,by simp,(hx1_.trans hx2_),?_⟩
   rw [List.take_succ_eq_append_getElem (by omega),List.take_succ_eq_append_getElem (by omega),hinv,Decidable.not_not.1 c3]
 refine ⟨hx1_,?_⟩
 rw [List.take_of_length_le (by omega),List.take_of_length_le (by omega)] at hinv
 simp [hinv]
def F55 (a0 a1:Value) (w:World) (R:VW):Prop:=
 rN 31 3 a0 w fun x7=>
 rN 31 3 a1 w fun x9=>
 rB .neq 3 T0 T0 x7 x9 w fun x10=>
 BR x10
 (R (Value.bool false) w)
 (LOOPI [5] [(iV 0)] w fun u4 w next4=>
 rN 31 3 a0 w fun x13=>
 rC (u4 5) x13 w fun x14=>
 BR x14
 ((fun w=>rX 31 a0 (u4 5) w fun x19=>
 rL 25 x19 w fun x20=>
 rX 31 a1 (u4 5) w fun x23=>
 rL 25 x23 w fun x24=>
 cL 15 [x20,x24] w fun x25 w=>
 rD (Op.unary .not x25) w fun x26=>
 BR x26
 (R (Value.bool false) w)
 (rA (u4 5) (iV 1) w fun x16=>
 next4 [x16] w)) (World.drew1 w))
 (R (Value.bool true) w))
def cfg55:Cfg:=⟨extL,[],[(4,134215728,[5])],[(6,[0,1,2,3,4,5,6,7,8,9],0)],[],[],[]⟩
theorem F55_call {a0 a1:Value} {w:World} {R:VW} (h:F55 a0 a1 w R):cL 55 [a0,a1] w R:=co (g:=cfg55) Tryz.func55 (by kernel_rfl) (by kernel_rfl) (by kernel_rfl) h
theorem zkl {w:World} {v0:Value} {W0:World} {l1:(List (List Int))} {v1:Value} {W1:World} {l2:(List (List Int))}  (h0:Is W0 v0 l1) (e0:Ext W0 w) (h1:Is W1 v1 l2) (e1:Ext W1 w)  :
   CALL Tryz.prog 55 [v0,v1] w fun r w'=>Ext w w'∧(r=.bool (decide (l1=l2))):=by
 refine F55_call ?_
 unfold F55
 have hl1:=zaf h0
 have hln7:=zaf h0
 refine zae u31 h0 ?_
 have hln9:=zaf h1
 refine zae u31 h1 ?_
 refine zaY ?_
 refine br (fun c1=>?_) (fun c1=>?_)
 · refine ⟨Ext.refl w,?_⟩
   have:l1≠l2:=fun e=>c1 (by rw [e])
   simp [this]
 refine zaF (l1.length) (fun k us w'=>us=[.int .i64 (k:Int)]∧Ext w w'∧(l1.take k=l2.take k)) (0) (by omega) ⟨by simp,Ext.refl w,by simp⟩ ?_
 rintro k m4 uu4 w1_ hk4 ⟨hu,hx1_,hinv⟩
 simp only [List.map_cons,List.map_nil,List.cons.injEq,and_true] at hu
 try rw [hu]
 try clear hu
 have hln13:=zaf h0
 refine zae u31 h0 ?_
 refine zai ?_
 refine br (fun c2=>?_) (fun c2=>?_)
 · have hx2_:=zah w1_
   refine zad u31 zaJ h0 (by omega) fun b19 o19 h19=>?_
   refine zab zaJ h19 (e0.trans (hx1_.trans hx2_)) fun v20 h20=>?_
   refine zad u31 zaJ h1 (by omega) fun b23 o23 h23=>?_
   refine zab zaJ h23 (e1.trans (hx1_.trans hx2_)) fun v24 h24=>?_
   refine (zeO h20 (e0.trans (hx1_.trans hx2_)) h24 (e1.trans (hx1_.trans hx2_))).mono ?_
   rintro _ w3_ ⟨hx3_,rfl⟩
   refine zau ?_
   refine br (fun c3=>?_) (fun c3=>?_)
   · refine ⟨(hx1_.trans (hx2_.trans hx3_)),?_⟩
     have:l1≠l2:=fun e=>c3 (by subst e;rfl)
     simp [this]
   refine zal (by omega) ?_
   refine ⟨m4-1,by omega,k+1,by omega,by simp,(hx1_.trans (hx2_.trans hx3_)),?_⟩
   rw [List.take_succ_eq_append_getElem (by omega),List.take_succ_eq_append_getElem (by omega),hinv,Decidable.not_not.1 c3]
 refine ⟨hx1_,?_⟩
 rw [List.take_of_length_le (by omega),List.take_of_length_le (by omega)] at hinv
 simp [hinv]
def F25 (a0 a1:Value) (w:World) (R:VW):Prop:=
 oP (Instr.box 33 a0) w fun x2 w=>
 oP (Instr.box 33 a1) w fun x3 w=>
 rF 33 x2 0 w fun x5=>
 rL 25 x5 w fun x6=>
 rF 33 x3 0 w fun x7=>
 rL 25 x7 w fun x8=>
 cL 15 [x6,x8] w fun x9 w=>
 BR x9
 (rF 33 x2 1 w fun x11=>
 rL 25 x11 w fun x12=>
 rF 33 x3 1 w fun x13=>
 rL 25 x13 w fun x14=>
 cL 15 [x12,x14] w fun x15 w=>
 BR x15
 (rF 33 x2 2 w fun x18=>
 rL 31 x18 w fun x19=>
 rF 33 x3 2 w fun x20=>
 rL 31 x20 w fun x21=>
 cL 55 [x19,x21] w fun x22 w=>
 R x22 w)
 (R (Value.bool false) w))
 (R (Value.bool false) w)
def cfg25:Cfg:=⟨extL,[],[],[],[],[],[]⟩
theorem F25_call {a0 a1:Value} {w:World} {R:VW} (h:F25 a0 a1 w R):cL 25 [a0,a1] w R:=co (g:=cfg25) Tryz.func25 (by kernel_rfl) (by kernel_rfl) (by kernel_rfl) h
theorem zkm {w:World} {v0:Value} {W0:World} {s1:DState} {v1:Value} {W1:World} {s2:DState}  (h0:Is W0 v0 s1) (e0:Ext W0 w) (h1:Is W1 v1 s2) (e1:Ext W1 w)  :
   CALL Tryz.prog 25 [v0,v1] w fun r w'=>Ext w w'∧(r=.bool (decide (s1=s2))):=by
 refine F25_call ?_
 unfold F25
 refine zap zbf rfl h0 e0 fun w1_ hx1_ hA2 hV2=>?_
 refine zap zbf rfl h1 (e1.trans hx1_) fun w2_ hx2_ hA3 hV3=>?_
 refine zaa zdh ?_
 refine zab zaJ (za2 hA2) hx2_ fun v6 h6=>?_
 refine zaa zdh ?_
 refine zab zaJ (za2 hA3) (Ext.refl w2_) fun v8 h8=>?_
 refine (zeO h6 hx2_ h8 (Ext.refl w2_)).mono ?_
 rintro _ w3_ ⟨hx3_,rfl⟩
 refine br (fun c1=>?_) (fun c1=>?_)
 · refine zaa zb5 ?_
   refine zab zaJ (zbc hA2) (hx2_.trans hx3_) fun v12 h12=>?_
   refine zaa zb5 ?_
   refine zab zaJ (zbc hA3) hx3_ fun v14 h14=>?_
   refine (zeO h12 (hx2_.trans hx3_) h14 hx3_).mono ?_
   rintro _ w4_ ⟨hx4_,rfl⟩
   refine br (fun c2=>?_) (fun c2=>?_)
   · refine zaa zaC ?_
     refine zab zc1 (zaq hA2) (hx2_.trans (hx3_.trans hx4_)) fun v19 h19=>?_
     refine zaa zaC ?_
     refine zab zc1 (zaq hA3) (hx3_.trans hx4_) fun v21 h21=>?_
     refine (zkl h19 (hx2_.trans (hx3_.trans hx4_)) h21 (hx3_.trans hx4_)).mono ?_
     rintro _ w5_ ⟨hx5_,rfl⟩
     refine ⟨(hx1_.trans (hx2_.trans (hx3_.trans (hx4_.trans hx5_)))),?_⟩
     cases s1;cases s2;simp_all
   refine ⟨(hx1_.trans (hx2_.trans (hx3_.trans hx4_))),?_⟩
   cases s1;cases s2;simp_all
 refine ⟨(hx1_.trans (hx2_.trans hx3_)),?_⟩
 cases s1;cases s2;simp_all
def ze8 {α:Type} [DecidableEq α] (s:α):List α→Int
 | []=>-1
 | x :: l=>if x=s then 0 else if ze8 s l<0 then -1 else ze8 s l+1
section
variable {α:Type} [DecidableEq α] {s:α}
theorem zkn {l:List α} (h:s∉l):ze8 s l=-1:=by
 induction l with
 | nil=>rfl
 | cons x l ih=>
   simp only [List.mem_cons,not_or] at h
   rw [ze8,if_neg (fun e=>h.1 e.symm),ih h.2];rfl
theorem zlx:∀ {l:List α} {k:Nat} (hk:k<l.length),s∉l.take k→l[k]=s→ze8 s l=k
 | x :: l,0,_,_,h=>by simp only [List.getElem_cons_zero] at h;rw [ze8,if_pos h];rfl
 | x :: l,k+1,hk,hn,h=>by
   simp only [List.take_succ_cons,List.mem_cons,not_or] at hn
   have ih:=zlx (by simpa using hk) hn.2 (by simpa using h)
   rw [ze8,if_neg (fun e=>hn.1 e.symm),ih,if_neg (by omega)]
   omega
theorem zoq {l:List α}:-1≤ze8 s l∧ze8 s l<l.length:=by
 induction l with
 | nil=>simp [ze8]
 | cons x l ih=>
   rw [ze8]
   split
   · simp only [List.length_cons];omega
   split<;>simp only [List.length_cons]<;>omega
theorem zep {l:List α}:0≤ze8 s l↔s∈l:=by
 induction l with
 | nil=>simp [ze8]
 | cons x l ih=>
   rw [ze8]
   split
   · rename_i h;simp [h]
   rename_i h
   rw [List.mem_cons,←ih]
   have:¬s=x:=fun e=>h e.symm
   simp only [this,false_or]
   split<;>omega
omit [DecidableEq α] in
theorem zfh {l:List α} {k:Nat} {y:α} (hk:k<l.length) (h:y∉l.take k) (c:¬l[k]=y):y∉l.take (k+1):=by
 rw [List.take_succ_eq_append_getElem hk]
 simp only [List.mem_append,List.mem_cons,List.not_mem_nil,or_false,not_or]
 exact ⟨h,fun e=>c e.symm⟩
end
structure Tr where
 states:List DState
 ahead:List Int
 went:List Int
 whole:Bool
def zcr (f:Tr) (i:Nat):DState:=f.states.getD i ⟨[],[],[]⟩
theorem zcG {f:Tr} {i:Nat} (h:i<f.states.length):f.states[i]=zcr f i:=by
 unfold zcr;rw [List.getD_eq_getElem?_getD,List.getElem?_eq_getElem h];rfl
def zco (c:DCode) (M i t:Nat) (f:Tr):Tr×Bool:=
 if GoR c (zcr f i) t then
   if zby c (zcr f i) t∈f.states then (f,false)
   else if f.states.length=M then (⟨f.states,f.ahead,f.went,false⟩,true)
   else (⟨f.states++[zby c (zcr f i) t],f.ahead++[(i:Int)],f.went++[(t:Int)],f.whole⟩,false)
 else (f,false)
def zcQ (c:DCode) (M i:Nat):Nat→Nat→Tr→Tr×Bool
 | 0,_,f=>(f,false)
 | n+1,t,f=>if (zco c M i t f).2 then zco c M i t f else zcQ c M i n (t+1) (zco c M i t f).1
def zcI (c:DCode) (M:Nat):Nat→Nat→Tr→Tr
 | 0,_,f=>f
 | n + 1, i, f => if i < f.states.length then
     if (zcQ c M i (zcr f i).stacks.length 0 f).2 then (zcQ c M i (zcr f i).stacks.length 0 f).1
     else zcI c M n (i+1) (zcQ c M i (zcr f i).stacks.length 0 f).1
   else f
def zbW (c:DCode) (M:Nat):Tr:=zcI c M M 0 ⟨[zbO c],[-1],[-1],true⟩
structure TrOk (c:DCode) (M:Nat) (f:Tr):Prop where
 right:∀ s∈f.states,zaK c s
 la:f.ahead.length=f.states.length
 lw:f.went.length=f.states.length
 many:1≤f.states.length∧f.states.length≤M
 back:∀ k (h:k<f.ahead.length),(k=0→f.ahead[k]=-1)∧(0<k→0≤f.ahead[k]∧f.ahead[k]<k)
 by_:∀ x∈f.went,-1≤x∧x≤6
theorem zme {c:DCode} (hc:CodeR c) {M:Nat} (hM:1≤M):TrOk c M ⟨[zbO c],[-1],[-1],true⟩ where
 right s hs:=by simp only [List.mem_cons,List.not_mem_nil,or_false] at hs;exact hs▸zhR hc
 la:=rfl
 lw:=rfl
 many:=⟨Nat.le_refl _,hM⟩
 back k h:=by
   have:k=0:=by simpa using h
   subst this
   exact ⟨fun _=>rfl,fun h=>by omega⟩
 by_ x hx:=by simp only [List.mem_cons,List.not_mem_nil,or_false] at hx;omega
theorem TrOk.push {c:DCode} {M i t:Nat} {f:Tr} (h:TrOk c M f) (hc:CodeR c) (hi:i<f.states.length) (hg:GoR c (zcr f i) t) (ht:t≤6) (hM:f.states.length≠M) :
   TrOk c M ⟨f.states++[zby c (zcr f i) t],f.ahead++[(i:Int)],f.went++[(t:Int)],f.whole⟩ where
 right s hs:=by
   rcases List.mem_append.1 hs with hs | hs
   · exact h.right s hs
   simp only [List.mem_cons,List.not_mem_nil,or_false] at hs
   rw [hs]
   exact ziA hc (h.right _ (by rw [←zcG hi];exact List.getElem_mem hi)) hg
 la:=by simp [h.la]
 lw:=by simp [h.lw]
 many:=by
   have:=h.many
   simp only [List.length_append,List.length_cons,List.length_nil]
   omega
 back k hk:=by
   have hla:=h.la
   simp only [List.length_append,List.length_cons,List.length_nil] at hk
   rcases Nat.lt_or_ge k f.ahead.length with hl | hl
   · simp only [List.getElem_append_left hl]
     exact h.back k hl
   have he:k=f.ahead.length:=by omega
   have h1:=h.many
   subst he
   simp only [List.getElem_append_right (Nat.le_refl _),Nat.sub_self,List.getElem_cons_zero]
   exact ⟨fun h=>by omega,fun _=>by omega⟩
 by_ x hx:=by
   rcases List.mem_append.1 hx with hx | hx
   · exact h.by_ x hx
   simp only [List.mem_cons,List.not_mem_nil,or_false] at hx;omega
theorem TrOk.not {c:DCode} {M:Nat} {f:Tr} (h:TrOk c M f):TrOk c M ⟨f.states,f.ahead,f.went,false⟩:=⟨h.right,h.la,h.lw,h.many,h.back,h.by_⟩
section
variable {c:DCode} {M i t q n:Nat} {f:Tr}
theorem ziC (h:(zco c M i t f).2=true):zcQ c M i (q+1) t f=zco c M i t f:=by rw [zcQ,if_pos h]
theorem ze6 {f':Tr} (h:zco c M i t f=(f',false)):zcQ c M i (q+1) t f=zcQ c M i q (t+1) f':=by rw [zcQ,h];simp
theorem zmf (h:¬GoR c (zcr f i) t):zco c M i t f=(f,false):=if_neg h
theorem zko (h:GoR c (zcr f i) t) (h2:zby c (zcr f i) t∈f.states):zco c M i t f=(f,false):=by rw [zco,if_pos h,if_pos h2]
theorem ziD (h:GoR c (zcr f i) t) (h2:zby c (zcr f i) t∉f.states) (h3:f.states.length=M):zco c M i t f=(⟨f.states,f.ahead,f.went,false⟩,true):=by rw [zco,if_pos h,if_neg h2,if_pos h3]
theorem zkp (h:GoR c (zcr f i) t) (h2:zby c (zcr f i) t∉f.states) (h3:¬f.states.length=M):zco c M i t f=(⟨f.states++[zby c (zcr f i) t],f.ahead++[(i:Int)],f.went++[(t:Int)],f.whole⟩,false):=by rw [zco,if_pos h,if_neg h2,if_neg h3]
theorem zhV (hi:i<f.states.length) {f':Tr} (h:zcQ c M i (zcr f i).stacks.length 0 f=(f',true)):zcI c M (n+1) i f=f':=by rw [zcI,if_pos hi,h];simp
theorem zhW (hi:i<f.states.length) {f':Tr} (h:zcQ c M i (zcr f i).stacks.length 0 f=(f',false)):zcI c M (n+1) i f=zcI c M n (i+1) f':=by rw [zcI,if_pos hi,h];simp
theorem ziE (hi:f.states.length≤i):zcI c M n i f=f:=by
 cases n with
 | zero=>rfl
 | succ n=>rw [zcI,if_neg (by omega)]
theorem zc4 {s:DState} {a b:List Int} {w:Bool} (hi:i<f.states.length):zcr ⟨f.states++[s],a,b,w⟩ i=zcr f i:=by
 unfold zcr
 simp only [List.getD_eq_getElem?_getD]
 rw [List.getElem?_append_left hi]
end
def zaU (n lo hi:Int):Int:=if n<lo∨hi<lo then lo else min n hi
theorem zcR (n:Int):1≤zaU n 1 150∧zaU n 1 150≤150:=by
 unfold zaU
 split<;>omega
def zc5 (f:Tr):Nat→Int→List Int
 | 0,_=>[]
 | n+1,a=>if 0<a then f.went.getD a.toNat 0 :: zc5 f n (f.ahead.getD a.toNat 0) else []
def zor (c:DCode) (f:Tr):Prop:=zcr f 0=zbO c∧∀ k:Nat,0<k→k<f.states.length→∃ (i t:Nat),i<k∧f.ahead.getD k 0=i∧f.went.getD k 0=t∧GoR c (zcr f i) t∧zcr f k=zby c (zcr f i) t
def Followed (c:DCode) (f:Tr) (i n:Nat):Prop:=∀ t:Nat,t<n→GoR c (zcr f i) t→zby c (zcr f i) t∈f.states
def Grown (f g:Tr):Prop:=(∃ l,g.states=f.states++l)∧(g.whole=true→f.whole=true)
theorem Grown.refl (f:Tr):Grown f f:=⟨⟨[],by simp⟩,id⟩
theorem Grown.trans {f g h:Tr} (a:Grown f g) (b:Grown g h):Grown f h:=by
 obtain ⟨⟨l,e⟩,w⟩:=a
 obtain ⟨⟨m,e'⟩,w'⟩:=b
 exact ⟨⟨l++m,by rw [e',e,List.append_assoc]⟩,fun h=>w (w' h)⟩
theorem Grown.at {f g:Tr} (h:Grown f g) {i:Nat} (hi:i<f.states.length):zcr g i=zcr f i∧i<g.states.length:=by
 obtain ⟨⟨l,e⟩,_⟩:=h
 unfold zcr
 rw [e]
 refine ⟨?_,by simp;omega⟩
 rw [List.getD_eq_getElem?_getD,List.getD_eq_getElem?_getD,List.getElem?_append_left hi]
theorem Grown.mem {f g:Tr} (h:Grown f g) {s:DState} (hs:s∈f.states):s∈g.states:=by
 obtain ⟨⟨l,e⟩,_⟩:=h
 rw [e];exact List.mem_append_left _ hs
theorem Followed.grow {c:DCode} {f g:Tr} (h:Grown f g) {i n:Nat} (hi:i<f.states.length) (hf:Followed c f i n):Followed c g i n:=by
 intro t ht hg
 rw [(h.at hi).1] at hg ⊢
 exact h.mem (hf t ht hg)
section
variable {c:DCode} {M:Nat}
theorem zly (i t:Nat) (f:Tr):Grown f (zco c M i t f).1:=by
 unfold zco
 split
 · split
   · exact Grown.refl f
   split
   · exact ⟨⟨[],by simp⟩,fun h=>by cases h⟩
   exact ⟨⟨_,rfl⟩,id⟩
 exact Grown.refl f
theorem zmX {i t:Nat} {f:Tr} (h:(zco c M i t f).2=true):(zco c M i t f).1.whole=false:=by
 unfold zco at h ⊢
 split
 · rename_i h1
   rw [if_pos h1] at h
   split
   · rename_i h2;rw [if_pos h2] at h;cases h
   rename_i h2
   rw [if_neg h2] at h
   split
   · rfl
   rename_i h3;rw [if_neg h3] at h;cases h
 rename_i h1;rw [if_neg h1] at h;cases h
theorem zkq {i t:Nat} {f:Tr} (hi:i<f.states.length) (h:(zco c M i t f).2=false) (hg:GoR c (zcr f i) t):zby c (zcr f i) t∈(zco c M i t f).1.states:=by
 unfold zco at h ⊢
 rw [if_pos hg] at h ⊢
 split
 · assumption
 rename_i h2
 rw [if_neg h2] at h
 split
 · rename_i h3;rw [if_pos h3] at h;cases h
 simp
theorem zkr {l:List Int} {x:Int} {k:Nat} (hk:k<l.length):(l++[x]).getD k 0=l.getD k 0:=by
 rw [List.getD_eq_getElem?_getD,List.getD_eq_getElem?_getD,List.getElem?_append_left hk]
theorem zks {l:List Int} {x:Int} {k:Nat} (hk:k=l.length):(l++[x]).getD k 0=x:=by
 subst hk;rw [List.getD_eq_getElem?_getD];simp
theorem zkt {i t:Nat} {f:Tr} (ha:f.ahead.length=f.states.length) (hw:f.went.length=f.states.length) (hi:i<f.states.length) (h:zor c f):zor c (zco c M i t f).1∧(zco c M i t f).1.ahead.length=(zco c M i t f).1.states.length∧(zco c M i t f).1.went.length=(zco c M i t f).1.states.length:=by
 unfold zco
 split
 · rename_i hg
   split
   · exact ⟨h,ha,hw⟩
   split
   · exact ⟨h,ha,hw⟩
   refine ⟨⟨by rw [zc4 (by omega)];exact h.1,fun k h0 hk=>?_⟩,by simp [ha],by simp [hw]⟩
   simp only [List.length_append,List.length_cons,List.length_nil] at hk
   by_cases e:k=f.states.length
   · refine ⟨i,t,by omega,zks (by omega),zks (by omega),by rw [zc4 hi];exact hg,?_⟩
     rw [zc4 hi]
     subst e
     unfold zcr
     simp only
     rw [List.getD_eq_getElem?_getD];simp
   obtain ⟨i',t',h1,h2,h3,h4,h5⟩:=h.2 k h0 (by omega)
   refine ⟨i',t',h1,?_,?_,?_,?_⟩
   · rw [zkr (by omega)];exact h2
   · rw [zkr (by omega)];exact h3
   · rw [zc4 (by omega)];exact h4
   rw [zc4 (by omega),zc4 (by omega)];exact h5
 exact ⟨h,ha,hw⟩
structure Sch (c:DCode) (M:Nat) (f:Tr):Prop where
 la:f.ahead.length=f.states.length
 lw:f.went.length=f.states.length
 ln:zor c f
 many:f.states.length≤M
theorem zmY {i t:Nat} {f:Tr} (h:f.states.length≤M):(zco c M i t f).1.states.length≤M:=by
 unfold zco
 split
 · split
   · exact h
   split
   · exact h
   simp only [List.length_append,List.length_cons,List.length_nil];omega
 exact h
theorem zos {i t:Nat} {f:Tr} (hi:i<f.states.length) (h:Sch c M f):Sch c M (zco c M i t f).1:=by
 obtain ⟨a,b,d⟩:=zkt (M:=M) (t:=t) h.la h.lw hi h.ln
 exact ⟨b,d,a,zmY h.many⟩
theorem zku {i:Nat}:∀ (n t:Nat) {f:Tr},i<f.states.length→Sch c M f→Followed c f i t →
   Sch c M (zcQ c M i n t f).1∧Grown f (zcQ c M i n t f).1∧((zcQ c M i n t f).2=true→(zcQ c M i n t f).1.whole=false)∧((zcQ c M i n t f).2=false→Followed c (zcQ c M i n t f).1 i (t+n))
 | 0,t,f,hi,h,hf=>by rw [zcQ];exact ⟨h,Grown.refl f,(fun h=>by cases h),fun _=>hf⟩
 | n+1,t,f,hi,h,hf=>by
   have hg:=zly (c:=c) (M:=M) i t f
   have hs:=zos (M:=M) (t:=t) hi h
   rw [zcQ]
   split
   · rename_i hv
     exact ⟨hs,hg,fun _=>zmX hv,fun h=>by rw [h] at hv;cases hv⟩
   rename_i hv
   have hv:(zco c M i t f).2=false:=by simpa using hv
   have hi':=(hg.at hi).2
   have hF:Followed c (zco c M i t f).1 i (t+1):=by
     intro u hu hgo
     by_cases e:u=t
     · subst e
       rw [(hg.at hi).1] at hgo ⊢
       exact zkq hi hv hgo
     exact (hf.grow hg hi) u (by omega) hgo
   obtain ⟨a,b,d,e⟩:=zku n (t+1) hi' hs hF
   exact ⟨a,hg.trans b,d,fun h=>by have:=e h;rwa [show t+1+n=t+(n+1) by omega] at this⟩
def zjv (c:DCode) (f:Tr) (n:Nat):Prop:=∀ i,i<n→i<f.states.length→Followed c f i (zcr f i).stacks.length
theorem ziF:∀ (n i:Nat) {f:Tr},i+n=M→Sch c M f→zjv c f i →
   Sch c M (zcI c M n i f)∧Grown f (zcI c M n i f)∧((zcI c M n i f).whole=true→zjv c (zcI c M n i f) (zcI c M n i f).states.length)
 | 0,i,f,hn,h,hf=>by
   rw [zcI]
   have hm:=h.many
   exact ⟨h,Grown.refl f,fun _ j hj hj'=>hf j (by omega) hj'⟩
 | n+1,i,f,hn,h,hf=>by
   rw [zcI]
   split
   · rename_i hi
     obtain ⟨a,b,d,e⟩:=zku (M:=M) (zcr f i).stacks.length 0 hi h (fun t ht=>absurd ht (Nat.not_lt_zero t))
     split
     · rename_i hs
       exact ⟨a,b,fun hw=>by rw [d hs] at hw;cases hw⟩
     rename_i hs
     have hs:(zcQ c M i (zcr f i).stacks.length 0 f).2=false:=by simpa using hs
     have hF:=e hs
     generalize (zcQ c M i (zcr f i).stacks.length 0 f).1=g at *
     rw [Nat.zero_add] at hF
     have hC:zjv c g (i+1):=by
       intro j hj hj'
       by_cases ej:j=i
       · subst ej;rw [(b.at hi).1];exact hF
       have hjf:j<f.states.length:=by omega
       rw [(b.at hjf).1]
       exact (hf j (by omega) hjf).grow b hjf
     obtain ⟨a2,b2,e2⟩:=ziF n (i+1) (by omega) a hC
     exact ⟨a2,b.trans b2,e2⟩
   rename_i hi
   exact ⟨h,Grown.refl f,fun _ j hj hj'=>hf j (by omega) hj'⟩
theorem zkv (hM:1≤M):Sch c M (zbW c M)∧((zbW c M).whole=true→zjv c (zbW c M) (zbW c M).states.length):=by
 have h0:Sch c M ⟨[zbO c],[-1],[-1],true⟩:=⟨rfl,rfl,⟨rfl,fun k h0 hk=>by simp at hk;omega⟩,hM⟩
 obtain ⟨a,b,d⟩:=ziF (c:=c) (M:=M) M 0 (by omega) h0 (fun i hi _=>absurd hi (Nat.not_lt_zero i))
 exact ⟨a,d⟩
theorem ziG {f:Tr} (h:Sch c M f):∀ (n k:Nat),k<f.states.length→k≤n →
   ((zc5 f n k).reverse.foldl (zby c) (zbO c)=zcr f k)∧∀ m (hm:m<(zc5 f n k).reverse.length),GoR c (((zc5 f n k).reverse.take m).foldl (zby c) (zbO c)) (zc5 f n k).reverse[m]
 | 0,k,hk,hn=>by
   have:k=0:=by omega
   subst this
   simp only [zc5,List.reverse_nil,List.foldl_nil]
   exact ⟨h.ln.1.symm,fun m hm=>by simp at hm⟩
 | n+1,k,hk,hn=>by
   by_cases h0:0<k
   · obtain ⟨i,t,h1,h2,h3,h4,h5⟩:=h.ln.2 k h0 hk
     obtain ⟨i1,i2⟩:=ziG h n i (by omega) (by omega)
     have e:zc5 f (n+1) k=(t:Int) :: zc5 f n i:=by
       rw [zc5,if_pos (by omega),Int.toNat_natCast,h3,h2]
     simp only [e,List.reverse_cons]
     obtain ⟨l,hl⟩:∃ l,l=(zc5 f n i).reverse:=⟨_,rfl⟩
     simp only [←hl] at i1 i2 ⊢
     refine ⟨by rw [List.foldl_append,i1];exact h5.symm,fun m hm=>?_⟩
     simp only [List.length_append,List.length_cons,List.length_nil] at hm
     by_cases hl:m<l.length
     · have e1:(l++[(t:Int)]).take m=l.take m:=by rw [List.take_append_of_le_length (by omega)]
       have e2:(l++[(t:Int)])[m]'(by simp;omega)=l[m]:=List.getElem_append_left hl
       simp only [e1,e2]
       exact i2 m hl
     have:m=l.length:=by omega
     subst this
     have e2:(l++[(t:Int)])[l.length]'(by simp)=t:=by simp
     simp only [e2,List.take_left]
     rw [i1];exact h4
   have:k=0:=by omega
   subst this
   have e:zc5 f (n+1) (0:Nat)=[]:=by rw [zc5,if_neg (by omega)]
   simp only [e,List.reverse_nil,List.foldl_nil]
   exact ⟨h.ln.1.symm,fun m hm=>by simp at hm⟩
end
def F82 (a0 a1 a2:Value) (w:World) (R:VW):Prop:=
 oP (Instr.box 28 a0) w fun x3 w=>
 oP (Instr.box 33 a1) w fun x4 w=>
 oP (Instr.alloc 33 true (.tuple #[])) w fun x6 w=>
 rL 33 x4 w fun x12=>
 cL 143 [x12] w fun x13 w=>
 oP (Instr.alloc 33 true (.tuple #[])) w fun x7 w=>
 oS 33 x7 x13 w fun w=>
 rF 33 x7 2 w fun x14=>
 rL 31 x14 w fun x15=>
 rX 31 x15 a2 w fun x17=>
 rL 25 x17 w fun x18=>
 rN 25 3 x18 w fun x19=>
 rB .sub 3 T0 U0 x19 (iV 1) w fun x20=>
 rF 33 x7 2 w fun x21=>
 rL 31 x21 w fun x22=>
 rX 31 x22 a2 w fun x24=>
 rL 25 x24 w fun x25=>
 rX 25 x25 x20 w fun x27=>
 rL 3 x27 w fun x28=>
 rF 28 x3 4 w fun x29=>
 rL 26 x29 w fun x30=>
 rX 26 x30 x28 w fun x32=>
 rL 77 x32 w fun x33=>
 oP (Instr.alloc 77 true (.tuple #[])) w fun x10 w=>
 oS 77 x10 x33 w fun w=>
 rA x28 (iV 1) w fun x35=>
 JOIN [11] (fun J30=>
 rF 77 x10 0 w fun x36=>
 rL 3 x36 w fun x37=>
 rB .eql 3 T0 U0 x37 (iV 1) w fun x39=>
 BR x39
 ((fun w=>rF 33 x7 0 w fun x40=>
 rL 25 x40 w fun x41=>
 rF 77 x10 1 w fun x42=>
 rL 3 x42 w fun x43=>
 rF 77 x10 2 w fun x44=>
 rL 75 x44 w fun x45=>
 rF 28 x3 0 w fun x46=>
 rL 24 x46 w fun x47=>
 rF 33 x4 0 w fun x48=>
 rL 25 x48 w fun x49=>
 (fun w_=>cL 144 [x45,x47,x49] w_ fun x50 w=>
 Ext w_ w ∧
 rX 25 x41 x43 w fun x51=>
 oS 3 x51 x50 w fun w=>
 J30 [x35] w) w) (World.drew1 w))
 (rB .eql 3 T0 U0 x37 (iV 2) w fun x53=>
 BR x53
 (rF 77 x10 2 w fun x54=>
 rL 75 x54 w fun x55=>
 rF 28 x3 0 w fun x56=>
 rL 24 x56 w fun x57=>
 rF 33 x4 0 w fun x58=>
 rL 25 x58 w fun x59=>
 cL 144 [x55,x57,x59] w fun x60 w=>
 rB .eql 3 T0 U0 x60 (iV 0) w fun x61=>
 BR x61
 (rF 77 x10 3 w fun x62=>
 rL 3 x62 w fun x63=>
 J30 [x63] w)
 (J30 [x35] w))
 (rB .eql 3 T0 U0 x37 (iV 3) w fun x65=>
 BR x65
 (rF 77 x10 3 w fun x66=>
 rL 3 x66 w fun x67=>
 J30 [x67] w)
 (rB .eql 3 T0 U0 x37 (iV 4) w fun x69=>
 BR x69
 ((fun w=>XR fun X=>RDX tp X (Instr.fieldAt 33 x7 2) w fun x70=>
 RDX tp X (Instr.loadAt 31 x70) w fun x71=>
 RDX tp X (Instr.fieldAt 33 x7 2) w fun x73=>
 RDX tp X (Instr.loadAt 31 x73) w fun x74=>
 RDX tp X (Instr.indexAt 31 x74 a2) w fun x76=>
 RDX tp X (Instr.loadAt 25 x76) w fun x77=>
 RDX tp X (Instr.fieldAt 28 x3 3) w fun x78=>
 RDX tp X (Instr.loadAt 25 x78) w fun x79=>
 RDX tp X (Instr.fieldAt 77 x10 1) w fun x80=>
 RDX tp X (Instr.loadAt 3 x80) w fun x81=>
 RDX tp X (Instr.indexAt 25 x79 x81) w fun x82=>
 RDX tp X (Instr.loadAt 3 x82) w fun x83=>
 (fun w_=>oP (Instr.buildSlice 25 1 #[(0,x83)]) w_ fun x84 w=>
 ExtX X w_ w ∧
 ((fun w_=>oP (Builtin.append_ #[25,25] 25 [x77,x84].toArray) w_ fun x85 w=>
 ExtX X w_ w ∧
 (RDX tp X (Instr.indexAt 31 x71 a2) w fun x86=>
 oS 25 x86 x85 w fun w=>
 rL 33 x7 w fun x87=>
 oS 33 x6 x87 w fun w=>
 rD (zaw 33 x6) w fun r6=>R r6 w)) w)) w) (World.drew1 w))
 (rB .eql 3 T0 U0 x37 (iV 5) w fun x89=>
 BR x89
 (rF 33 x7 2 w fun x90=>
 rL 31 x90 w fun x91=>
 rN 31 3 x91 w fun x92=>
 rB .lss 3 T0 U0 x92 (iV 6) w fun x93=>
 BR x93
 ((fun w=>rF 33 x7 2 w fun x94=>
 rL 31 x94 w fun x95=>
 rF 28 x3 3 w fun x96=>
 rL 25 x96 w fun x97=>
 rF 77 x10 1 w fun x98=>
 rL 3 x98 w fun x99=>
 rX 25 x97 x99 w fun x100=>
 rL 3 x100 w fun x101=>
 (fun w_=>oP (Instr.buildSlice 25 1 #[(0,x101)]) w_ fun x102 w=>
 Ext w_ w ∧
 ((fun w_=>oP (Instr.buildSlice 31 1 #[(0,x102)]) w_ fun x103 w=>
 Ext w_ w ∧
 (oP (Builtin.append_ #[31,31] 31 [x95,x103].toArray) w fun x104 w=>
 rF 33 x7 2 w fun x105=>
 oS 31 x105 x104 w fun w=>
 J30 [x35] w)) w)) w) (World.drew1 w))
 (J30 [x35] w))
 (rB .eql 3 T0 U0 x37 (iV 6) w fun x107=>
 BR x107
 (rF 33 x7 1 w fun x108=>
 rL 25 x108 w fun x109=>
 rF 77 x10 1 w fun x110=>
 rL 3 x110 w fun x111=>
 rX 25 x109 x111 w fun x113=>
 oS 3 x113 a2 w fun w=>
 J30 [x35] w)
 (rB .eql 3 T0 U0 x37 (iV 7) w fun x115=>
 BR x115
 (rF 33 x7 1 w fun x116=>
 rL 25 x116 w fun x117=>
 rF 77 x10 1 w fun x118=>
 rL 3 x118 w fun x119=>
 rX 25 x117 x119 w fun x120=>
 rL 3 x120 w fun x121=>
 rB .eql 3 T0 T0 x121 a2 w fun x123=>
 BR x123
 (rF 33 x7 1 w fun x124=>
 rL 25 x124 w fun x125=>
 rF 77 x10 1 w fun x126=>
 rL 3 x126 w fun x127=>
 rX 25 x125 x127 w fun x128=>
 oS 3 x128 (iV (-1)) w fun w=>
 J30 [x35] w)
 (J30 [x35] w))
 (rB .eql 3 T0 U0 x37 (iV 9) w fun x130=>
 BR x130
 ((fun w=>rF 33 x7 2 w fun x131=>
 rL 31 x131 w fun x132=>
 rF 33 x7 2 w fun x134=>
 rL 31 x134 w fun x135=>
 rX 31 x135 a2 w fun x137=>
 rL 25 x137 w fun x138=>
 rD (Instr.sliceAt 25 x138 none (some x20) none) w fun x140=>
 rX 31 x132 a2 w fun x141=>
 oS 25 x141 x140 w fun w=>
 rB .gtr 3 T0 U0 x20 (iV 0) w fun x143=>
 BR x143
 (rF 33 x7 2 w fun x144=>
 rL 31 x144 w fun x145=>
 rX 31 x145 a2 w fun x147=>
 rL 25 x147 w fun x148=>
 rB .sub 3 T0 U0 x20 (iV 1) w fun x150=>
 rX 25 x148 x150 w fun x151=>
 rL 3 x151 w fun x152=>
 rA x152 (iV 1) w fun x153=>
 rX 25 x148 x150 w fun x154=>
 oS 3 x154 x153 w fun w=>
 rL 33 x7 w fun x155=>
 oS 33 x6 x155 w fun w=>
 rD (zaw 33 x6) w fun r6=>R r6 w)
 (rL 33 x7 w fun x155=>
 oS 33 x6 x155 w fun w=>
 rD (zaw 33 x6) w fun r6=>R r6 w)) (World.drew1 w))
 (J30 [x35] w))))))))) (fun u30 w=>
 rF 33 x7 2 w fun x156=>
 rL 31 x156 w fun x157=>
 rX 31 x157 a2 w fun x159=>
 rL 25 x159 w fun x160=>
 rX 25 x160 x20 w fun x163=>
 oS 3 x163 (u30 11) w fun w=>
 rL 33 x7 w fun x164=>
 oS 33 x6 x164 w fun w=>
 rD (zaw 33 x6) w fun r6=>R r6 w)
def cfg82:Cfg:={ ext:=extL,joins:=[(30,91343852333181432387730302044767688659776309248,[11])],loops:=[],draws:=[(8,[0,1,2,3,4,5,6,7,8,9,10,11,12],1024),(15,[0,1,2,3,4,5,6,7,8,9,10,11,12,13,14,15,16,17],49152),(19,[0,1,2,3,4,5,6,7,8,9,10,11,12],768),(26,[0,1,2,3,4,5,6,7,8,9,10,11],0)],pars:=[],xs:=[15] }
theorem F82_call {a0 a1 a2:Value} {w:World} {R:VW} (h:F82 a0 a1 a2 w R):cL 82 [a0,a1,a2] w R:=co (g:=cfg82) Tryz.func82 (by kernel_rfl) (by kernel_rfl) (by kernel_rfl) h
theorem zqc {P:Program} {w:World} {t e:TypeId} {by_:Nat} {u:Value} {l:List Int} {G:List Nat} {k:Nat} {K:Value→Prop} (ht:P.underlying t=some (.slice e)) (he:tyI P e=some (1,by_,false)) (hm:Mine G w u l) (hk:k≤l.length) (hne:l≠[])
   (kk:∀ b a cap v G',u=.slice (some ⟨b,a,none⟩) l.length cap→Mine G' w v (l.take k)→(∀ c∈G',c∈G)→(0<k→v=.slice (some ⟨b,a,none⟩) k cap)→K v):RD P (Instr.sliceAt t u none (some (.int .i64 (k:Int))) none) w K:=by
 obtain ⟨⟨cs,⟨a,cap,Fi,xs,rfl,h1,h2,hc,h4⟩,rfl⟩,hn,hw⟩:=hm
 rcases h4 with ⟨h4,_⟩ | ⟨b,o,rfl,rfl,hr,hb⟩
 · exact absurd h4 hne
 have hFi:=Cells.flat (xs:=xs) hc
 subst hFi
 have hbd:∀ w',(Instr.sliceBounds true l.length cap none (some (.int .i64 (k:Int))) none).run P w'=.ok (0,k,cap) w':=fun w'=>by
   have h5:(k:Int)≤(cap:Int):=by omega
   simp [Instr.sliceBounds,Instr.sliceBound,asIntOf,h5]
   intro h6
   omega
 have e0:l=l.take k++l.drop k:=by simp
 have hc':=hc
 rw [e0] at hc'
 obtain ⟨F1,F2,x1,x2,hFF,rfl,c1,c2⟩:=Cells.split hc'
 obtain ⟨rfl,rfl⟩:=List.append_eq_nil_iff.1 hFF.symm
 have hlk:(l.take k).length=k:=by simp;omega
 have hval:∃ v:Value,(∀ w',(Instr.sliceAt t (.slice (some ⟨b,o,none⟩) l.length cap) none (some (.int .i64 (k:Int))) none).run P w'=.ok v w')∧v=.slice (some ⟨b,o,none⟩) k cap:=by
   refine ⟨_,fun w'=>?_,rfl⟩
   simp only [Instr.sliceAt,Instr.slice,Sem.run_bind,run_underlying ht,Result.andThen_ok,hbd,zaE he]
   simp [Addr.add_mid]
 obtain ⟨v,hrun,rfl⟩:=hval
 refine zbb (fun w' _=>hrun w') ?_
 by_cases h0:k=0
 · subst h0
   refine kk b o cap _ [] rfl ?_ (by simp) (fun h=>by omega)
   have:l.take 0=[]:=by simp
   rw [this]
   exact ⟨⟨_,⟨some ⟨b,o,none⟩,cap,[],[],rfl,Nat.zero_le _,h2,⟨rfl,rfl⟩,.inl ⟨rfl,rfl⟩⟩,rfl⟩,List.nodup_nil,Wr.nil w⟩
 refine kk b o cap _ [b] rfl ?_ (by simp) (fun _=>rfl)
 refine ⟨⟨_,⟨some ⟨b,o,none⟩,cap,[],x1,rfl,by rw [hlk];omega,h2,c1,.inr ⟨b,o,rfl,rfl,(zar hr).1,hb⟩⟩,by rw [hlk];rfl⟩,by simp,hw.sub (by simp)⟩
theorem zmZ {w W0 W1:World} {v0 v1:Value} {c:DCode} {s:DState} {t:Int} (h0:Is W0 v0 c) (e0:Ext W0 w) (h1:Is W1 v1 s) (e1:Ext W1 w) (hc:CodeR c) (hs:zaK c s) (hgo:GoR c s t) :
   CALL Tryz.prog 82 [v0,v1,.int .i64 t] w fun r w'=>Ext w w'∧Own w.heap.size w' r (zby c s t):=by
 obtain ⟨tn,rfl,htn,hne,hl8,hat⟩:=zjn hs hgo.1
 have hatlt:=zlo hs tn
 have hat0:0≤zdR s tn:=hgo.1
 have hpos:=List.length_pos_iff.2 hne
 refine F82_call ?_
 unfold F82
 refine zbR h0 e0 fun w1 hx1 hA1=>?_
 refine zbR h1 (e1.trans hx1) fun w2 hx2 hA2=>?_
 refine za6 zl7 fun w3 hx3 hB3=>?_
 have hg3:=hB3.lt
 have hs1:=hx1.size
 have hs2:=hx2.size
 refine zab zbf hA2 hx3 fun v12 h12=>?_
 refine (zmJ h12 hx3 (zjo hc hs)).mono ?_
 rintro r13 w4 ⟨hx4,z,o13,hz⟩
 have hs4:=hx4.size
 refine zc8 (α:=DStV) zl7 fun w5 hx5 hv5=>?_
 have hs5:=hx5.size
 have hg5:=hv5.lt
 refine zaP zbf hv5 (o13.ext hx5) (by omega) fun w6 hc6 hv6=>?_
 have hs6:=hc6.size
 have hx36:Ext w3 w6:=Ext.chgI (hx4.trans hx5) hc6 (by omega)
 have hzl:z.stacks.l.map RV.l=s.stacks:=congrArg DState.stacks hz
 have hzn:tn<z.stacks.l.length:=by have:=congrArg List.length hzl;simp at this;omega
 refine zaa zaC ?_
 refine zab (α:=RIntss) zc1 (zdE hv6.at) (Ext.refl w6) fun v15 k15=>?_
 obtain ⟨rfl,h15⟩:=zh4 k15
 refine zad (α:=RInts) u31 zaJ h15 hzn fun b17 o17 hA17=>?_
 refine zab (α:=RInts) zaJ hA17 (Ext.refl w6) fun v18 k18=>?_
 obtain ⟨rfl,h18⟩:=zh4 k18
 obtain ⟨x,hx⟩:∃ x,x=z.stacks.l[tn]:=⟨_,rfl⟩
 have hxl:x.l=stk s tn:=by
   have e1:(z.stacks.l.map RV.l)[tn]?=s.stacks[tn]?:=by rw [hzl]
   rw [List.getElem?_map,List.getElem?_eq_getElem hzn,List.getElem?_eq_getElem htn] at e1
   have e2:=Option.some.inj e1
   rw [hx,e2]
   exact zdU (t:=(tn:Int)) (by simpa using htn)
 rw [←hx] at h18 ⊢
 refine zae u25 h18 ?_
 refine za8 (by unfold I64;rw [hxl];omega) ?_
 obtain ⟨top,htop⟩:∃ top:Nat,(x.l.length:Int)-1=top:=⟨x.l.length-1,by rw [hxl];omega⟩
 have htl:top<x.l.length:=by omega
 rw [htop]
 have hx7:=Ext.refl w6
 have hs7:=hx7.size
 have hx16:Ext w1 w6:=hx2.trans (hx3.trans hx36)
 have hx26:Ext w2 w6:=hx3.trans hx36
 refine zaa zaC ?_
 refine zaS zc1 (zdE hv6.at) (Ext.refl w6) ?_
 refine zad (α:=RInts) u31 zaJ h15 hzn fun b24 o24 hA24=>?_
 rw [←hx] at hA24
 refine zaS zaJ hA24 (Ext.refl w6) ?_
 refine zad u25 ty3 h18 htl fun b26 o26 hA26=>?_
 have hget:x.l[top]=zdR s tn:=by
   rw [zgQ,hat,hxl]
   congr 1
   rw [hxl] at htop;omega
 rw [hget] at hA26
 refine zac ty3 hA26 hx7 fun hI27=>?_
 refine zaa zbL ?_
 refine zab zeX (zaz hA1) hx16 fun v23 h23=>?_
 refine zas u26 zga h23 hgo.1 (by omega) fun b28 o28 hA28=>?_
 rw [zbk] at hA28
 refine zab zga hA28 hx16 fun v29 h29=>?_
 refine zes zqE rfl zga rfl h29 hx16 fun w8 hx8 hA10 hV10=>?_
 have hs8:=hx8.size
 have hins:=hc.f.ins
 refine zb3 (by unfold I64;omega) ?_
 have hR:=zfZ hc hs hgo.1
 obtain ⟨I,hI⟩:∃ I,I=atI c s tn:=⟨_,rfl⟩
 have hA10:At w8 w6.heap.size 0 I:=by rw [hI];exact hA10
 have hx68:=hx7.trans hx8
 have hv8:VarI w3.heap.size w8.heap.size w8 w4.heap.size z:=(hv6.ext hx68).mono (Nat.le_refl _) (by omega)
 have hx38:Ext w3 w8:=hx36.trans hx68
 have hres:∀ (zz:DState) (w9:World),Ext w3 w9→VarI w3.heap.size w9.heap.size w9 w4.heap.size zz→zz=zby c s tn →
     RD Tryz.prog (Instr.loadAt 33 (.pointer (some ⟨w4.heap.size,0,none⟩))) w9 fun x148=>OPU Tryz.prog (Instr.storeAt 33 (.pointer (some ⟨w2.heap.size,0,none⟩)) x148) w9 fun w'=>
       RD Tryz.prog (zaw 33 (.pointer (some ⟨w2.heap.size,0,none⟩))) w' fun r6=>Ext w w'∧Own w.heap.size w' r6 (zby c s tn):=by
   intro zz w9 hx9 hv9 he
   have hs9:=hx9.size
   refine zeB zbf hv9 (Ext.refl w9) fun v148 o148=>?_
   obtain ⟨a,b,c',rfl⟩:=zpd o148
   refine za7 (α:=DState) zbf rfl (hB3.ext hx9) rfl o148 fun w10 hc10 hB10=>?_
   refine zdc hB10 zbf ?_
   refine ⟨Ext.chgI (hx1.trans (hx2.trans (hx3.trans hx9))) hc10 (by omega),?_⟩
   have:=o148.chg hc10 (by omega)
   rw [he] at this
   exact this.own.mono (by omega)
 refine JOIN.mk (fun us w'=>us=[.int .i64 (zcn c s tn)]∧Ext w3 w'∧∃ z':DStV,VarI w3.heap.size w'.heap.size w' w4.heap.size z'∧z'.vars=(zaM c s tn).vars∧z'.owner=(zaM c s tn).owner∧z'.stacks.l.map RV.l=(zaM c s tn).stacks∧z'.stacks.l[tn]?=some x∧(I.op≠4∧I.op≠9)) ?_ ?_
 · refine zaa zck ?_
   refine zac ty3 (zaT hA10) (Ext.refl w8) fun _=>?_
   have hzv:z.vars=s.vars:=congrArg DState.vars hz
   have hzo:z.owner=s.owner:=congrArg DState.owner hz
   have hzx:z.stacks.l[tn]?=some x:=by rw [List.getElem?_eq_getElem hzn,hx]
   have same:∀ w9,Ext w8 w9→(I.op≠1∧I.op≠4∧I.op≠5∧I.op≠6∧I.op≠7∧I.op≠9)→∃ z':DStV,VarI w3.heap.size w9.heap.size w9 w4.heap.size z'∧z'.vars=(zaM c s tn).vars∧z'.owner=(zaM c s tn).owner∧z'.stacks.l.map RV.l=(zaM c s tn).stacks∧z'.stacks.l[tn]?=some x∧(I.op≠4∧I.op≠9):=by
     rintro w9 hx9 ⟨q1,q4,q5,q6,q7,q9⟩
     have he:zaM c s tn=s:=by unfold zaM;rw [←hI,if_neg q1,if_neg q5,if_neg q6,if_neg q7]
     rw [he]
     exact ⟨z,(hv8.ext hx9).mono (Nat.le_refl _) hx9.size,hzv,hzo,hzl,hzx,q4,q9⟩
   have hnext:I.op≠2→I.op≠3→zcn c s tn=zdR s tn+1:=fun q2 q3=>by unfold zcn;rw [←hI,if_neg q2,if_neg q3]
   refine zag ?_
   refine br (fun q1=>?_) (fun q1=>?_)
   · have hx9:=zah w8
     have hs9:=hx9.size
     have hg8:=hv8.lt
     obtain ⟨har0,har1⟩:=zoi hc hs hat0 (hI▸q1)
     rw [←hI] at har0 har1
     obtain ⟨ar,har⟩:∃ ar:Nat,I.arg=ar:=⟨I.arg.toNat,by omega⟩
     have har2:ar<z.vars.length:=by rw [hzv];omega
     obtain ⟨u,b,a,cap,hr,hIs,hu,hst⟩:=zmc (hv8.ext hx9) (by omega) har2
     refine zaa zdh ?_
     refine zbI zaJ hr ?_
     refine zaa zcH ?_
     refine zac ty3 (za9 hA10) hx9 fun _=>?_
     refine zaa zdI ?_
     refine zab zb6 (zbB hA10) hx9 fun v54 h54=>?_
     refine zaa zc0 ?_
     refine zab zcJ (zaW hA1) (hx16.trans (hx68.trans hx9)) fun v56 h56=>?_
     refine zaa zdh ?_
     refine zab zaJ (za2 hA2) (hx26.trans (hx68.trans hx9)) fun v58 h58=>?_
     have hok:zaI 6 I.term=true:=by
       have:=hR.2.2.1
       rw [←hI,if_pos (.inl q1)] at this
       exact this.1
     refine (zf2 h54 hx9 h56 (hx16.trans (hx68.trans hx9)) h58 (hx26.trans (hx68.trans hx9)) hok).mono ?_
     rintro _ w10 ⟨hx10,rfl⟩
     refine ⟨hx10,?_⟩
     have hs10:=hx10.size
     rw [har]
     refine zb2 u25 ty3 hu har2 ?_
     have hwr:=zcv c.globals s.vars 6 I.term
     refine hst w10 hx10 _ (by unfold I64;omega) _ fun w11 hc11 hv11=>?_
     have hs11:=hc11.size
     have hrest:zaM c s tn=⟨s.vars.set I.arg.toNat (workT c.globals s.vars 6 I.term),s.owner,s.stacks⟩:=by unfold zaM;rw [←hI,if_pos q1]
     refine ⟨by rw [hnext (by omega) (by omega)],Ext.chgI ((hx38.trans hx9).trans hx10) hc11 (by omega),_,hv11.mono (Nat.le_refl _) (by omega),?_,?_,?_,hzx,by omega,by omega⟩
     · rw [hrest,hzv,har];rfl
     · rw [hrest];exact hzo
     rw [hrest];exact hzl
   refine zag ?_
   refine br (fun q2=>?_) (fun q2=>?_)
   · refine zaa zdI ?_
     refine zab zb6 (zbB hA10) (Ext.refl w8) fun v54 h54=>?_
     refine zaa zc0 ?_
     refine zab zcJ (zaW hA1) (hx16.trans hx68) fun v56 h56=>?_
     refine zaa zdh ?_
     refine zab zaJ (za2 hA2) (hx26.trans hx68) fun v58 h58=>?_
     have hok:zaI 6 I.term=true:=by
       have:=hR.2.2.1
       rw [←hI,if_pos (.inr q2)] at this
       exact this.1
     refine (zf2 h54 (Ext.refl w8) h56 (hx16.trans hx68) h58 (hx26.trans hx68) hok).mono ?_
     rintro _ w9 ⟨hx9,rfl⟩
     refine zag ?_
     refine br (fun q=>?_) (fun q=>?_)
     · refine zaa zet ?_
       refine zac ty3 (zb4 hA10) hx9 fun _=>?_
       exact ⟨by unfold zcn;rw [←hI,if_pos q2,if_pos q],hx38.trans hx9,same w9 hx9 (by omega)⟩
     exact ⟨by unfold zcn;rw [←hI,if_pos q2,if_neg q],hx38.trans hx9,same w9 hx9 (by omega)⟩
   refine zag ?_
   refine br (fun q3=>?_) (fun q3=>?_)
   · refine zaa zet ?_
     refine zac ty3 (zb4 hA10) (Ext.refl w8) fun _=>?_
     exact ⟨by unfold zcn;rw [←hI,if_neg q2,if_pos q3],hx38,same w8 (Ext.refl w8) (by omega)⟩
   have hn:=hnext q2 q3
   refine zag ?_
   refine br (fun q4=>?_) (fun q4=>?_)
   · have hx9:=zah w8
     have hs9:=hx9.size
     have hg8:=hv8.lt
     obtain ⟨har0,har1⟩:=ze5 hc hs hat0 (.inl (hI▸q4))
     rw [←hI] at har0 har1
     obtain ⟨ar,har⟩:∃ ar:Nat,I.arg=ar:=⟨I.arg.toNat,by omega⟩
     obtain ⟨F,hO,hF⟩:=hv6.ext (hx68.trans hx9)
     have hlt:=hO.lts
     obtain ⟨G1,hL1⟩:=zcc (Lens.var hO)
     obtain ⟨b2,a2,cap2,G2,hv2,hG21,hL2⟩:=hL1.elemV hzn
     rw [←hx] at hL2
     obtain ⟨cs1,⟨rfl,_⟩,hr1,_,_,hg1,_⟩:=hL1.here
     obtain ⟨cs,⟨rfl,hrow⟩,hr2,hnG,_,hb2,_⟩:=hL2.here
     have hG2F:∀ c∈G2,c∈F:=fun c hcm=>by
       rcases List.mem_cons.1 (hL2.sub c (by simp [hcm])) with rfl | h
       · exact absurd (hG21 _ (by simp [hcm])) hg1
       exact h
     have hGb:∀ c∈G2,w3.heap.size≤c∧c<w4.heap.size:=fun c hcm=>hF c (hG2F c hcm)
     have hX3:∀ c,c∈G2→w3.heap.size≤c:=fun c hcm=>(hGb c hcm).1
     have hx39:=hx38.trans hx9
     refine XR.mk (fun c=>c∈G2) ?_
     refine zcP zaC ?_
     refine zdo zc1 hr1 (fun h=>by have:=hGb _ h;omega) ?_
     refine zcP zaC ?_
     refine zdo zc1 hr1 (fun h=>by have:=hGb _ h;omega) ?_
     refine zcF (w0:=w3) hX3 hx39 ?_
     refine zb2 u31 zaJ hv2 hzn ?_
     refine zdo zaJ hr2 hb2 ?_
     refine zcP zbe ?_
     refine zcF (w0:=w3) hX3 hx39 ?_
     refine zab zaJ (zao hA1) (hx2.trans hx3) fun v74 h74=>?_
     refine zcP zcH ?_
     refine zdo ty3 (zbj (znX (za9 hA10)) hx9) (fun h=>by have:=hGb _ h;omega) ?_
     rw [har]
     refine zcF (w0:=w3) hX3 hx39 ?_
     refine zad u25 ty3 h74 (by omega) fun b77 o77 hA77=>?_
     rw [zbD] at hA77
     refine zcF (w0:=w3) hX3 hx39 ?_
     refine zac ty3 hA77 (hx2.trans hx3) fun hI78=>?_
     refine zdn (β:=Int) (G:=G2) u25 ty3 z3 zc3 (by decide) hrow hnG (zbT hI78) (by simp) (by rw [zak,hxl];omega) (by rw [hxl];omega) (fun w10 v80 w11 G' hx10 hc11 hR11 hN11 hs11=>?_) fun sv w10 hx10 hop=>⟨hx10.toX,hop⟩
     refine ⟨hc11.toX (fun c h=>h),?_⟩
     have hs10:=hx10.size
     have hs11':=hc11.size
     have hc911:Chg G2 (World.drew1 w8) w11:=(hx10.chg G2).trans hc11
     have hx311:Ext w3 w11:=Ext.chgI hx39 (hc911.toI (lo:=w3.heap.size) (hi:=w4.heap.size) hGb) (Nat.le_refl _)
     refine zcF (w0:=w3) hX3 hx311 ?_
     refine zb2 u31 zaJ hv2 hzn ?_
     refine zeb zaJ hL2 hlt hc911 hR11 hN11 (fun c hcm=>?_) fun w12 hc12 ⟨F',hO',hF'⟩=>?_
     · rcases hs11 c hcm with h | h | h
       · exact .inl h
       · simp at h
       exact .inr h
     have hs12:=hc12.size
     have hcI:ChgI w3.heap.size w8.heap.size (World.drew1 w8) w12:=hc12.toI fun c hcm=>by
       have:=hL2.sub c hcm
       rcases List.mem_cons.1 this with rfl | h
       · exact ⟨by omega,hg8⟩
       have:=hF c h;omega
     refine hres _ w12 (Ext.chgI hx39 hcI (Nat.le_refl _)) (zjp ⟨F',hO',fun c hcm=>?_⟩) ?_
     · have h1:=hO'.lts c (by simp [hcm])
       rcases hF' c hcm with h | h
       · rcases List.mem_cons.1 h with rfl | h
         · obtain ⟨_,_,_,_,_,hnn,_⟩:=hO';exact absurd hcm hnn
         have:=hF c h;omega
       omega
     unfold zby DStV.er
     have e1:((tn:Int)).toNat=tn:=by omega
     rw [←hI,if_pos q4]
     simp only [DState.mk.injEq,hzv,hzo,true_and]
     rw [List.map_set,hzl,hxl,e1,har,Int.toNat_natCast]
   refine zag ?_
   refine br (fun q5=>?_) (fun q5=>?_)
   · have hg8:=hv8.lt
     obtain ⟨har0,har1⟩:=ze5 hc hs hat0 (.inr (hI▸q5))
     rw [←hI] at har0 har1
     obtain ⟨ar,har⟩:∃ ar:Nat,I.arg=ar:=⟨I.arg.toNat,by omega⟩
     have hzlen:z.stacks.l.length=s.stacks.length:=by have:=congrArg List.length hzl;simpa using this
     refine zaa zaC ?_
     refine zab (α:=RIntss) zc1 (zdE hv8.at) (Ext.refl w8) fun v86 k86=>?_
     obtain ⟨rfl,h86⟩:=zh4 k86
     refine zae u31 h86 ?_
     rw [hzlen]
     refine zai ?_
     refine br (fun qq=>?_) (fun qq=>?_)
     · have hx9:=zah w8
       have hs9:=hx9.size
       obtain ⟨F,hO,hF⟩:=hv8.ext hx9
       have hlt:=hO.lts
       obtain ⟨G1,hL1⟩:=zcc (Lens.var hO)
       refine zaa zaC ?_
       refine zaS zc1 (zdE hv8.at) hx9 ?_
       refine zaa zbe ?_
       refine zab zaJ (zao hA1) (hx16.trans (hx68.trans hx9)) fun v92 h92=>?_
       refine zaa zcH ?_
       refine zac ty3 (za9 hA10) hx9 fun _=>?_
       rw [har]
       refine zad u25 ty3 h92 (by omega) fun b95 o95 hA95=>?_
       rw [zbD] at hA95
       refine zac ty3 hA95 (hx16.trans (hx68.trans hx9)) fun hI96=>?_
       refine ze2 (β:=Int) u25 ty3 z3 (by decide) (zbT hI96) fun v97 w10 hx10 r97=>?_
       refine ⟨hx10,?_⟩
       have hs10:=hx10.size
       obtain ⟨GX,hMX,hGX⟩:=zdd r97
       obtain ⟨cs,⟨rfl,hrow⟩,_,hnG,_⟩:=hL1.here
       have hGlt:∀ c∈G1,c<(World.drew1 w8).heap.size:=fun c hcm=>hlt c (hL1.sub c (by simp [hcm]))
       refine zdn (β:=RInts) (G:=G1) (w:=w10) u31 zaJ z25 zqD (by decide) (hrow.keep fun c hcm=>hx10.heap (hGlt c hcm)) hnG hMX (fun c hcm hg=>by have:=hGX c hcm;have:=hGlt c hg;omega) (by rw [zak,hzlen];omega) (by rw [hzlen];omega) (fun w11 v99 w12 G' hx11 hc12' hR12 hN12 hs12=>?_) fun sv w11 hx11 hop=>⟨hx11,hop⟩
       have hc12:Chg G1 w10 w12:=(hx11.chg G1).trans hc12'
       refine zaa zaC ?_
       refine zeb zc1 hL1 hlt ((hx10.chg G1).trans hc12) hR12 hN12 (fun c hcm=>?_) fun w13 hc13 ⟨F',hO',hF'⟩=>?_
       · rcases hs12 c hcm with h | h | h
         · exact .inl h
         · exact .inr (hGX c h).1
         exact .inr (by omega)
       have hs13:=hc13.size
       have hcI:ChgI w3.heap.size w8.heap.size (World.drew1 w8) w13:=hc13.toI fun c hcm=>by
         have:=hL1.sub c hcm
         rcases List.mem_cons.1 this with rfl | h
         · exact ⟨by omega,hg8⟩
         exact hF c h
       have hrest:zaM c s tn=⟨s.vars,s.owner,s.stacks++[[en c I.arg.toNat]]⟩:=by unfold zaM;rw [←hI,if_neg q1,if_pos q5,if_pos (by omega)]
       refine ⟨by rw [hn],Ext.chgI (hx38.trans hx9) hcI (Nat.le_refl _),_,⟨F',hO',fun c hcm=>?_⟩,?_,?_,?_,?_,by omega,by omega⟩
       · have h1:=hO'.lts c (by simp [hcm])
         rcases hF' c hcm with h | h
         · rcases List.mem_cons.1 h with rfl | h
           · obtain ⟨_,_,_,_,_,hnn,_⟩:=hO';exact absurd hcm hnn
           have:=hF c h;omega
         omega
       · rw [hrest];exact hzv
       · rw [hrest];exact hzo
       · rw [hrest]
         simp only [List.map_append,List.map_cons,List.map_nil,hzl,har,Int.toNat_natCast]
       show (z.stacks.l++_)[tn]?=some x
       rw [List.getElem?_append_left hzn];exact hzx
     have hrest:zaM c s tn=s:=by unfold zaM;rw [←hI,if_neg q1,if_pos q5,if_neg (by omega)]
     refine ⟨by rw [hn],hx38,z,hv8,?_,?_,?_,hzx,by omega,by omega⟩
     · rw [hrest];exact hzv
     · rw [hrest];exact hzo
     rw [hrest];exact hzl
   refine zag ?_
   refine br (fun q6=>?_) (fun q6=>?_)
   · have hg8:=hv8.lt
     obtain ⟨har0,har1⟩:=ze4 hc hs hat0 (.inl (hI▸q6))
     rw [←hI] at har0 har1
     obtain ⟨ar,har⟩:∃ ar:Nat,I.arg=ar:=⟨I.arg.toNat,by omega⟩
     have har2:ar<z.owner.length:=by rw [hzo];omega
     obtain ⟨u,b,a,cap,hr,hIs,hu,hst⟩:=zf3 hv8 (by omega) har2
     refine zaa zb5 ?_
     refine zbI zaJ hr ?_
     refine zaa zcH ?_
     refine zac ty3 (za9 hA10) (Ext.refl w8) fun _=>?_
     rw [har]
     refine zb2 u25 ty3 hu har2 ?_
     have hmany:=hs.2.2.1
     refine hst w8 (Ext.refl w8) _ (by unfold I64;omega) _ fun w11 hc11 hv11=>?_
     have hs11:=hc11.size
     have hrest:zaM c s tn=⟨s.vars,s.owner.set I.arg.toNat tn,s.stacks⟩:=by unfold zaM;rw [←hI,if_neg q1,if_neg q5,if_pos q6]
     refine ⟨by rw [hn],Ext.chgI hx38 hc11 (by omega),_,hv11.mono (Nat.le_refl _) (by omega),?_,?_,?_,hzx,by omega,by omega⟩
     · rw [hrest];exact hzv
     · rw [hrest,hzo,har];rfl
     rw [hrest];exact hzl
   refine zag ?_
   refine br (fun q7=>?_) (fun q7=>?_)
   · have hg8:=hv8.lt
     obtain ⟨har0,har1⟩:=ze4 hc hs hat0 (.inr (hI▸q7))
     rw [←hI] at har0 har1
     obtain ⟨ar,har⟩:∃ ar:Nat,I.arg=ar:=⟨I.arg.toNat,by omega⟩
     have har2:ar<z.owner.length:=by rw [hzo];omega
     obtain ⟨u,b,a,cap,hr,hIs,hu,hst⟩:=zf3 hv8 (by omega) har2
     refine zaa zb5 ?_
     refine zbI zaJ hr ?_
     refine zaa zcH ?_
     refine zac ty3 (za9 hA10) (Ext.refl w8) fun _=>?_
     rw [har]
     refine zad u25 ty3 hIs har2 fun b115 o115 hA115=>?_
     refine zac ty3 hA115 (Ext.refl w8) fun _=>?_
     have how:z.owner[ar]=ow s I.arg:=by
       have:ar<s.owner.length:=by rw [←hzo];exact har2
       rw [har,←zpC this]
       congr 1
     rw [how]
     refine zag ?_
     refine br (fun qq=>?_) (fun qq=>?_)
     · refine zaa zb5 ?_
       refine zbI zaJ hr ?_
       refine zaa zcH ?_
       refine zac ty3 (za9 hA10) (Ext.refl w8) fun _=>?_
       rw [har]
       refine zb2 u25 ty3 hu har2 ?_
       refine hst w8 (Ext.refl w8) _ (by unfold I64;omega) _ fun w11 hc11 hv11=>?_
       have hs11:=hc11.size
       have hrest:zaM c s tn=⟨s.vars,s.owner.set I.arg.toNat (-1),s.stacks⟩:=by unfold zaM;rw [←hI,if_neg q1,if_neg q5,if_neg q6,if_pos q7,if_pos qq]
       refine ⟨by rw [hn],Ext.chgI hx38 hc11 (by omega),_,hv11.mono (Nat.le_refl _) (by omega),?_,?_,?_,hzx,by omega,by omega⟩
       · rw [hrest];exact hzv
       · rw [hrest,hzo,har];rfl
       rw [hrest];exact hzl
     have hrest:zaM c s tn=s:=by unfold zaM;rw [←hI,if_neg q1,if_neg q5,if_neg q6,if_pos q7,if_neg qq]
     refine ⟨by rw [hn],hx38,z,hv8,?_,?_,?_,hzx,by omega,by omega⟩
     · rw [hrest];exact hzv
     · rw [hrest];exact hzo
     rw [hrest];exact hzl
   refine zag ?_
   refine br (fun q9=>?_) (fun q9=>?_)
   · have hx9:=zah w8
     have hs9:=hx9.size
     have hg8:=hv8.lt
     have hx39:=hx38.trans hx9
     obtain ⟨F,hO,hF⟩:=hv6.ext (hx68.trans hx9)
     have hlt:=hO.lts
     obtain ⟨G1v,hL1v⟩:=zcc (Lens.var hO)
     obtain ⟨b2v,a2v,cap2v,G2v,hv2v,hG21v,hL2v⟩:=hL1v.elemV hzn
     rw [←hx] at hL2v
     obtain ⟨cs1,⟨rfl,_⟩,hr1v,_,_,hg1v,_⟩:=hL1v.here
     obtain ⟨cs2,⟨rfl,hrow2⟩,hr2v,_,_,_,hwb2⟩:=hL2v.here
     have hOs:OAt F (World.drew1 w8) w4.heap.size 0 s:=by have:=zoh hO;rwa [hz] at this
     obtain ⟨G1,hL1⟩:=zdk (Lens.var hOs)
     obtain ⟨_,_,_,_,_,hgG1,_⟩:=hL1.here
     obtain ⟨u1,b2,a2,cap2,G2,hr1,hIs1,hu1,hL2⟩:=hL1.elem htn
     have hu:u1=z.stacks.v:=zce hr1 hr1v
     refine zaa zaC ?_
     refine zbI zc1 hr1 ?_
     refine zaa zaC ?_
     refine zbI zc1 hr1 ?_
     refine zb2 u31 zaJ hu1 htn ?_
     have hbb:b2=b2v∧a2=a2v:=by
       rw [hu,hv2v] at hu1
       simp only [Value.slice.injEq,Option.some.injEq,Addr.mk.injEq] at hu1
       exact ⟨hu1.1.1.symm,hu1.1.2.1.symm⟩
     obtain ⟨rfl,rfl⟩:=hbb
     obtain ⟨ux,hMx,hrx,hGx,_⟩:=hL2.row
     obtain ⟨_,_,_,_,_,hb2G2,_⟩:=hL2.here
     have hux:ux=x.v:=zce hrx hr2v
     have hsl:s.stacks[tn]=x.l:=by rw [hxl];exact zdU (t:=(tn:Int)) (by simpa using htn)
     rw [hux,hsl] at hMx
     refine zbI zaJ hr2v ?_
     refine zqc u25 ty3 hMx (by omega) (by rw [hxl];exact hne) fun bx ax capx v132 G' hxv hM' hG' hv'=>?_
     refine zb2 u31 zaJ hu1 htn ?_
     have hb2G':b2∉G':=fun h=>hb2G2 (hG' _ h)
     have hb2g:b2≠w4.heap.size:=fun e=>hg1v (e▸hG21v b2 (by simp))
     have hrep':=zaV rfl hM'.own
     have hone':v132.oneCell'=true:=Rep.one hrep' v132 (by simp)
     refine zg8 zaJ hwb2 hr2v hrow2.one hone' fun w10 hch hr10=>?_
     have hkeep':∀ c∈G',w10.heap[c]?=(World.drew1 w8).heap[c]?:=fun c hcm=>hch.chg.block c (hM'.lt c hcm) (by simp;exact fun e=>hb2G' (e▸hcm))
     obtain ⟨cb,eb,hcb⟩:=hwb2
     obtain ⟨cb',hcb',_⟩:=hch.cell cb eb hcb
     have hOy:OAt G' w10 b2 (a2+tn*Rep.size (List Int)) (x.l.take top):=⟨[v132],Rep.keep hrep' hkeep',hr10,hM'.nodup,hM'.wr.keep hkeep',hb2G',cb',eb,hcb'⟩
     have hg10:w10.heap[w4.heap.size]?=(World.drew1 w8).heap[w4.heap.size]?:=hch.chg.block _ (hlt _ (by simp)) (by simp;exact fun e=>hb2g e.symm)
     obtain ⟨F',hO',hF'⟩:=hL2.back w10 G' (x.l.take top) (hch.mono (Nat.le_refl _) (Nat.le_refl _) (by simp)) hOy (fun c hcm=>.inl (hG' c hcm))
     have hs10:=hch.chg.size
     have hFb:∀ c∈F',w3.heap.size≤c∧c<w4.heap.size:=fun c hcm=>by
       have hin:c∈w4.heap.size :: F:=by
         rcases hF' c hcm with h | h
         · exact h
         exact hGx c (hG' c h)
       rcases List.mem_cons.1 hin with rfl | h
       · obtain ⟨_,_,_,_,_,hnn,_⟩:=hO';exact absurd hcm hnn
       exact hF c h
     have hb2F:b2∈w4.heap.size :: F:=hL2.sub b2 (by simp)
     have hcI:ChgI w3.heap.size w8.heap.size (World.drew1 w8) w10:=hch.chg.toI fun c hcm=>by
       simp only [List.mem_cons,List.not_mem_nil,or_false] at hcm
       subst hcm
       rcases List.mem_cons.1 hb2F with h | h
       · rw [h];exact ⟨by omega,hg8⟩
       have:=hF _ h;omega
     have hx310:Ext w3 w10:=Ext.chgI hx39 hcI (Nat.le_refl _)
     have e1:((tn:Int)).toNat=tn:=by omega
     have hlen:x.l.length=top+1:=by omega
     have htop8:top<8:=by have h:=htl;rw [hxl] at h;omega
     refine zci ?_
     refine br (fun hp=>?_) (fun hp=>?_)
     · refine zaa zaC ?_
       refine zbI zc1 (zaN hr1 hg10) ?_
       refine zb2 u31 zaJ hu1 htn ?_
       refine zbI zaJ hr10 ?_
       refine za8 (by unfold I64;omega) ?_
       obtain ⟨tp,htp⟩:∃ tp:Nat,(top:Int)-1=tp:=⟨top-1,by omega⟩
       rw [htp]
       obtain ⟨G1',hL1'⟩:=zdk (Lens.var hO')
       have hk':tn<(s.stacks.set tn (x.l.take top)).length:=by simpa using htn
       obtain ⟨u1',b2',a2',cap2',G2',hr1',_,hu1',hL2'⟩:=hL1'.elem hk'
       have hu':u1'=u1:=zce hr1' (zaN hr1 hg10)
       have hbb':b2'=b2∧a2'=a2:=by
         rw [hu',hu1] at hu1'
         simp only [Value.slice.injEq,Option.some.injEq,Addr.mk.injEq] at hu1'
         exact ⟨hu1'.1.1.symm,hu1'.1.2.1.symm⟩
       obtain ⟨rfl,rfl⟩:=hbb'
       have hel:(s.stacks.set tn (x.l.take top))[tn]'hk'=x.l.take top:=List.getElem_set_self ..
       simp only [hel] at hL2'
       obtain ⟨uy,by',ay',capy',G3',hry,hIsy,huy,hL3'⟩:=hL2'.elem (k:=tp) (by simp;omega)
       have huy':uy=v132:=zce hry hr10
       have hv132:=hv' (by omega)
       have hbx:by'=bx∧ay'=ax:=by
         rw [huy',hv132] at huy
         simp only [Value.slice.injEq,Option.some.injEq,Addr.mk.injEq] at huy
         exact ⟨huy.1.1.symm,huy.1.2.1.symm⟩
       obtain ⟨rfl,rfl⟩:=hbx
       refine zb2 u25 ty3 hv132 (k:=tp) (by omega) ?_
       have hval:(x.l.take top)[tp]'(by simp;omega)=st x.l tp:=by
         rw [List.getElem_take,zgQ]
       refine zac ty3 hL3'.here.at (Ext.refl w10) fun hI140=>?_
       rw [hval]
       have hstr:0≤st x.l tp∧st x.l tp<c.ins.length:=by
         have hmem:=hs.2.2.2.2.2 x.l (by rw [←hsl];exact List.getElem_mem _)
         exact hmem.2.1 tp (by omega)
       refine zb3 (by unfold I64;omega) ?_
       refine zb2 u25 ty3 hv132 (k:=tp) (by omega) ?_
       have hg10':w4.heap.size<w10.heap.size:=by omega
       refine zdL (α:=DState) (lo:=w3.heap.size) (hi:=w10.heap.size) ty3 hL3' (fun c hcm=>by have:=hFb c hcm;omega) (by omega) (zbT (x:=st x.l tp+1) (by unfold I64;omega)) fun w11 hc11 hv11=>?_
       have hs11:=hc11.size
       refine hres _ w11 (Ext.chgI hx310 hc11 (Nat.le_refl _)) (hv11.mono (Nat.le_refl _) (by omega)) ?_
       unfold zby
       rw [←hI,if_neg q4,if_pos q9]
       simp only [DState.mk.injEq,true_and,e1,List.set_set]
       congr 1
       unfold zhQ
       rw [←hxl,hlen,if_neg (by omega),show top+1-1=top by omega,show top+1-2=tp by omega]
     refine hres _ w10 hx310 ⟨F',hO',fun c hcm=>by have:=hFb c hcm;omega⟩ ?_
     unfold zby
     rw [←hI,if_neg q4,if_pos q9]
     simp only [DState.mk.injEq,true_and,e1]
     congr 1
     unfold zhQ
     have ht0:top=0:=by omega
     subst ht0
     rw [←hxl,hlen]
     simp
   exact ⟨by rw [hn],hx38,same w8 (Ext.refl w8) (by omega)⟩
 rintro uj w9 ⟨hu,hx9,z',hv9,hz1,hz2,hz3,hz4,ho4,ho9⟩
 simp only [List.map_cons,List.map_nil,List.cons.injEq,and_true] at hu
 rw [hu]
 have hs9:=hx9.size
 obtain ⟨hk',hxk⟩:=List.getElem?_eq_some_iff.1 hz4
 have hg9:=hv9.lt
 obtain ⟨F,hO,hF⟩:=hv9
 obtain ⟨G1,hL1⟩:=zcc (Lens.var hO)
 obtain ⟨b2,a2,cap2,G2,hv2,_,hL2⟩:=hL1.elemV hk'
 rw [hxk] at hL2
 obtain ⟨cs1,⟨rfl,_⟩,hr1,_⟩:=hL1.here
 obtain ⟨cs2,⟨rfl,_⟩,hr2,_⟩:=hL2.here
 refine zaa zaC ?_
 refine zbI zc1 hr1 ?_
 refine zb2 u31 zaJ hv2 hk' ?_
 refine zbI zaJ hr2 ?_
 refine zl2 (e:=3) u25 ty3 hL2 htl fun b3 o3 G3 hL3=>?_
 have hI64:I64 (zcn c s tn):=by
   have hto:I.op=2∨I.op=3→I64 I.to:=fun h=>by
     have:=hR.2.2.2
     rw [←hI,if_pos h] at this
     obtain ⟨i,hi,_,_,hpr⟩:=hc.f.find hc.1.procs8.2 hat0 hatlt.2
     have h1:=hc.f.nonneg hi
     have h2:=(hc.f.lt i hi).2
     rw [hpr,zcT,Int.toNat_natCast] at this
     unfold I64;omega
   unfold zcn
   rw [←hI]
   split
   · split
     · exact hto (.inl (by assumption))
     unfold I64;omega
   split
   · exact hto (.inr (by assumption))
   unfold I64;omega
 refine zdL ty3 hL3 hF (by omega) (zbT hI64) fun w10 hc10 hv10=>?_
 have hs10:=hc10.size
 refine hres _ w10 (Ext.chgI hx9 hc10 (Nat.le_refl _)) (zjp (hv10.mono (Nat.le_refl _) (by omega))) ?_
 unfold zby DStV.er
 rw [←hI,if_neg ho4,if_neg ho9]
 simp only [DState.mk.injEq,hz1,hz2,true_and]
 have e1:((tn:Int)).toNat=tn:=by omega
 have e2:(stk s tn).length-1=top:=by rw [←hxl];omega
 rw [List.map_set,hz3,hxl,e1,e2]
theorem zf4 {w W:World} {v:Value} {s:DState} (h:Is W v s) (e:Ext W w) (hsz:zqP s) :
   CALL Tryz.prog 79 [v] w fun r w'=>Ext w w'∧Own w.heap.size w' r s:=
 (zgO h e hsz).mono fun r w' ⟨hx,z,ho,hz⟩=>⟨hx,hz▸(zqb ho).own⟩
def zgU (c:DCode) (s:DState) (t:Int):DState:=if (CodeR c∧zaK c s)∧GoR c s t then zby c s t else s
def F19 (a0 a1 a2:Value) (w:World) (R:VW):Prop:=
 oP (Instr.box 28 a0) w fun x3 w=>
 oP (Instr.box 33 a1) w fun x4 w=>
 oP (Instr.alloc 33 true (.tuple #[])) w fun x6 w=>
 rL 28 x3 w fun x8=>
 rL 33 x4 w fun x9=>
 cL 14 [x8,x9] w fun x10 w=>
 rD (Op.unary .not x10) w fun x11=>
 BR x11
 (rL 33 x4 w fun x19=>
 cL 79 [x19] w fun x20 w=>
 oS 33 x6 x20 w fun w=>
 rD (zaw 33 x6) w fun r6=>R (Value.tuple #[r6,(Value.bool false)]) w)
 (rL 28 x3 w fun x13=>
 rL 33 x4 w fun x14=>
 cL 78 [x13,x14,a2] w fun x16 w=>
 rD (Op.unary .not x16) w fun x17=>
 BR x17
 (rL 33 x4 w fun x19=>
 cL 79 [x19] w fun x20 w=>
 oS 33 x6 x20 w fun w=>
 rD (zaw 33 x6) w fun r6=>R (Value.tuple #[r6,(Value.bool false)]) w)
 (rL 28 x3 w fun x21=>
 rL 33 x4 w fun x22=>
 cL 80 [x21,x22,a2] w fun x24 w=>
 oS 33 x6 x24 w fun w=>
 rD (zaw 33 x6) w fun r6=>R (Value.tuple #[r6,(Value.bool true)]) w))
def cfg19:Cfg:=⟨extL,[],[],[],[],[],[]⟩
theorem F19_call {a0 a1 a2:Value} {w:World} {R:VW} (h:F19 a0 a1 a2 w R):cL 19 [a0,a1,a2] w R:=co (g:=cfg19) Tryz.func19 (by kernel_rfl) (by kernel_rfl) (by kernel_rfl) h
theorem zf5 {w:World} {v0:Value} {W0:World} {c:DCode} {v1:Value} {W1:World} {s:DState} {t:Int}  (h0:Is W0 v0 c) (e0:Ext W0 w) (h1:Is W1 v1 s) (e1:Ext W1 w) (hz:zqP s) :
   CALL Tryz.prog 19 [v0,v1,.int .i64 t] w fun r w'=>Ext w w'∧(∃ a,r=.tuple #[a,.bool (decide ((CodeR c∧zaK c s)∧GoR c s t))]∧Own w.heap.size w' a (zgU c s t)):=by
 refine F19_call ?_
 unfold F19
 have hs_e0:=e0.size
 have hs_e1:=e1.size
 refine zap zcx rfl h0 e0 fun w1_ hx1_ hA3 hV3=>?_
 have hs_hx1_:=hx1_.size
 refine zap zbf rfl h1 (e1.trans hx1_) fun w2_ hx2_ hA4 hV4=>?_
 have hs_hx2_:=hx2_.size
 refine zc8 (α:=DState) zro fun w3_ hx3_ hv6=>?_
 have hg6:=hv6.lt
 have hs_hx3_:=hx3_.size
 refine zaB hV3 (hx2_.trans hx3_) ?_
 refine zaB hV4 hx3_ ?_
 refine (zff h0 (e0.trans (hx1_.trans (hx2_.trans hx3_))) h1 (e1.trans (hx1_.trans (hx2_.trans hx3_)))).mono ?_
 rintro _ w4_ ⟨hx4_,rfl⟩
 have hs_hx4_:=hx4_.size
 refine zau ?_
 refine br (fun c1=>?_) (fun c1=>?_)
 · refine zaB hV4 (hx3_.trans hx4_) ?_
   refine (zf4 h1 (e1.trans (hx1_.trans (hx2_.trans (hx3_.trans hx4_)))) (by assumption)).mono ?_
   rintro r20 w5_ ⟨hx5_,o20⟩
   have o20:=o20.toI
   have hs_hx5_:=hx5_.size
   refine zaP zbf (hv6.ext (hx4_.trans hx5_)) (o20.ext (Ext.refl w5_)) (by omega) fun w6_ hc6_ hv6_s6=>?_
   have hs_hc6_:=hc6_.size
   have o20_c6:=(o20.ext (Ext.refl w5_)).chg hc6_ (by omega)
   refine zbA zbf hv6_s6 (Ext.refl w6_) fun r6 hr6=>?_
   replace hr6:=hr6.ext (Ext.refl w6_)
   refine ⟨(Ext.chgI ((((hx1_.trans hx2_).trans hx3_).trans hx4_).trans hx5_) hc6_ (by omega)),?_⟩
   rw [decide_eq_false fun h=>c1 h.1,show zgU c s t=s from if_neg fun h=>c1 h.1]
   exact ⟨_,rfl,hr6.own.mono (by omega)⟩
 have hcs:=Decidable.not_not.1 c1
 have hc:=hcs.1
 have hs:=hcs.2
 refine zaB hV3 (hx2_.trans (hx3_.trans hx4_)) ?_
 refine zaB hV4 (hx3_.trans hx4_) ?_
 refine (zlq h0 (e0.trans (hx1_.trans (hx2_.trans (hx3_.trans hx4_)))) h1 (e1.trans (hx1_.trans (hx2_.trans (hx3_.trans hx4_)))) (by assumption) (by assumption)).mono ?_
 rintro _ w7_ ⟨hx7_,rfl⟩
 have hs_hx7_:=hx7_.size
 refine zau ?_
 refine br (fun c2=>?_) (fun c2=>?_)
 · refine zaB hV4 (hx3_.trans (hx4_.trans hx7_)) ?_
   refine (zf4 h1 (e1.trans (hx1_.trans (hx2_.trans (hx3_.trans (hx4_.trans hx7_))))) (by assumption)).mono ?_
   rintro r20 w8_ ⟨hx8_,o20⟩
   have o20:=o20.toI
   have hs_hx8_:=hx8_.size
   refine zaP zbf (hv6.ext (hx4_.trans (hx7_.trans hx8_))) (o20.ext (Ext.refl w8_)) (by omega) fun w9_ hc9_ hv6_s9=>?_
   have hs_hc9_:=hc9_.size
   have o20_c9:=(o20.ext (Ext.refl w8_)).chg hc9_ (by omega)
   refine zbA zbf hv6_s9 (Ext.refl w9_) fun r6 hr6=>?_
   replace hr6:=hr6.ext (Ext.refl w9_)
   refine ⟨(Ext.chgI (((((hx1_.trans hx2_).trans hx3_).trans hx4_).trans hx7_).trans hx8_) hc9_ (by omega)),?_⟩
   rw [decide_eq_false fun h=>c2 h.2,show zgU c s t=s from if_neg fun h=>c2 h.2]
   exact ⟨_,rfl,hr6.own.mono (by omega)⟩
 have hgo:=Decidable.not_not.1 c2
 refine zaB hV3 (hx2_.trans (hx3_.trans (hx4_.trans hx7_))) ?_
 refine zaB hV4 (hx3_.trans (hx4_.trans hx7_)) ?_
 refine (ziy h0 (e0.trans (hx1_.trans (hx2_.trans (hx3_.trans (hx4_.trans hx7_))))) h1 (e1.trans (hx1_.trans (hx2_.trans (hx3_.trans (hx4_.trans hx7_))))) (by assumption) (by assumption) (by assumption)).mono ?_
 rintro r24 w10_ ⟨hx10_,o24⟩
 have o24:=o24.toI
 have hs_hx10_:=hx10_.size
 refine zaP zbf (hv6.ext (hx4_.trans (hx7_.trans hx10_))) (o24.ext (Ext.refl w10_)) (by omega) fun w11_ hc11_ hv6_s11=>?_
 have hs_hc11_:=hc11_.size
 have o24_c11:=(o24.ext (Ext.refl w10_)).chg hc11_ (by omega)
 refine zbA zbf hv6_s11 (Ext.refl w11_) fun r6 hr6=>?_
 replace hr6:=hr6.ext (Ext.refl w11_)
 refine ⟨(Ext.chgI (((((hx1_.trans hx2_).trans hx3_).trans hx4_).trans hx7_).trans hx10_) hc11_ (by omega)),?_⟩
 rw [decide_eq_true ⟨hcs,hgo⟩,show zgU c s t=zby c s t from if_pos ⟨hcs,hgo⟩]
 exact ⟨_,rfl,hr6.own.mono (by omega)⟩
end Go.Proofs.YtbnjpfjjmhodnaaGreat
namespace Go.Sh
open Go.RowKit (Below)
open Rep (rep)
section
variable {P:Program} {w w0 w':World} {α β:Type} [Rep α] [Rep β] {lo hi e g o:Nat}
theorem zec {t:TypeId} {by_:Nat} {u:Value} {x:β} {lo2 hi2:Nat} {K:Value→World→Prop} (ht:P.underlying t=some (.slice e)) (he:tyI P e=some (Rep.size β,by_,Rep.agg β)) (hz:zbQ P e=true) (hsz:Rep.size β≤1000) (hx:OwnI lo2 hi2 w u x) (hlo:lo2≤w.heap.size)
   (k:∀ v w',Ext w w'→RowI lo2 w'.heap.size e w' v [x]→K v w'):OP P (Instr.buildSlice t 1 #[(0,u)]) w K:=by
 obtain ⟨F,⟨⟨cs,hr,rfl⟩,hn,hw⟩,hF⟩:=hx
 have hcl:=zcX hr
 have hlen:=Rep.len hr
 have hvs:(mkv β cs).cells.size=Rep.size β:=by rw [←Array.length_toList,hcl,hlen]
 obtain ⟨i,d,hi,hd,hs,hby,hg⟩:=zcf he
 unfold zbQ at hz
 rw [hi] at hz
 obtain ⟨z,hz⟩:=Option.isSome_iff_exists.1 hz
 have hpos:=Rep.pos (α:=β)
 have hFlt:=Rep.lt hr
 have hxx:=zaL w (.cells (mkv β cs).cells e)
 have hnew:=(Array.getElem?_eq_some_iff.1 (heap_alloc_new w (.cells (mkv β cs).cells e))).1
 refine ⟨_,w.alloc (.cells (mkv β cs).cells e),?_,k (.slice (some ⟨w.heap.size,0,none⟩) 1 1) _ hxx (.inr ⟨w.heap.size :: F,⟨cs,F,⟨by simp [hlen],.inr ⟨w.heap.size,1,(mkv β cs).cells,rfl,Nat.zero_le _,heap_alloc_new w _,Nat.le_refl _,by rw [zak];omega,by rw [hvs,Nat.one_mul],?_⟩⟩,Cells.single (zbw hr hxx),rfl,hw.ext hxx⟩,?_,?_⟩)⟩
 · have hne:¬Rep.size β=0:=by omega
   have h24:¬2^24<Rep.size β:=by omega
   simp only [Instr.buildSlice,Sem.run_bind,run_underlying ht,Result.andThen_ok,zaE he,Nat.one_mul]
   simp [h24,hne,zeroValue,typeInfo,hi,hz,zi0 _ _ _ hvs,newRow]
 · rw [hcl,List.length_singleton,Nat.one_mul,List.take_of_length_le (by omega)]
 · exact List.nodup_cons.2 ⟨fun h=>by have:=hFlt _ h;omega,hn⟩
 intro b hb
 rcases List.mem_cons.1 hb with rfl | hb
 · exact ⟨hlo,hnew⟩
 exact ⟨(hF b hb).1,by have:=hFlt b hb;have:=hxx.size;omega⟩
theorem zqd {t:TypeId} {v:Value} {x:α} {K:Value→World→Prop} (ha:Rep.agg α=true) (h:OwnI lo hi w v x) (k:∀ w',Ext w w'→VarI lo hi w' w.heap.size x→K (.pointer (some ⟨w.heap.size,0,none⟩)) w'):OP P (Instr.box t v) w K:=by
 obtain ⟨F,⟨⟨cs,hr,rfl⟩,hn,hw⟩,hF⟩:=h
 have:mkv α cs=.agg cs.toArray:=by simp [mkv,ha]
 rw [this]
 refine zlb fun w' hx hB=>k w' hx ⟨F,⟨cs,zbw hr hx,?_,hn,hw.ext hx,fun hm=>by have:=Rep.lt hr _ hm;omega,_,_,hB⟩,hF⟩
 simpa using hB.range
theorem zhX {x:RV β e} (h:At w g o x):Is w x.v x.l:=by
 obtain ⟨F,cs,⟨rfl,hR⟩,hr⟩:=h
 exact hR.own.is
theorem zqX {x:RV β e} (h:At w g o x):w.rangeAt g o [x.v]:=by
 obtain ⟨F,cs,⟨rfl,hR⟩,hr⟩:=h
 exact hr
theorem zpf {X:Nat→Prop} {t by_ g e:Nat} {cs:List Value} {K:Value→Prop} (hB:Blk g e w cs) (ht:tyI P t=some (cs.length,by_,true)) (hX:¬X g) (k:K (.agg cs.toArray)):RDX P X (Instr.loadAt t (.pointer (some ⟨g,0,none⟩))) w K:=by
 refine ⟨_,fun w' hx'=>?_,k⟩
 obtain ⟨v,h1,h2⟩:=zdb (P:=P) (w:=w') (K:=fun v=>v=.agg cs.toArray) (hB.keep (hx'.block g hB.lt hX)) ht rfl
 rw [←h2];exact h1 w' (Ext.refl _)
theorem ze7 {t ty:TypeId} {by_ by2:Nat} {x:α} {s:RV β e} {upd:RV β e→α} {u:Value} {y:β} {lo2 hi2:Nat} {K:World→Prop} {C:Value→World→Prop} (ht:P.underlying t=some (.slice e)) (he:tyI P e=some (Rep.size β,by_,Rep.agg β)) (hz:zbQ P e=true)
   (hzc:(P.info? e).map (fun i=>(i.zero.map (·.cells.size)))=some (some (Rep.size β))) (hsz:Rep.size β≤1000) (hft:tyI P t=some (1,by2,false)) (hv:VarI lo hi w0 g x) (hg:lo≤g∧g<hi) (hx0:Ext w0 w)
   (hL:∀ {F:List Nat},OAt F w0 g 0 x→∃ G,Lens (VH g) (g :: F) w0 g o G s upd) (hx:OwnI lo2 hi2 w u y) (hl:hi≤lo2) (hl2:w0.heap.size≤lo2) (hlo:lo≤w0.heap.size) (hm:s.l.length+1≤maxLen) (hb:(s.l.length+1)*by_≤140737488355328)
   (k:∀ v' w3,ChgI lo hi w0 w3→VarI lo w3.heap.size w3 g (upd ⟨v',s.l++[y]⟩)→K w3)
   (hC:∀ a w1,Ext w w1→OP P (Builtin.append_ #[t,t] ty [s.v,a].toArray) w1 (fun r w2=>ExtX (fun b=>lo≤b∧b<hi∧b≠g) w1 w2∧OPU P (Instr.storeAt t (.pointer (some ⟨g,o,none⟩)) r) w2 K)→C a w1):OP P (Instr.buildSlice t 1 #[(0,u)]) w C:=by
 obtain ⟨F,hO,hF⟩:=hv
 obtain ⟨G,hLL⟩:=hL hO
 obtain ⟨cs,⟨rfl,hrow⟩,hr,hnG,hw,hbG,hwb⟩:=hLL.here
 have hlt:=hO.lts
 have hgF:g∉F:=by obtain ⟨_,_,_,_,_,h,_⟩:=hO;exact h
 have hGs:∀ c∈G,c∈g :: F:=fun c hc=>hLL.sub c (by simp [hc])
 have hGF:∀ c∈G,c∈F:=fun c hc=>by
   rcases List.mem_cons.1 (hGs c hc) with h | h
   · exact absurd (h▸hc) hbG
   exact h
 obtain ⟨GX,hMX,hGX⟩:=hx
 refine zdn (K:=fun w1 r w2=>ExtX (fun b=>lo≤b∧b<hi∧b≠g) w1 w2∧OPU P (Instr.storeAt t (.pointer (some ⟨g,o,none⟩)) r) w2 K) ht he hz hzc hsz (hrow.keep fun c hc=>hx0.heap (hlt c (hGs c hc))) hnG hMX (fun c hcm hcg=>by have:=hGX c hcm;have:=hF c (hGF c hcg);omega) hm hb (fun w1 v' w2 G' hx1 hc2 hR2 hN2 hs2=>⟨?_,?_⟩) hC
 · exact hc2.toX fun c hc=>⟨(hF c (hGF c hc)).1,(hF c (hGF c hc)).2,fun e=>hbG (e▸hc)⟩
 refine zeb hft hLL hlt (((hx0.trans hx1).chg G).trans hc2) hR2 hN2 (fun c hcm=>?_) fun w3 hc3 ⟨F',hO',hF'⟩=>?_
 · rcases hs2 c hcm with h | h | h
   · exact .inl h
   · exact .inr (by have:=hGX c h;omega)
   exact .inr (Nat.le_trans hx0.size h)
 refine k v' w3 (hc3.toI fun c hc=>?_) ⟨F',hO',fun c hc=>⟨?_,hO'.lts c (by simp [hc])⟩⟩
 · rcases List.mem_cons.1 hc with rfl | hc
   · exact hg
   exact hF c (hGF c hc)
 rcases hF' c hc with h | h
 · rcases List.mem_cons.1 h with rfl | h
   · exact hg.1
   exact (hF c h).1
 omega
end
end Go.Sh
namespace Go.Sh
open Rep (rep)
abbrev RSts:=RV DState 33
structure DTrail where
 states:RSts
 ahead:RInts
 went:RInts
 whole:Bool
theorem DTrail.ext_iff {x y:DTrail}:x=y↔(x.states=y.states∧x.ahead=y.ahead∧x.went=y.went∧x.whole=y.whole):=⟨fun h=>by rw [h];exact ⟨rfl,rfl,rfl,rfl⟩,fun h=>by obtain ⟨h0,h1,h2,h3⟩:=h;cases x;cases y;simp only at h0 h1 h2 h3;simp only [h0,h1,h2,h3]⟩
instance:Rep DTrail:=Rep.via fun x=>(x.states,x.ahead,x.went,x.whole)
theorem zat {w:World} {b o:Nat} {x:DTrail} (h:At w b o x):At w b (o+0) x.states:=zcj (α:=RSts) (β:=RInts×RInts×Bool) (p:=(x.states,x.ahead,x.went,x.whole)) h
theorem zeq {w:World} {b o:Nat} {x:DTrail} (h:At w b o x):At w b (o+1) x.ahead:=zcj (α:=RInts) (β:=RInts×Bool) (p:=(x.ahead,x.went,x.whole)) (zaO (α:=RSts) (β:=RInts×RInts×Bool) (p:=(x.states,x.ahead,x.went,x.whole)) h)
theorem zer {w:World} {b o:Nat} {x:DTrail} (h:At w b o x):At w b (o+2) x.went:=zcj (α:=RInts) (β:=Bool) (p:=(x.went,x.whole)) (zaO (α:=RInts) (β:=RInts×Bool) (p:=(x.ahead,x.went,x.whole)) (zaO (α:=RSts) (β:=RInts×RInts×Bool) (p:=(x.states,x.ahead,x.went,x.whole)) h))
theorem zhY {w:World} {b o:Nat} {x:DTrail} (h:At w b o x):At w b (o+3) x.whole:=zaO (α:=RInts) (β:=Bool) (p:=(x.went,x.whole)) (zaO (α:=RInts) (β:=RInts×Bool) (p:=(x.ahead,x.went,x.whole)) (zaO (α:=RSts) (β:=RInts×RInts×Bool) (p:=(x.states,x.ahead,x.went,x.whole)) h))
theorem zm0 {w:World} {x:DTrail} {F0:List Nat} {c0:List Value} (h0:rep F0 w c0 x.states) {F1:List Nat} {c1:List Value} (h1:rep F1 w c1 x.ahead) {F2:List Nat} {c2:List Value} (h2:rep F2 w c2 x.went) {F3:List Nat} {c3:List Value} (h3:rep F3 w c3 x.whole):rep (F0++(F1++(F2++F3))) w (c0++(c1++(c2++c3))) x:=zav h0 (zav h1 (zav h2 (h3)))
instance:RepZ DTrail:=⟨⟨(RepZ.zv:RSts),(RepZ.zv:RInts),(RepZ.zv:RInts),(RepZ.zv:Bool)⟩,RepZ.zc (RSts×RInts×RInts×Bool),fun w=>RepZ.zr (α:=RSts×RInts×RInts×Bool) w⟩
theorem zf6 {γ:Type} {H:List Nat→World→γ→Prop} {F:List Nat} {w:World} {b o:Nat} {G:List Nat} {x:DTrail} {upd:DTrail→γ} (h:Lens H F w b o G x upd) :
   ∃ G1,Lens H F w b (o+0) G1 x.states (fun y=>upd ⟨y,x.ahead,x.went,x.whole⟩):=by
 have h':Lens H F w b o G (x.states,x.ahead,x.went,x.whole) (fun p:RSts×RInts×RInts×Bool=>upd ⟨p.1,p.2.1,p.2.2.1,p.2.2.2⟩):=⟨h.here,h.sub,fun w' G' y' hc hO hs=>h.back w' G' _ hc hO hs⟩
 obtain ⟨G0,h'⟩:=h'.fst
 exact ⟨_,h'⟩
theorem zf7 {γ:Type} {H:List Nat→World→γ→Prop} {F:List Nat} {w:World} {b o:Nat} {G:List Nat} {x:DTrail} {upd:DTrail→γ} (h:Lens H F w b o G x upd) :
   ∃ G1,Lens H F w b (o+1) G1 x.ahead (fun y=>upd ⟨x.states,y,x.went,x.whole⟩):=by
 have h':Lens H F w b o G (x.states,x.ahead,x.went,x.whole) (fun p:RSts×RInts×RInts×Bool=>upd ⟨p.1,p.2.1,p.2.2.1,p.2.2.2⟩):=⟨h.here,h.sub,fun w' G' y' hc hO hs=>h.back w' G' _ hc hO hs⟩
 obtain ⟨G0,h'⟩:=h'.snd
 obtain ⟨G1,h'⟩:=h'.fst
 exact ⟨_,h'⟩
theorem zf8 {γ:Type} {H:List Nat→World→γ→Prop} {F:List Nat} {w:World} {b o:Nat} {G:List Nat} {x:DTrail} {upd:DTrail→γ} (h:Lens H F w b o G x upd) :
   ∃ G1,Lens H F w b (o+2) G1 x.went (fun y=>upd ⟨x.states,x.ahead,y,x.whole⟩):=by
 have h':Lens H F w b o G (x.states,x.ahead,x.went,x.whole) (fun p:RSts×RInts×RInts×Bool=>upd ⟨p.1,p.2.1,p.2.2.1,p.2.2.2⟩):=⟨h.here,h.sub,fun w' G' y' hc hO hs=>h.back w' G' _ hc hO hs⟩
 obtain ⟨G0,h'⟩:=h'.snd
 obtain ⟨G1,h'⟩:=h'.snd
 obtain ⟨G2,h'⟩:=h'.fst
 exact ⟨_,h'⟩
theorem zf9 {γ:Type} {H:List Nat→World→γ→Prop} {F:List Nat} {w:World} {b o:Nat} {G:List Nat} {x:DTrail} {upd:DTrail→γ} (h:Lens H F w b o G x upd) :
   ∃ G1,Lens H F w b (o+3) G1 x.whole (fun y=>upd ⟨x.states,x.ahead,x.went,y⟩):=by
 have h':Lens H F w b o G (x.states,x.ahead,x.went,x.whole) (fun p:RSts×RInts×RInts×Bool=>upd ⟨p.1,p.2.1,p.2.2.1,p.2.2.2⟩):=⟨h.here,h.sub,fun w' G' y' hc hO hs=>h.back w' G' _ hc hO hs⟩
 obtain ⟨G0,h'⟩:=h'.snd
 obtain ⟨G1,h'⟩:=h'.snd
 obtain ⟨G2,h'⟩:=h'.snd
 exact ⟨_,h'⟩
theorem zm1 {w:World} {F:List Nat} {cs:List Value} {x:DTrail} (h:rep F w cs x):∃ F0 c0 F1 c1 F2 c2 F3 c3,F=(F0++(F1++(F2++F3)))∧cs=(c0++(c1++(c2++c3)))∧rep F0 w c0 x.states∧rep F1 w c1 x.ahead∧rep F2 w c2 x.went∧rep F3 w c3 x.whole:=by
 obtain ⟨F0,G0,c0,d0,rfl,rfl,h0,h⟩:=h
 obtain ⟨F1,G1,c1,d1,rfl,rfl,h1,h⟩:=h
 obtain ⟨F2,G2,c2,d2,rfl,rfl,h2,h⟩:=h
 exact ⟨_,_,_,_,_,_,_,_,rfl,rfl,h0,h1,h2,h⟩
section
variable {w:World}
theorem ziH {z:DTrail} {lo hi h0 h1:Nat} (m0:OwnI lo h0 w z.states.v z.states) (m1:OwnI h0 h1 w z.ahead.v z.ahead) (m2:OwnI h1 hi w z.went.v z.went) (hle:lo≤h0∧h0≤h1∧h1≤hi) :
   OwnI lo hi w (.agg #[z.states.v,z.ahead.v,z.went.v,.bool z.whole]) z:=by
 obtain ⟨F0,M0,B0⟩:=m0
 obtain ⟨F1,M1,B1⟩:=m1
 obtain ⟨F2,M2,B2⟩:=m2
 refine ⟨F0++(F1++(F2++[])),⟨⟨[z.states.v,z.ahead.v,z.went.v,.bool z.whole],zm0 (zaV rfl M0.own) (zaV rfl M1.own) (zaV rfl M2.own) ⟨rfl,rfl⟩,rfl⟩,?_,M0.wr.append (M1.wr.append (M2.wr.append (Wr.nil w)))⟩,fun x hx=>?_⟩
 · rw [List.append_nil,List.nodup_append,List.nodup_append]
   refine ⟨M0.nodup,⟨M1.nodup,M2.nodup,fun p hp q hq e=>?_⟩,fun p hp q hq e=>?_⟩
   · subst e;have:=B1 p hp;have:=B2 p hq;omega
   subst e
   have:=B0 p hp
   rcases List.mem_append.1 hq with hq | hq
   · have:=B1 p hq;omega
   have:=B2 p hq;omega
 rw [List.append_nil] at hx
 rcases List.mem_append.1 hx with hx | hx
 · have:=B0 x hx;omega
 rcases List.mem_append.1 hx with hx | hx
 · have:=B1 x hx;omega
 have:=B2 x hx;omega
theorem zkw {lo hi:Nat} {v:Value} {z:DTrail} (h:OwnI lo hi w v z):v=.agg #[z.states.v,z.ahead.v,z.went.v,.bool z.whole]∧RowI lo hi 33 w z.states.v z.states.l∧RowI lo hi 3 w z.ahead.v z.ahead.l∧RowI lo hi 3 w z.went.v z.went.l:=by
 obtain ⟨F,⟨⟨cs,hr,rfl⟩,hn,hw⟩,hF⟩:=h
 obtain ⟨F0,c0,F1,c1,F2,c2,F3,c3,rfl,rfl,⟨rfl,h0⟩,⟨rfl,h1⟩,⟨rfl,h2⟩,⟨rfl,rfl⟩⟩:=zm1 hr
 have n0:=zhC hn
 have n1:=zhC n0.2.1
 have n2:=zhC n1.2.1
 exact ⟨rfl,zcU.2 ⟨F0,h0,n0.1,fun b hb=>hF b (by simp [hb])⟩,zcU.2 ⟨F1,h1,n1.1,fun b hb=>hF b (by simp [hb])⟩,zcU.2 ⟨F2,h2,n2.1,fun b hb=>hF b (by simp [hb])⟩⟩
end
def DTrail.er (z:DTrail):Go.Proofs.YtbnjpfjjmhodnaaGreat.Tr:=⟨z.states.l,z.ahead.l,z.went.l,z.whole⟩
end Go.Sh
namespace Go.Proofs.YtbnjpfjjmhodnaaGreat
open Go Go.Sh Go.Proofs
open Rep (rep)
def F149 (a0 a1:Value) (w:World) (R:VW):Prop:=
 oP (Instr.box 33 a0) w fun x2 w=>
 rL 33 x2 w fun x4=>
 rL 33 a1 w fun x5=>
 cL 26 [x4,x5] w fun x6 w=>
 R x6 w
def cfg149:Cfg:=⟨extL,[],[],[],[],[],[]⟩
theorem F149_call {a0 a1:Value} {w:World} {R:VW} (h:F149 a0 a1 w R):cL 149 [a0,a1] w R:=co (g:=cfg149) Tryz.func149 (by kernel_rfl) (by kernel_rfl) (by kernel_rfl) h
def F88 (a0 a1:Value) (w:World) (R:VW):Prop:=
 oP (Instr.box 33 a1) w fun x3 w=>
 rD (Instr.makeFunc (Go.Fn.func 149) [].toArray [x3].toArray) w fun x6=>
 cL 148 [a0,x6] w fun x7 w=>
 R x7 w
def cfg88:Cfg:=⟨extL,[],[],[],[],[],[]⟩
theorem F88_call {a0 a1:Value} {w:World} {R:VW} (h:F88 a0 a1 w R):cL 88 [a0,a1] w R:=co (g:=cfg88) Tryz.func88 (by kernel_rfl) (by kernel_rfl) (by kernel_rfl) h
def F86 (a0 a1:Value) (w:World) (R:VW):Prop:=
 oP (Instr.box 28 a0) w fun x2 w=>
 oP (Instr.alloc 100 true (.tuple #[])) w fun x4 w=>
 cL 145 [a1,(iV 1),(iV 150)] w fun x10 w=>
 rL 28 x2 w fun x11=>
 cL 73 [x11] w fun x12 w=>
 oP (Instr.buildSlice 46 1 #[(0,x12)]) w fun x13 w=>
 oP (Instr.buildSlice 25 1 #[(0,(iV (-1)))]) w fun x14 w=>
 oP (Instr.buildSlice 25 1 #[(0,(iV (-1)))]) w fun x15 w=>
 rD (Instr.build 100 #[(0,x13),(1,x14),(2,x15),(3,(Value.bool true))]) w fun x16=>
 oP (Instr.alloc 100 true (.tuple #[])) w fun x5 w=>
 oS 100 x5 x16 w fun w=>
 LOOPI [6] [(iV 0)] w fun u4 w next4=>
 rF 100 x5 0 w fun x18=>
 rL 46 x18 w fun x19=>
 rN 46 3 x19 w fun x20=>
 rC (u4 6) x20 w fun x21=>
 BR x21
 (rF 100 x5 0 w fun x24=>
 rL 46 x24 w fun x25=>
 rX 46 x25 (u4 6) w fun x27=>
 rF 33 x27 2 w fun x28=>
 rL 31 x28 w fun x29=>
 rN 31 3 x29 w fun x30=>
 LOOPI [31] [(iV 0)] w fun u7 w next7=>
 rC (u7 31) x30 w fun x32=>
 BR x32
 ((fun w=>rL 28 x2 w fun x34=>
 rF 100 x5 0 w fun x35=>
 rL 46 x35 w fun x36=>
 rX 46 x36 (u4 6) w fun x38=>
 rL 33 x38 w fun x39=>
 cL 78 [x34,x39,(u7 31)] w fun x41 w=>
 rD (Op.unary .not x41) w fun x42=>
 BR x42
 (rA (u7 31) (iV 1) w fun x81=>
 next7 [x81] w)
 ((fun w0=>PAR w0 [[(0,43)],[(1,44)],[(2,45),(1,44)],[(3,46)],[(4,47),(2,45),(3,46)],[(5,48),(4,47)],[(6,49)],[(7,50),(0,43),(5,48),(6,49)],[(8,8)]] (fun Q=>
 (∀ (u10:Env) (T:Nat→Nat×Nat) (w:World),Ext w0 w→zaA [] w0.heap.size w.heap.size T→(True)→(fun w1=>rL 28 x2 w fun x43=>
 Ext w1 w∧Q 0 (upd u10 43 x43) (zbv T 0 (w1.heap.size,w.heap.size)) w) w) ∧
 (∀ (u10:Env) (T:Nat→Nat×Nat) (w:World),Ext w0 w→zaA [] w0.heap.size w.heap.size T→(True)→(fun w1=>rF 100 x5 0 w fun x44=>
 Ext w1 w∧Q 1 (upd u10 44 x44) (zbv T 1 (w1.heap.size,w.heap.size)) w) w) ∧
 (∀ (u10:Env) (T:Nat→Nat×Nat) (w:World),Ext w0 w→zaA [1] w0.heap.size w.heap.size T→(Q 1 u10 T w∧True)→(fun w1=>rL 46 (u10 44) w fun x45=>
 Ext w1 w∧Q 2 (upd u10 45 x45) (zbv T 2 (w1.heap.size,w.heap.size)) w) w) ∧
 (∀ (u10:Env) (T:Nat→Nat×Nat) (w:World),Ext w0 w→zaA [] w0.heap.size w.heap.size T→(True)→(fun w1=>Ext w1 w∧Q 3 (upd u10 46 (u4 6)) (zbv T 3 (w1.heap.size,w.heap.size)) w) w) ∧
 (∀ (u10:Env) (T:Nat→Nat×Nat) (w:World),Ext w0 w→zaA [2,3] w0.heap.size w.heap.size T→(Q 2 u10 T w∧Q 3 u10 T w∧True)→(fun w1=>rX 46 (u10 45) (u10 46) w fun x47=>
 Ext w1 w∧Q 4 (upd u10 47 x47) (zbv T 4 (w1.heap.size,w.heap.size)) w) w) ∧
 (∀ (u10:Env) (T:Nat→Nat×Nat) (w:World),Ext w0 w→zaA [4] w0.heap.size w.heap.size T→(Q 4 u10 T w∧True)→(fun w1=>rL 33 (u10 47) w fun x48=>
 Ext w1 w∧Q 5 (upd u10 48 x48) (zbv T 5 (w1.heap.size,w.heap.size)) w) w) ∧
 (∀ (u10:Env) (T:Nat→Nat×Nat) (w:World),Ext w0 w→zaA [] w0.heap.size w.heap.size T→(True)→(fun w1=>Ext w1 w∧Q 6 (upd u10 49 (u7 31)) (zbv T 6 (w1.heap.size,w.heap.size)) w) w) ∧
 (∀ (u10:Env) (T:Nat→Nat×Nat) (w:World),Ext w0 w→zaA [0,5,6] w0.heap.size w.heap.size T→(Q 0 u10 T w∧Q 5 u10 T w∧Q 6 u10 T w∧True)→(fun w1=>cL 80 [(u10 43),(u10 48),(u10 49)] w fun x50 w=>
 Ext w1 w∧Q 7 (upd u10 50 x50) (zbv T 7 (w1.heap.size,w.heap.size)) w) w) ∧
 (∀ (u10:Env) (T:Nat→Nat×Nat) (w:World),Ext w0 w→zaA [] w0.heap.size w.heap.size T→(True)→(fun w1=>oP (Instr.alloc 33 true (.tuple #[])) w fun x8 w=>
 Ext w1 w∧Q 8 (upd u10 8 x8) (zbv T 8 (w1.heap.size,w.heap.size)) w) w) ∧
 True)
 (fun Q=>∀ (u10:Env) (T:Nat→Nat×Nat) (w:World),Ext w0 w→zaA [0,1,2,3,4,5,6,7,8] w0.heap.size w.heap.size T→(Q 0 u10 T w∧Q 1 u10 T w∧Q 2 u10 T w∧Q 3 u10 T w∧Q 4 u10 T w∧Q 5 u10 T w∧Q 6 u10 T w∧Q 7 u10 T w∧Q 8 u10 T w∧True) →
 oS 33 (u10 8) (u10 50) w fun w=>
 rF 100 x5 0 w fun x51=>
 rL 46 x51 w fun x52=>
 rL 33 (u10 8) w fun x53=>
 cL 88 [x52,x53] w fun x54 w=>
 rB .geq 3 T0 U0 x54 (iV 0) w fun x55=>
 BR x55
 (rA (u7 31) (iV 1) w fun x81=>
 next7 [x81] w)
 (rF 100 x5 0 w fun x56=>
 rL 46 x56 w fun x57=>
 rN 46 3 x57 w fun x58=>
 rB .eql 3 T0 T0 x58 x10 w fun x60=>
 BR x60
 (rF 100 x5 3 w fun x61=>
 oS 4 x61 (Value.bool false) w fun w=>
 rL 100 x5 w fun x62=>
 oS 100 x4 x62 w fun w=>
 rD (zaw 100 x4) w fun r4=>R r4 w)
 (rF 100 x5 0 w fun x63=>
 rL 46 x63 w fun x64=>
 rL 33 (u10 8) w fun x65=>
 oP (Instr.buildSlice 46 1 #[(0,x65)]) w fun x66 w=>
 oP (Builtin.append_ #[46,46] 46 [x64,x66].toArray) w fun x67 w=>
 rF 100 x5 0 w fun x68=>
 oS 46 x68 x67 w fun w=>
 rF 100 x5 1 w fun x69=>
 rL 25 x69 w fun x70=>
 oP (Instr.buildSlice 25 1 #[(0,(u4 6))]) w fun x72 w=>
 oP (Builtin.append_ #[25,25] 25 [x70,x72].toArray) w fun x73 w=>
 rF 100 x5 1 w fun x74=>
 oS 25 x74 x73 w fun w=>
 rF 100 x5 2 w fun x75=>
 rL 25 x75 w fun x76=>
 oP (Instr.buildSlice 25 1 #[(0,(u7 31))]) w fun x78 w=>
 oP (Builtin.append_ #[25,25] 25 [x76,x78].toArray) w fun x79 w=>
 rF 100 x5 2 w fun x80=>
 oS 25 x80 x79 w fun w=>
 rA (u7 31) (iV 1) w fun x81=>
 next7 [x81] w)))) (World.drew1 w))) (World.drew1 w))
 (rA (u4 6) (iV 1) w fun x23=>
 next4 [x23] w))
 (rL 100 x5 w fun x82=>
 oS 100 x4 x82 w fun w=>
 rD (zaw 100 x4) w fun r4=>R r4 w)
def cfg86:Cfg:=⟨extL,[],[(4,4835703278458516698694080,[6]),(7,4835703278458514551341440,[31])],[(9,[0,1,2,3,4,5,6,7,8],0)],[(10,2243003720663296,9)],[],[]⟩
theorem F86_call {a0 a1:Value} {w:World} {R:VW} (h:F86 a0 a1 w R):cL 86 [a0,a1] w R:=co (g:=cfg86) Tryz.func86 (by kernel_rfl) (by kernel_rfl) (by kernel_rfl) h
def F145 (a0 a1 a2:Value) (w:World) (R:VW):Prop:=
 rC a0 a1 w fun x9=>
 BR x9
 (R a1 w)
 (rC a2 a1 w fun x13=>
 BR x13
 (R a1 w)
 (rD (Builtin.min_ #[3,3] 3 [a0,a2].toArray) w fun x18=>
 R x18 w))
def cfg145:Cfg:=⟨extL,[],[],[],[],[],[]⟩
theorem F145_call {a0 a1 a2:Value} {w:World} {R:VW} (h:F145 a0 a1 a2 w R):cL 145 [a0,a1,a2] w R:=co (g:=cfg145) Tryz.func145 (by kernel_rfl) (by kernel_rfl) (by kernel_rfl) h
theorem implBrought_ok {w:World} {n:Int} {lo:Int} {hi:Int}    :
   CALL Tryz.prog 145 [.int .i64 n,.int .i64 lo,.int .i64 hi] w fun r w'=>Ext w w'∧(r=.int .i64 (zaU n lo hi)):=by
 refine F145_call ?_
 unfold F145
 refine zai ?_
 refine br (fun c1=>?_) (fun c1=>?_)
 · refine ⟨Ext.refl w,?_⟩
   first | (rw [show zaU n lo hi=lo from if_pos (by omega)]) | (rw [show zaU n lo hi=min n hi from if_neg (by omega)])
 refine zai ?_
 refine br (fun c2=>?_) (fun c2=>?_)
 · refine ⟨Ext.refl w,?_⟩
   first | (rw [show zaU n lo hi=lo from if_pos (by omega)]) | (rw [show zaU n lo hi=min n hi from if_neg (by omega)])
 refine zqK ?_
 refine ⟨Ext.refl w,?_⟩
 first | (rw [show zaU n lo hi=lo from if_pos (by omega)]) | (rw [show zaU n lo hi=min n hi from if_neg (by omega)])
def F146 (a0 a1 a2:Value) (w:World) (R:VW):Prop:=
 rC a2 a1 w fun x9=>
 BR x9
 (R a1 w)
 (rC a0 a1 w fun x13=>
 BR x13
 (R a1 w)
 (rB .gtr 3 T0 T0 a0 a2 w fun x18=>
 BR x18
 (R a2 w)
 (R a0 w)))
def cfg146:Cfg:=⟨extL,[],[],[],[],[],[]⟩
theorem F146_call {a0 a1 a2:Value} {w:World} {R:VW} (h:F146 a0 a1 a2 w R):cL 146 [a0,a1,a2] w R:=co (g:=cfg146) Tryz.func146 (by kernel_rfl) (by kernel_rfl) (by kernel_rfl) h
theorem specBrought_ok {w:World} {n:Int} {lo:Int} {hi:Int}    :
   CALL Tryz.prog 146 [.int .i64 n,.int .i64 lo,.int .i64 hi] w fun r w'=>Ext w w'∧(r=.int .i64 (zaU n lo hi)):=by
 refine F146_call ?_
 unfold F146
 refine zai ?_
 refine br (fun c1=>?_) (fun c1=>?_)
 · refine ⟨Ext.refl w,?_⟩
   first | (rw [show zaU n lo hi=lo from if_pos (by omega)]) | (rw [show zaU n lo hi=min n hi from if_neg (by omega)];congr 1;omega)
 refine zai ?_
 refine br (fun c2=>?_) (fun c2=>?_)
 · refine ⟨Ext.refl w,?_⟩
   first | (rw [show zaU n lo hi=lo from if_pos (by omega)]) | (rw [show zaU n lo hi=min n hi from if_neg (by omega)];congr 1;omega)
 refine zci ?_
 refine br (fun c3=>?_) (fun c3=>?_)
 · refine ⟨Ext.refl w,?_⟩
   first | (rw [show zaU n lo hi=lo from if_pos (by omega)]) | (rw [show zaU n lo hi=min n hi from if_neg (by omega)];congr 1;omega)
 refine ⟨Ext.refl w,?_⟩
 first | (rw [show zaU n lo hi=lo from if_pos (by omega)]) | (rw [show zaU n lo hi=min n hi from if_neg (by omega)];congr 1;omega)
def F147 (a0 a1:Value) (w:World) (R:VW):Prop:=
 oP (Instr.box 33 a1) w fun x3 w=>
 LOOPI [5] [(iV 0)] w fun u2 w next2=>
 rN 46 3 a0 w fun x8=>
 rC (u2 5) x8 w fun x9=>
 BR x9
 ((fun w=>rX 46 a0 (u2 5) w fun x14=>
 rL 33 x14 w fun x15=>
 rL 33 x3 w fun x16=>
 cL 32 [x15,x16] w fun x17 w=>
 BR x17
 (R (u2 5) w)
 (rA (u2 5) (iV 1) w fun x11=>
 next2 [x11] w)) (World.drew1 w))
 (R (iV (-1)) w)
def cfg147:Cfg:=⟨extL,[],[(2,524272,[5])],[(4,[0,1,2,3,4,5],0)],[],[],[]⟩
theorem F147_call {a0 a1:Value} {w:World} {R:VW} (h:F147 a0 a1 w R):cL 147 [a0,a1] w R:=co (g:=cfg147) Tryz.func147 (by kernel_rfl) (by kernel_rfl) (by kernel_rfl) h
theorem zpg {w:World} {v0:Value} {W0:World} {l:(List DState)} {v1:Value} {W1:World} {s:DState}  (h0:Is W0 v0 l) (e0:Ext W0 w) (h1:Is W1 v1 s) (e1:Ext W1 w)  :
   CALL Tryz.prog 147 [v0,v1] w fun r w'=>Ext w w'∧(r=.int .i64 (ze8 s l)):=by
 refine F147_call ?_
 unfold F147
 have hl:=zaf h0
 refine zap zbf rfl h1 e1 fun w1_ hx1_ hA3 hV3=>?_
 refine zaF (l.length) (fun k us w'=>us=[.int .i64 (k:Int)]∧Ext w1_ w'∧(s∉l.take k)) (0) (by omega) ⟨by simp,Ext.refl w1_,by simp⟩ ?_
 rintro k m2 uu2 w2_ hk2 ⟨hu,hx2_,hinv⟩
 simp only [List.map_cons,List.map_nil,List.cons.injEq,and_true] at hu
 try rw [hu]
 try clear hu
 have hln8:=zaf h0
 refine zae u46 h0 ?_
 refine zai ?_
 refine br (fun c1=>?_) (fun c1=>?_)
 · have hx3_:=zah w2_
   refine zad u46 zbf h0 (by omega) fun b14 o14 h14=>?_
   refine zab zbf h14 (e0.trans (hx1_.trans (hx2_.trans hx3_))) fun v15 h15=>?_
   refine zaB hV3 (hx2_.trans hx3_) ?_
   refine (zev h15 (e0.trans (hx1_.trans (hx2_.trans hx3_))) h1 (e1.trans (hx1_.trans (hx2_.trans hx3_)))).mono ?_
   rintro _ w4_ ⟨hx4_,rfl⟩
   refine br (fun c2=>?_) (fun c2=>?_)
   · refine ⟨(hx1_.trans (hx2_.trans (hx3_.trans hx4_))),?_⟩
     rw [zlx (by omega) hinv c2]
   refine zal (by omega) ?_
   refine ⟨m2-1,by omega,k+1,by omega,by simp,(hx2_.trans (hx3_.trans hx4_)),?_⟩
   exact zfh (by omega) hinv c2
 refine ⟨(hx1_.trans hx2_),?_⟩
 rw [List.take_of_length_le (by omega)] at hinv
 rw [zkn hinv]
theorem zm2 {w W0 W1:World} {v0:Value} {x s:DState} {b:Nat} (h0:Is W0 v0 x) (e0:Ext W0 w) (hA:At W1 b 0 s) (e1:Ext W1 w) :
   CALL Tryz.prog 149 [v0,.pointer (some ⟨b,0,none⟩)] w fun r w'=>Ext w w'∧r=.bool (decide (x=s)):=by
 refine F149_call ?_
 unfold F149
 refine zbR h0 e0 fun w1 hx1 hA0=>?_
 refine zab zbf hA0 (Ext.refl _) fun v4 h4=>?_
 refine zab zbf hA (e1.trans hx1) fun v5 h5=>?_
 refine (zeu h4 (Ext.refl _) h5 (e1.trans hx1)).mono ?_
 rintro _ w2 ⟨hx2,rfl⟩
 exact ⟨hx1.trans hx2,rfl⟩
theorem zot {P:Program} {f:Nat} {args caps:List Value} {w:World} {K:Value→World→Prop} (hE:zdu P f=true) (h:CALL P f (args++caps) w K):OPN P (zh1 (.func (.func f) #[] caps.toArray) args) w K:=by
 obtain ⟨h⟩:=h
 refine .enter f (args++caps).toArray w ?_ h
 simp [zh1,Deferred.ofValue,invoke,zey hE]
theorem zrl:zdu Tryz.prog 149=true:=by kernel_rfl
def F148 (a0 a1:Value) (w:World) (R:VW):Prop:=
 rN 46 3 a0 w fun x7=>
 LOOPI [8] [(iV 0)] w fun u2 w next2=>
 rC (u2 8) x7 w fun x9=>
 BR x9
 (rX 46 a0 (u2 8) w fun x14=>
 rL 33 x14 w fun x15=>
 OPN tp (zh1 a1 [x15]) w fun x16 w=>
 BR x16
 (R (u2 8) w)
 (rA (u2 8) (iV 1) w fun x18=>
 next2 [x18] w))
 (R (iV (-1)) w)
def cfg148:Cfg:=⟨extL,[],[(2,524080,[8])],[],[],[],[]⟩
theorem F148_call {a0 a1:Value} {w:World} {R:VW} (h:F148 a0 a1 w R):cL 148 [a0,a1] w R:=co (g:=cfg148) Tryz.func148 (by kernel_rfl) (by kernel_rfl) (by kernel_rfl) h
theorem zh7 {w:World} {v0:Value} {W0:World} {l:(List DState)} {v1:Value} {s:DState} {WA:World} {ba:Nat} (h0:Is W0 v0 l) (e0:Ext W0 w) (hf:v1=.func (.func 149) #[] #[.pointer (some ⟨ba,0,none⟩)]) (hA:At WA ba 0 s) (eA:Ext WA w) :
   CALL Tryz.prog 148 [v0,v1] w fun r w'=>Ext w w'∧(r=.int .i64 (ze8 s l)):=by
 refine F148_call ?_
 unfold F148
 subst hf
 have hl:=zaf h0
 have hln7:=zaf h0
 refine zae u46 h0 ?_
 refine zaF (l.length) (fun k us w'=>us=[.int .i64 (k:Int)]∧Ext w w'∧(s∉l.take k)) (0) (by omega) ⟨by simp,Ext.refl w,by simp⟩ ?_
 rintro k m2 uu2 w1_ hk2 ⟨hu,hx1_,hinv⟩
 simp only [List.map_cons,List.map_nil,List.cons.injEq,and_true] at hu
 try rw [hu]
 try clear hu
 refine zai ?_
 refine br (fun c1=>?_) (fun c1=>?_)
 · refine zad u46 zbf h0 (by omega) fun b14 o14 h14=>?_
   refine zab zbf h14 (e0.trans hx1_) fun v15 h15=>?_
   refine zot (args:=[v15]) (caps:=[_]) zrl ((zm2 h15 (e0.trans hx1_) hA (eA.trans hx1_)).mono ?_)
   rintro _ w9 ⟨hx9,rfl⟩
   refine br (fun c2=>?_) (fun c2=>?_)
   · refine ⟨(hx1_.trans hx9),?_⟩
     rw [zlx (by omega) hinv c2]
   refine zal (by omega) ?_
   refine ⟨m2-1,by omega,k+1,by omega,by simp,(hx1_.trans hx9),?_⟩
   exact zfh (by omega) hinv c2
 refine ⟨hx1_,?_⟩
 rw [List.take_of_length_le (by omega)] at hinv
 rw [zkn hinv]
theorem zgV {w W0 W1:World} {v0 v1:Value} {l:List DState} {s:DState} (h0:Is W0 v0 l) (e0:Ext W0 w) (h1:Is W1 v1 s) (e1:Ext W1 w) :
   CALL Tryz.prog 88 [v0,v1] w fun r w'=>Ext w w'∧r=.int .i64 (ze8 s l):=by
 refine F88_call ?_
 unfold F88
 refine zbR h1 e1 fun w1 hx1 hA=>?_
 refine zbb (v:=.func (.func 149) #[] #[.pointer (some ⟨w.heap.size,0,none⟩)]) (fun w' _=>by simp [Instr.makeFunc]) ?_
 refine (zh7 h0 (e0.trans hx1) rfl hA (Ext.refl w1)).mono ?_
 rintro _ w2 ⟨hx2,rfl⟩
 exact ⟨hx1.trans hx2,rfl⟩
theorem zq3:zc7 Tryz.prog 100=some [.slice none 0 0,.slice none 0 0,.slice none 0 0,.bool false]:=by kernel_rfl
def seQ (c:DCode) (z:DTrail) (g:Nat) (i t:Nat) (w0:World):ParQ:=fun j u T w=>match j with
 | 0=>Is w0 (u 43) c
 | 1=>u 44=.pointer (some ⟨g,0+0,none⟩)
 | 2=>u 45=z.states.v
 | 3=>u 46=.int .i64 (i:Int)
 | 4=>∃ b o,u 47=.pointer (some ⟨b,o,none⟩)∧At w0 b o (zcr z.er i)
 | 5=>Is w0 (u 48) (zcr z.er i)
 | 6=>u 49=.int .i64 (t:Int)
 | 7=>OwnI (T 7).1 (T 7).2 w (u 50) (zby c (zcr z.er i) t)
 | 8=>∃ gg,u 8=.pointer (some ⟨gg,0,none⟩)∧(T 8).1≤gg∧gg<(T 8).2∧Blk gg 33 w [.slice none 0 0,.slice none 0 0,.slice none 0 0]
 | _=>True
theorem zkx {w W0:World} {v0:Value} {c:DCode} {m:Int} (h0:Is W0 v0 c) (e0:Ext W0 w) (hw:zgh c≤1048576) (hc:CodeR c) :
   CALL Tryz.prog 86 [v0,.int .i64 m] w fun r w'=>Ext w w'∧∃ z:DTrail,OwnI w.heap.size w'.heap.size w' r z∧z.er=zbW c (zaU m 1 150).toNat∧TrOk c (zaU m 1 150).toNat z.er:=by
 refine F86_call ?_
 unfold F86
 refine zbR h0 e0 fun w1 hx1 hA=>?_
 refine zc8 (α:=DTrail) zq3 fun w2 hx2 hv4=>?_
 have hs1:=hx1.size
 have hs2:=hx2.size
 have hg4:=hv4.lt
 refine implBrought_ok.mono ?_
 rintro _ w3 ⟨hx3,rfl⟩
 have hs3:=hx3.size
 have hMi:=zcR m
 obtain ⟨M,hM,hM1,hM2⟩:∃ M:Nat,zaU m 1 150=(M:Int)∧1≤M∧M≤150:=⟨(zaU m 1 150).toNat,by omega,by omega,by omega⟩
 rw [hM]
 have hMt:((M:Nat):Int).toNat=M:=by omega
 rw [hMt]
 refine zab zcx hA (hx2.trans hx3) fun v11 h11=>?_
 refine (zmR h11 (hx2.trans hx3) hw hc).mono ?_
 rintro r12 w4 ⟨hx4,o12⟩
 have o12:=o12.toI
 have hs4:=hx4.size
 refine zec (β:=DState) u46 zbf z33 (by decide) o12 (by omega) fun v13 w5 hx5 r13=>?_
 have hs5:=hx5.size
 refine zec (β:=Int) (lo2:=w5.heap.size) (hi2:=w5.heap.size) u25 ty3 z3 (by decide) (ownI_int (x:=-1) (by unfold I64;omega)) (by omega) fun v14 w6 hx6 r14=>?_
 have hs6:=hx6.size
 refine zec (β:=Int) (lo2:=w6.heap.size) (hi2:=w6.heap.size) u25 ty3 z3 (by decide) (ownI_int (x:=-1) (by unfold I64;omega)) (by omega) fun v15 w7 hx7 r15=>?_
 have hs7:=hx7.size
 have o13:=zdd ((r13.ext hx6).ext hx7)
 have o14:=zdd (r14.ext hx7)
 have o15:=zdd r15
 obtain ⟨a13,n13,c13,e13⟩:=zbX r13.own
 obtain ⟨a14,n14,c14,e14⟩:=zbX r14.own
 obtain ⟨a15,n15,c15,e15⟩:=zbX r15.own
 have otr:=ziH (z:=⟨⟨v13,[zbO c]⟩,⟨v14,[-1]⟩,⟨v15,[-1]⟩,true⟩) o13 o14 o15 (by omega)
 refine zaR (cells:=#[v13,v14,v15,.bool true]) (by rw [e13,e14,e15];kernel_rfl) ?_
 refine zc8 (α:=DTrail) zq3 fun w8 hx8 hv5=>?_
 have hs8:=hx8.size
 have hg5:=hv5.lt
 refine zaP zmu hv5 (otr.ext hx8) (by omega) fun w9 hc9 hv9=>?_
 have hs9:=hc9.size
 have hx39:Ext w3 w9:=Ext.chgI (hx4.trans (hx5.trans (hx6.trans (hx7.trans hx8)))) hc9 (by omega)
 generalize hgd:w7.heap.size=g at *
 have hv9:=hv9.mono (lo':=w3.heap.size) (hi':=w9.heap.size) (Nat.le_refl _) (by omega)
 -- what a round zin with
 have fin:∀ (z:DTrail) (w':World) (hi:Nat),Ext w3 w'→VarI w3.heap.size hi w' g z→hi≤w'.heap.size→TrOk c M z.er→z.er=zbW c M →
     RD Tryz.prog (Instr.loadAt 100 (.pointer (some ⟨g,0,none⟩))) w' fun x82=>OPU Tryz.prog (Instr.storeAt 100 (.pointer (some ⟨w1.heap.size,0,none⟩)) x82) w' fun w''=>
       RD Tryz.prog (zaw 100 (.pointer (some ⟨w1.heap.size,0,none⟩))) w'' fun r=>Ext w w''∧∃ z:DTrail,OwnI w.heap.size w''.heap.size w'' r z∧z.er=zbW c M∧TrOk c M z.er:=by
   intro z w' hi hx hv hhi hok hz
   refine zeB zmu hv (Ext.refl _) fun v82 o82=>?_
   refine zaP zmu (hv4.ext (hx3.trans hx)) o82 (by omega) fun w'' hc hv4'=>?_
   have hsc:=hc.size
   refine zbA zmu hv4' (Ext.refl _) fun r o=>?_
   exact ⟨Ext.chgI (hx1.trans (hx2.trans (hx3.trans hx))) hc (by omega),z,o.mono (by omega) (by omega),hz,hok⟩
 refine zaF M (fun k us w'=>us=[.int .i64 (k:Int)]∧∃ (z:DTrail) (hi:Nat),Ext w3 w'∧VarI w3.heap.size hi w' g z∧g<hi∧hi≤w'.heap.size∧TrOk c M z.er∧k≤z.states.l.length∧zcI c M (M-k) k z.er=zbW c M) 0 (by omega)
   ⟨rfl,_,w9.heap.size,hx39,hv9,by omega,Nat.le_refl _,zme hc hM1,Nat.zero_le _,rfl⟩ ?_
 rintro k mk u w10 hkm ⟨hu,z,hi,hx10,hv10,hgh,hhi,hok,hkl,hlook⟩
 simp only [List.map_cons,List.map_nil,List.cons.injEq,and_true] at hu
 rw [hu]
 have hmany:1≤z.states.l.length∧z.states.l.length≤M:=hok.many
 refine zaa zdP ?_
 refine zaS ziW (zat hv10.at) (Ext.refl _) ?_
 have hst:=zhX (zat hv10.at)
 refine zae u46 hst ?_
 refine zai ?_
 refine br (fun hlt=>?_) (fun hge=>?_)
 case refine_2=>
   refine fin z w10 hi hx10 hv10 hhi hok ?_
   rw [←hlook,ziE (f:=z.er) (by show z.states.l.length≤k;omega)]
 have hkz:k<z.states.l.length:=by omega
 refine zaa zdP ?_
 refine zaS ziW (zat hv10.at) (Ext.refl _) ?_
 refine zad u46 zbf hst hkz fun b27 o27 h27=>?_
 replace h27:At w10 b27 o27 (zcr z.er k):=by rw [←zcG (f:=z.er) hkz];exact h27
 refine zaa zaC ?_
 refine zab zc1 (zaq h27) (Ext.refl _) fun v29 h29=>?_
 refine zae u31 h29 ?_
 have hsr:zaK c (zcr z.er k):=hok.right _ (by rw [←zcG (f:=z.er) hkz];exact List.getElem_mem _)
 obtain ⟨s,hsd⟩:∃ s,zcr z.er k=s:=⟨_,rfl⟩
 rw [hsd] at hsr ⊢
 have hn6:=hsr.2.2.1
 refine zaF s.stacks.length (fun t us w'=>us=[.int .i64 (t:Int)]∧∃ (z':DTrail) (hi':Nat),Ext w3 w'∧VarI w3.heap.size hi' w' g z'∧g<hi'∧hi'≤w'.heap.size∧TrOk c M z'.er∧k<z'.states.l.length∧zcr z'.er k=s ∧
     zcQ c M k s.stacks.length 0 z.er=zcQ c M k (s.stacks.length-t) t z'.er) 0 (by omega)
   ⟨rfl,z,hi,hx10,hv10,hgh,hhi,hok,hkz,hsd,rfl⟩ ?_
 rintro t mt u7 w11 htm ⟨hu7,z',hi',hx11,hv11,hgh',hhi',hok',hkz',hsd',hrow⟩
 simp only [List.map_cons,List.map_nil,List.cons.injEq,and_true] at hu7
 rw [hu7]
 refine zai ?_
 refine br (fun htl=>?_) (fun htg=>?_)
 case refine_2=>
   have ht:t=s.stacks.length:=by omega
   subst ht
   rw [Nat.sub_self,zcQ] at hrow
   rw [←hsd] at hrow
   refine zal (by omega) ?_
   refine ⟨mk-1,by omega,k+1,by omega,rfl,z',hi',hx11,hv11,hgh',hhi',hok',by omega,?_⟩
   rw [←hlook,show M-k=(M-(k+1))+1 by omega,zhW (f:=z.er) hkz hrow]
 have htn:t<s.stacks.length:=by omega
 have hq:s.stacks.length-t=(s.stacks.length-(t+1))+1:=by omega
 have hx12:=zah w11
 have hs12:=hx12.size
 have hst':=zhX (zat hv11.at)
 refine zab zcx hA (hx2.trans (hx3.trans (hx11.trans hx12))) fun v34 h34=>?_
 refine zaa zdP ?_
 refine zaS ziW (zat hv11.at) hx12 ?_
 refine zad u46 zbf hst' hkz' fun b38 o38 h38=>?_
 replace h38:At w11 b38 o38 s:=by rw [←hsd',←zcG (f:=z'.er) hkz'];exact h38
 refine zab zbf h38 hx12 fun v39 h39=>?_
 refine (zlq h34 (hx2.trans (hx3.trans (hx11.trans hx12))) h39 hx12 hc hsr).mono ?_
 rintro _ w13 ⟨hx13,rfl⟩
 have hs13:=hx13.size
 refine zau ?_
 refine br (fun hng=>?_) (fun hg=>?_)
 · refine zal (by omega) ?_
   refine ⟨mt-1,by omega,t+1,by omega,rfl,z',hi',hx11.trans (hx12.trans hx13),hv11.ext (hx12.trans hx13),hgh',by omega,hok',hkz',hsd',?_⟩
   rw [hrow,hq,ze6 (zmf (f:=z'.er) (by rw [hsd'];exact hng))]
 have hgo:GoR c s t:=Decidable.not_not.1 hg
 have hx14:=zah w13
 have hs14:=hx14.size
 have hxx:Ext w11 (World.drew1 w13):=hx12.trans (hx13.trans hx14)
 generalize World.drew1 w13=w14 at *
 refine PAR.mk (seQ c z' g k t w14) ?_ ?_ ?_
 · intro i u u' T T' wa wb hxa hxb hd hq
   match i,hd,hq with
   | 0,hd,hq=>have:=(hd (0,43) (by decide)).1;show Is _ (u' 43) _;simp only [this];exact hq
   | 1,hd,hq=>exact (hd (1,44) (by decide)).1.trans hq
   | 2,hd,hq=>exact (hd (2,45) (by decide)).1.trans hq
   | 3,hd,hq=>exact (hd (3,46) (by decide)).1.trans hq
   | 4,hd,⟨b,o,q1,q2⟩=>exact ⟨b,o,(hd (4,47) (by decide)).1.trans q1,q2⟩
   | 5,hd,hq=>have:=(hd (5,48) (by decide)).1;show Is _ (u' 48) _;simp only [this];exact hq
   | 6,hd,hq=>exact (hd (6,49) (by decide)).1.trans hq
   | 7,hd,hq=>
     obtain ⟨e1,e2⟩:=hd (7,50) (by decide)
     simp only at e1 e2
     show OwnI (T' 7).1 (T' 7).2 wb (u' 50) _
     rw [e1,e2];exact OwnI.ext hq hxb
   | 8,hd,⟨gg,q1,q2,q3,q4⟩=>
     obtain ⟨e1,e2⟩:=hd (8,8) (by decide)
     simp only at e1 e2
     exact ⟨gg,e1.trans q1,by rw [e2];exact q2,by rw [e2];exact q3,q4.ext hxb⟩
   | n+9,_,_=>trivial
 · refine ⟨fun u T w' hx _ _=>?_,fun u T w' hx _ _=>?_,fun u T w' hx _ hp=>?_,fun u T w' hx _ _=>?_,fun u T w' hx _ hp=>?_,fun u T w' hx _ hp=>?_,fun u T w' hx _ _=>?_,fun u T w' hx _ hp=>?_,fun u T w' hx _ _=>?_,trivial⟩
   · exact zab zcx hA (hx2.trans (hx3.trans (hx11.trans (hxx.trans hx)))) fun v h=>⟨Ext.refl _,h.ext (hx2.trans (hx3.trans (hx11.trans hxx)))⟩
   · exact zaa zdP ⟨Ext.refl _,rfl⟩
   · have q0:u 44=_:=hp.1
     rw [q0]
     exact zaS ziW (zat hv11.at) (hxx.trans hx) ⟨Ext.refl _,rfl⟩
   · exact ⟨Ext.refl _,rfl⟩
   · have q0:u 45=_:=hp.1
     have q1:u 46=_:=hp.2.1
     rw [q0,q1]
     refine zad u46 zbf hst' hkz' fun b o h=>⟨Ext.refl _,b,o,rfl,?_⟩
     rw [←zcG (f:=z'.er) hkz']
     exact h.ext hxx
   · obtain ⟨b,o,q0,q1⟩:∃ b o,u 47=.pointer (some ⟨b,o,none⟩)∧At w14 b o (zcr z'.er k):=hp.1
     rw [q0]
     exact zab zbf q1 hx fun v h=>⟨Ext.refl _,h⟩
   · exact ⟨Ext.refl _,rfl⟩
   · have q0:Is w14 (u 43) c:=hp.1
     have q1:Is w14 (u 48) (zcr z'.er k):=hp.2.1
     have q2:u 49=_:=hp.2.2.1
     rw [q2]
     have:=ziy q0 hx q1 hx hc (by rw [hsd'];exact hsr) (by rw [hsd'];exact hgo)
     exact this.mono fun r w5 ⟨hx5,ho⟩=>⟨hx5,ho.toI⟩
   exact za6 zl7 fun w5 hx5 hB=>⟨hx5,w'.heap.size,rfl,Nat.le_refl _,hB.lt,hB⟩
 rintro u10 T w15 hx15 hap ⟨-,-,-,-,-,-,-,o50,⟨gg,q8,hgg0,hgg1,hB15⟩,-⟩
 have o50:OwnI (T 7).1 (T 7).2 w15 (u10 50) (zby c (zcr z'.er k) t):=o50
 rw [hsd'] at o50
 have t7:=hap.1 7 (by decide)
 have t8:=hap.1 8 (by decide)
 have d78:=hap.2 7 (by decide) 8 (by decide) (by decide)
 have hs15:=hx15.size
 have hsxx:=hxx.size
 generalize u10 50=v50 at *
 rw [q8]
 obtain ⟨ga,gb,gc,hge⟩:=zpd o50
 subst hge
 refine za7 zbf rfl hB15 rfl o50 fun w16 hc16 hB16=>?_
 have hs16:=hc16.size
 have hx16:Ext w11 w16:=Ext.chgI (hxx.trans hx15) hc16 (by omega)
 have o16:=o50.chg hc16 (by omega)
 have hv16:=hv11.ext hx16
 refine zaa zdP ?_
 refine zaS ziW (zat hv16.at) (Ext.refl _) ?_
 have hst16:=zhX (zat hv16.at)
 refine zdb hB16 zbf ?_
 refine (zgV hst16 (Ext.refl _) o16.is (Ext.refl _)).mono ?_
 rintro _ w17 ⟨hx17,rfl⟩
 have hs17:=hx17.size
 refine zbP ?_
 refine br (fun hold=>?_) (fun hnew=>?_)
 · refine zal (by omega) ?_
   refine ⟨mt-1,by omega,t+1,by omega,rfl,z',hi',hx11.trans (hx16.trans hx17),hv16.ext hx17,hgh',by omega,hok',hkz',hsd',?_⟩
   rw [hrow,hq,ze6 (zko (f:=z'.er) (by rw [hsd'];exact hgo) (by rw [hsd'];exact zep.1 hold))]
 have hno:zby c (zcr z'.er k) t∉z'.er.states:=fun h=>hnew (by rw [hsd'] at h;exact zep.2 h)
 have hgo':GoR c (zcr z'.er k) t:=by rw [hsd'];exact hgo
 have hv17:=hv16.ext hx17
 refine zaa zdP ?_
 refine zaS ziW (zat hv17.at) (Ext.refl _) ?_
 have hst17:=zhX (zat hv17.at)
 refine zae u46 hst17 ?_
 refine zag ?_
 refine br (fun hfull=>?_) (fun hroom=>?_)
 · have hfull':z'.er.states.length=M:=by show z'.states.l.length=M;omega
   refine zaa znz ?_
   obtain ⟨F,hO,hF⟩:=hv17
   obtain ⟨G,hL⟩:=zf9 (Lens.var hO)
   refine zdL ty4 hL (lo:=w3.heap.size) (hi:=w17.heap.size) (fun b hb=>by have:=hF b hb;omega) (by omega) zjY fun w18 hc18 hv18=>?_
   have hs18:=hc18.size
   refine fin _ w18 w17.heap.size (Ext.chgI (hx11.trans (hx16.trans hx17)) hc18 (Nat.le_refl _)) hv18 (by omega) hok'.not ?_
   have hvis:=ziD (M:=M) hgo' hno hfull'
   rw [←hlook,show M-k=(M-(k+1))+1 by omega,zhV (f:=z.er) hkz (by rw [hsd,hrow,hq,ziC (by rw [hvis]),hvis])]
   rfl
 have hroom':¬z'.er.states.length=M:=by show ¬z'.states.l.length=M;omega
 have hle':z'.states.l.length≤M:=hok'.many.2
 have hla':z'.ahead.l.length=z'.states.l.length:=hok'.la
 have hlw':z'.went.l.length=z'.states.l.length:=hok'.lw
 have hB17:=hB16.ext hx17
 refine zaa zdP ?_
 refine zaS ziW (zat hv17.at) (Ext.refl _) ?_
 refine zdb hB17 zbf ?_
 refine ze7 (β:=DState) u46 zbf z33 zq1 (by decide) ziW hv11 ⟨by omega,hgh'⟩ (hx16.trans hx17) (fun hO=>zf6 (Lens.var hO)) (o16.ext hx17) (by omega) (by omega) (by have:=hx11.size;omega) (by rw [zak];omega) (by omega) (fun v67 w18 hc18 hv18=>?_) fun a w1' hxa hop=>hop.mono fun r w2' hr=>zaa zdP hr.2
 have hs18:=hc18.size
 refine zaa zkW ?_
 refine zaS zaJ (zeq hv18.at) (Ext.refl _) ?_
 refine ze7 (β:=Int) (lo2:=w18.heap.size) (hi2:=w18.heap.size) u25 ty3 z3 zc3 (by decide) zaJ hv18 ⟨by omega,by omega⟩ (Ext.refl _) (fun hO=>zf7 (Lens.var hO)) (ownI_int (x:=(k:Int)) (by unfold I64;omega)) (by omega) (by omega) (by have:=hx11.size;omega) (by rw [zak];show z'.ahead.l.length+1≤_;omega) (by show (z'.ahead.l.length+1)*_≤_;omega) (fun v73 w19 hc19 hv19=>?_) fun a w1' hxa hop=>hop.mono fun r w2' hr=>zaa zkW hr.2
 have hs19:=hc19.size
 refine zaa zkX ?_
 refine zaS zaJ (zer hv19.at) (Ext.refl _) ?_
 refine ze7 (β:=Int) (lo2:=w19.heap.size) (hi2:=w19.heap.size) u25 ty3 z3 zc3 (by decide) zaJ hv19 ⟨by omega,by omega⟩ (Ext.refl _) (fun hO=>zf8 (Lens.var hO)) (ownI_int (x:=(t:Int)) (by unfold I64;omega)) (by omega) (by omega) (by have:=hx11.size;omega) (by rw [zak];show z'.went.l.length+1≤_;omega) (by show (z'.went.l.length+1)*_≤_;omega) (fun v79 w20 hc20 hv20=>?_) fun a w1' hxa hop=>hop.mono fun r w2' hr=>zaa zkX hr.2
 have hs20:=hc20.size
 refine zal (by omega) ?_
 have hpush:=hok'.push hc hkz' hgo' (by omega) hroom'
 have hvis:=zkp (M:=M) hgo' hno hroom'
 rw [hsd'] at hpush hvis
 refine ⟨mt-1,by omega,t+1,by omega,rfl,_,w20.heap.size,Ext.chgI (Ext.chgI (Ext.chgI hx11 hc18 (Nat.le_refl _)) hc19 (Nat.le_refl _)) hc20 (Nat.le_refl _),hv20,by omega,Nat.le_refl _,hpush,by show k<(z'.states.l++[_]).length;simp;omega,?_,?_⟩
 · exact (zc4 (f:=z'.er) hkz').trans hsd'
 rw [hrow,hq,ze6 hvis];rfl
end Go.Proofs.YtbnjpfjjmhodnaaGreat
