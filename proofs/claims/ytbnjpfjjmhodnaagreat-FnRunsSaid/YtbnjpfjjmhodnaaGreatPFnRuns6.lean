/-
  The law FnRuns of the given program returns true for every input, and its arguments read afterwards as before: the given statement Rows.FnRunsSaid.
-/
import Derived.Test.YtbnjpfjjmhodnaaGreatPFnRuns5
set_option linter.unusedVariables false
set_option linter.unusedSimpArgs false
set_option linter.unusedSectionVars false
namespace Go.Proofs.YtbnjpfjjmhodnaaGreat
open Go Go.Sh Go.Proofs
open Rep (rep)
def F31 (a0:Value) (w:World) (R:VW):Prop:=
 oP (Instr.box 28 a0) w fun x1 w=>
 oP (Instr.alloc 33 true (.tuple #[])) w fun x2 w=>
 rL 28 x1 w fun x5=>
 cL 81 [x5] w fun x6 w=>
 rD (Op.unary .not x6) w fun x7=>
 BR x7
 (rD (Instr.build 33 #[]) w fun x8=>
 oS 33 x2 x8 w fun w=>
 rD (zaq 33 x2) w fun r2=>R r2 w)
 (rF 28 x1 0 w fun x9=>
 rL 24 x9 w fun x10=>
 rN 24 3 x10 w fun x11=>
 oP (Instr.makeSlice 25 x11 x11) w fun x12 w=>
 rD (Instr.build 33 #[(0,x12)]) w fun x13=>
 oP (Instr.alloc 33 true (.tuple #[])) w fun x3 w=>
 oS 33 x3 x13 w fun w=>
 LOOPI [4] [(iV 0)] w fun u5 w next5=>
 rF 28 x1 1 w fun x15=>
 rL 24 x15 w fun x16=>
 rN 24 3 x16 w fun x17=>
 rC (u5 4) x17 w fun x18=>
 BR x18
 (rF 33 x3 1 w fun x21=>
 rL 25 x21 w fun x22=>
 oP (Instr.buildSlice 25 1 #[(0,(iV (-1)))]) w fun x23 w=>
 oP (Builtin.append_ #[25,25] 25 [x22,x23].toArray) w fun x24 w=>
 rF 33 x3 1 w fun x25=>
 oS 25 x25 x24 w fun w=>
 rA (u5 4) (iV 1) w fun x20=>
 next5 [x20] w)
 ((fun w=>rF 33 x3 2 w fun x26=>
 rL 31 x26 w fun x27=>
 rF 28 x1 3 w fun x28=>
 rL 25 x28 w fun x29=>
 rL 28 x1 w fun x30=>
 (fun w_=>cL 90 [x30] w_ fun x31 w=>
 Ext w_ w ∧
 rX 25 x29 x31 w fun x32=>
 rL 3 x32 w fun x33=>
 (fun w_=>oP (Instr.buildSlice 25 1 #[(0,x33)]) w_ fun x34 w=>
 Ext w_ w ∧
 ((fun w_=>oP (Instr.buildSlice 31 1 #[(0,x34)]) w_ fun x35 w=>
 Ext w_ w ∧
 (oP (Builtin.append_ #[31,31] 31 [x27,x35].toArray) w fun x36 w=>
 rF 33 x3 2 w fun x37=>
 oS 31 x37 x36 w fun w=>
 rL 33 x3 w fun x38=>
 oS 33 x2 x38 w fun w=>
 rD (zaq 33 x2) w fun r2=>R r2 w)) w)) w) w) (World.drew1 w)))
def cfg31:Cfg:=⟨extL,[],[(5,67092496,[4])],[(8,[0,1,2,3,4,5,6,7,8,9,10,11,12],800)],[],[],[]⟩
theorem F31_call {a0:Value} {w:World} {R:VW} (h:F31 a0 w R):cL 31 [a0] w R:=co (g:=cfg31) Tryz.func31 (by kernel_rfl) (by kernel_rfl) (by kernel_rfl) h
def F73 (a0:Value) (w:World) (R:VW):Prop:=
 oP (Instr.box 28 a0) w fun x1 w=>
 oP (Instr.alloc 33 true (.tuple #[])) w fun x2 w=>
 (fun w0=>PAR w0 [[(0,5)],[(1,6),(0,5)],[(2,7),(1,6)],[(3,8),(2,7),(2,7)],[(4,9)],[(5,10),(4,9)],[(6,11),(5,10)],[(7,12),(6,11),(6,11)],[(8,13),(3,8),(7,12)],[(9,3)]] (fun Q=>
 (∀ (u1:Env) (T:Nat→Nat×Nat) (w:World),Ext w0 w→zaG [] w0.heap.size w.heap.size T→(True)→(fun w1=>rF 28 x1 0 w fun x5=>
 Ext w1 w∧Q 0 (upd u1 5 x5) (zbE T 0 (w1.heap.size,w.heap.size)) w) w) ∧
 (∀ (u1:Env) (T:Nat→Nat×Nat) (w:World),Ext w0 w→zaG [0] w0.heap.size w.heap.size T→(Q 0 u1 T w∧True)→(fun w1=>rL 24 (u1 5) w fun x6=>
 Ext w1 w∧Q 1 (upd u1 6 x6) (zbE T 1 (w1.heap.size,w.heap.size)) w) w) ∧
 (∀ (u1:Env) (T:Nat→Nat×Nat) (w:World),Ext w0 w→zaG [1] w0.heap.size w.heap.size T→(Q 1 u1 T w∧True)→(fun w1=>rN 24 3 (u1 6) w fun x7=>
 Ext w1 w∧Q 2 (upd u1 7 x7) (zbE T 2 (w1.heap.size,w.heap.size)) w) w) ∧
 (∀ (u1:Env) (T:Nat→Nat×Nat) (w:World),Ext w0 w→zaG [2,2] w0.heap.size w.heap.size T→(Q 2 u1 T w∧Q 2 u1 T w∧True)→(fun w1=>oP (Instr.makeSlice 25 (u1 7) (u1 7)) w fun x8 w=>
 Ext w1 w∧Q 3 (upd u1 8 x8) (zbE T 3 (w1.heap.size,w.heap.size)) w) w) ∧
 (∀ (u1:Env) (T:Nat→Nat×Nat) (w:World),Ext w0 w→zaG [] w0.heap.size w.heap.size T→(True)→(fun w1=>rF 28 x1 1 w fun x9=>
 Ext w1 w∧Q 4 (upd u1 9 x9) (zbE T 4 (w1.heap.size,w.heap.size)) w) w) ∧
 (∀ (u1:Env) (T:Nat→Nat×Nat) (w:World),Ext w0 w→zaG [4] w0.heap.size w.heap.size T→(Q 4 u1 T w∧True)→(fun w1=>rL 24 (u1 9) w fun x10=>
 Ext w1 w∧Q 5 (upd u1 10 x10) (zbE T 5 (w1.heap.size,w.heap.size)) w) w) ∧
 (∀ (u1:Env) (T:Nat→Nat×Nat) (w:World),Ext w0 w→zaG [5] w0.heap.size w.heap.size T→(Q 5 u1 T w∧True)→(fun w1=>rN 24 3 (u1 10) w fun x11=>
 Ext w1 w∧Q 6 (upd u1 11 x11) (zbE T 6 (w1.heap.size,w.heap.size)) w) w) ∧
 (∀ (u1:Env) (T:Nat→Nat×Nat) (w:World),Ext w0 w→zaG [6,6] w0.heap.size w.heap.size T→(Q 6 u1 T w∧Q 6 u1 T w∧True)→(fun w1=>oP (Instr.makeSlice 25 (u1 11) (u1 11)) w fun x12 w=>
 Ext w1 w∧Q 7 (upd u1 12 x12) (zbE T 7 (w1.heap.size,w.heap.size)) w) w) ∧
 (∀ (u1:Env) (T:Nat→Nat×Nat) (w:World),Ext w0 w→zaG [3,7] w0.heap.size w.heap.size T→(Q 3 u1 T w∧Q 7 u1 T w∧True)→(fun w1=>rD (Instr.build 33 #[(0,(u1 8)),(1,(u1 12))]) w fun x13=>
 Ext w1 w∧Q 8 (upd u1 13 x13) (zbE T 8 (w1.heap.size,w.heap.size)) w) w) ∧
 (∀ (u1:Env) (T:Nat→Nat×Nat) (w:World),Ext w0 w→zaG [] w0.heap.size w.heap.size T→(True)→(fun w1=>oP (Instr.alloc 33 true (.tuple #[])) w fun x3 w=>
 Ext w1 w∧Q 9 (upd u1 3 x3) (zbE T 9 (w1.heap.size,w.heap.size)) w) w) ∧
 True)
 (fun Q=>∀ (u1:Env) (T:Nat→Nat×Nat) (w:World),Ext w0 w→zaG [0,1,2,3,4,5,6,7,8,9] w0.heap.size w.heap.size T→(Q 0 u1 T w∧Q 1 u1 T w∧Q 2 u1 T w∧Q 3 u1 T w∧Q 4 u1 T w∧Q 5 u1 T w∧Q 6 u1 T w∧Q 7 u1 T w∧Q 8 u1 T w∧Q 9 u1 T w∧True) →
 oS 33 (u1 3) (u1 13) w fun w=>
 rF 33 (u1 3) 1 w fun x14=>
 rL 25 x14 w fun x15=>
 rN 25 3 x15 w fun x16=>
 LOOPI [17] [(iV 0)] w fun u3 w next3=>
 rC (u3 17) x16 w fun x18=>
 BR x18
 (rF 33 (u1 3) 1 w fun x20=>
 rL 25 x20 w fun x21=>
 rX 25 x21 (u3 17) w fun x23=>
 oS 3 x23 (iV (-1)) w fun w=>
 rA (u3 17) (iV 1) w fun x24=>
 next3 [x24] w)
 ((fun w=>rF 28 x1 3 w fun x25=>
 rL 25 x25 w fun x26=>
 rF 28 x1 2 w fun x27=>
 rL 24 x27 w fun x28=>
 (fun w_=>cL 134 [x28,(Value.string (ByteArray.mk #[109,97,105,110]))] w_ fun x29 w=>
 Ext w_ w ∧
 rX 25 x26 x29 w fun x30=>
 rL 3 x30 w fun x31=>
 oP (Instr.buildSlice 25 1 #[(0,x31)]) w fun x32 w=>
 oP (Instr.buildSlice 31 1 #[(0,x32)]) w fun x33 w=>
 rF 33 (u1 3) 2 w fun x34=>
 oS 31 x34 x33 w fun w=>
 rL 33 (u1 3) w fun x35=>
 oS 33 x2 x35 w fun w=>
 rD (zaq 33 x2) w fun r2=>R r2 w) w) (World.drew1 w)))) (World.drew1 w)
def cfg73:Cfg:=⟨extL,[],[(3,33423376,[17])],[(7,[0,1,2,3,4,5,6,7,8,9,10],16)],[(1,16360,10)],[],[]⟩
theorem F73_call {a0:Value} {w:World} {R:VW} (h:F73 a0 w R):cL 73 [a0] w R:=co (g:=cfg73) Tryz.func73 (by kernel_rfl) (by kernel_rfl) (by kernel_rfl) h
def F12 (a0:Value) (w:World) (R:VW):Prop:=
 oP (Instr.box 28 a0) w fun x1 w=>
 oP (Instr.alloc 33 true (.tuple #[])) w fun x2 w=>
 rL 28 x1 w fun x3=>
 cL 72 [x3] w fun x4 w=>
 rD (Op.unary .not x4) w fun x5=>
 BR x5
 (rD (Instr.build 33 #[]) w fun x6=>
 oS 33 x2 x6 w fun w=>
 rD (zaq 33 x2) w fun r2=>R r2 w)
 (rL 28 x1 w fun x7=>
 cL 73 [x7] w fun x8 w=>
 oS 33 x2 x8 w fun w=>
 rD (zaq 33 x2) w fun r2=>R r2 w)
def zbD (c:DCode):DState:=⟨List.replicate c.globals.length 0,List.replicate c.locks.length (-1),[[en c (plc zfP c.procs).toNat]]⟩
def zes (c:DCode):DState:=if CodeR c then zbD c else ⟨[],[],[]⟩
theorem zlI:zcY Tryz.prog 3=some [.int .i64 0]:=by kernel_rfl
theorem zkp {c:DCode} (hc:CodeR c):0≤plc zfP c.procs∧(plc zfP c.procs).toNat<c.entry.length:=by
 have h1:=zdy.2 hc.1.2.2.2.2.2.2
 have h2:=zgW (s:=zfP) (l:=c.procs)
 have h3:=hc.2.1.1
 omega
theorem zk6 {lo hi:Nat} {w:World}:OwnI lo hi w (.agg #[.slice none 0 0,.slice none 0 0,.slice none 0 0]) (⟨[],[],[]⟩:DState):=
 (zcF (s:=⟨[],[],[]⟩) (lo:=lo) (hi:=lo) (l0:=lo) (h0:=lo) (l1:=lo) (h1:=lo) (l2:=lo) (h2:=lo) (zbZ none) (zbZ none) (zbZ none) (by omega) (by omega) (by omega) (by omega) (by omega) (by omega)).elim fun F h=>⟨F,h.1,fun b hb=>by have:=h.2 b hb;omega⟩
def F90 (a0:Value) (w:World) (R:VW):Prop:=
 oP (Instr.box 28 a0) w fun x1 w=>
 rF 28 x1 2 w fun x3=>
 rL 24 x3 w fun x4=>
 cL 150 [x4,(Value.string (ByteArray.mk #[109,97,105,110]))] w fun x5 w=>
 R x5 w
def cfg90:Cfg:=⟨extL,[],[],[],[],[],[]⟩
theorem F90_call {a0:Value} {w:World} {R:VW} (h:F90 a0 w R):cL 90 [a0] w R:=co (g:=cfg90) Tryz.func90 (by kernel_rfl) (by kernel_rfl) (by kernel_rfl) h
theorem zlH {w:World} {v0:Value} {W0:World} {c:DCode}  (h0:Is W0 v0 c) (e0:Ext W0 w)  :
   CALL Tryz.prog 90 [v0] w fun r w'=>Ext w w'∧(r=.int .i64 (plc zfP c.procs)):=by
 refine F90_call ?_
 unfold F90
 refine zap zdn rfl h0 e0 fun w1_ hx1_ hA1 hV1=>?_
 refine zaa zcV ?_
 refine zab zcA (zba hA1) (Ext.refl w1_) fun v4 h4=>?_
 refine (zbv h4 (Ext.refl w1_)).mono ?_
 rintro _ w2_ ⟨hx2_,rfl⟩
 refine ⟨(hx1_.trans hx2_),?_⟩
 rfl
theorem zhv {w W:World} {v:Value} {c:DCode} (h:Is W v c) (e:Ext W w) (hw:zi3 c≤1048576) :
   CALL Tryz.prog 31 [v] w fun r w'=>Ext w w'∧Own w.heap.size w' r (zes c):=by
 refine F31_call ?_
 unfold F31
 refine zcT h e fun w1 hx1 hA=>?_
 refine za9 zlV fun w2 hx2 hB2=>?_
 have hg2:=hB2.lt
 have hs1:=hx1.size
 refine zab zdn hA hx2 fun v5 h5=>?_
 refine (zfp h5 hx2).mono ?_
 rintro _ w3 ⟨hx3,rfl⟩
 have hs3:=hx3.size
 refine zau ?_
 refine br (fun hn=>?_) (fun hc=>?_)
 · refine zaQ (cells:=#[.slice none 0 0,.slice none 0 0,.slice none 0 0]) (by kernel_rfl) ?_
   refine zbb (lo:=w3.heap.size) (hi:=w3.heap.size) zbq rfl (hB2.ext hx3) rfl zk6 fun w4 hc4 hB4=>?_
   refine zcR hB4 zbq ?_
   refine ⟨Ext.chgI (hx1.trans (hx2.trans hx3)) hc4 (by omega),?_⟩
   unfold zes
   rw [if_neg hn]
   exact (zk6 (lo:=w4.heap.size) (hi:=w4.heap.size)).own.mono (by have:=hc4.size;omega)
 have hc:=Decidable.not_not.1 hc
 have hsz:c.globals.length≤1048576∧c.locks.length≤1048576:=by unfold zi3 zmp at hw;omega
 refine zaa zcL ?_
 refine zab zcA (zaR hA) (hx2.trans hx3) fun v10 h10=>?_
 refine zad u24 h10 ?_
 refine zir (α:=Int) u25 ty3 rfl rfl zlI (by omega) (by omega) fun w4 hx4 r12=>?_
 have hs4:=hx4.size
 refine zaQ (cells:=#[.slice (some ⟨w3.heap.size,0,none⟩) c.globals.length c.globals.length,.slice none 0 0,.slice none 0 0]) (by kernel_rfl) ?_
 refine za9 zlV fun w5 hx5 hB5=>?_
 have hg5:=hB5.lt
 have hs5:=hx5.size
 have o12:=(r12.own.ext hx5)
 refine zbb (x:=(⟨List.replicate c.globals.length 0,[],[]⟩:DState)) (lo:=w3.heap.size) (hi:=w4.heap.size) zbq rfl hB5 rfl
   (zcF (l0:=w3.heap.size) (h0:=w4.heap.size) (l1:=w4.heap.size) (h1:=w4.heap.size) (l2:=w4.heap.size) (h2:=w4.heap.size) o12 (zbZ none) (zbZ none) (by omega) (by omega) (by omega) (by omega) (by omega) (by omega)) fun w6 hc6 hB6=>?_
 have hs6:=hc6.size
 have r12':=(r12.ext hx5).chg hc6 (by omega)
 have hx16:Ext w1 w6:=Ext.chgI (hx2.trans (hx3.trans (hx4.trans hx5))) hc6 (by omega)
 refine zaO c.locks.length (fun k us w'=>us=[.int .i64 (k:Int)]∧∃ v1 hi,hi≤w'.heap.size∧w6.heap.size≤w'.heap.size∧Ext w1 w'∧Blk w4.heap.size 33 w' [.slice (some ⟨w3.heap.size,0,none⟩) c.globals.length c.globals.length,v1,.slice none 0 0] ∧
   RowI w3.heap.size w4.heap.size 3 w' (.slice (some ⟨w3.heap.size,0,none⟩) c.globals.length c.globals.length) (List.replicate c.globals.length 0)∧RowI w6.heap.size hi 3 w' v1 (List.replicate k (-1))∧Blk w1.heap.size 33 w' [.slice none 0 0,.slice none 0 0,.slice none 0 0]) 0 (Nat.zero_le _)
   ⟨rfl,.slice none 0 0,w6.heap.size,Nat.le_refl _,Nat.le_refl _,hx16,hB6,r12',zc0 _ _ _ _,((hB2.ext hx3).ext (hx4.trans hx5)).chgI hc6 (by omega)⟩ ?_
 rintro k m u w7 hkm ⟨hu,v1,hi,hhi,hs7,hx7,hB7,o7,r7,hB27⟩
 simp only [List.map_cons,List.map_nil,List.cons.injEq,and_true] at hu
 rw [hu]
 refine zaa zef ?_
 refine zab zcA (zbA hA) hx7 fun v16 h16=>?_
 refine zad u24 h16 ?_
 refine zaj ?_
 refine br (fun hlt=>?_) (fun hge=>?_)
 · refine zaa zca ?_
   refine zb1 zaP hB7 rfl ?_
   refine zei (α:=Int) (lo2:=w7.heap.size) (hi2:=w7.heap.size) u25 ty3 z3 zc3 (by decide) r7 (by omega) (ownI_int (by unfold I64;omega)) (by omega) (by omega) (by rw [zak,List.length_replicate];omega) (by rw [List.length_replicate];omega) fun v24 w8 hc8 r8=>?_
   have hs8:=hc8.size
   refine zaa zca ?_
   refine zcg (α:=List Int) zaP rfl rfl (hB7.chgI hc8 (by omega)) (by simp) r8.own fun w9 hc9 hB9=>?_
   have hs9:=hc9.size
   refine zal (by omega) ?_
   refine ⟨m-1,by omega,k+1,by omega,rfl,v24,w8.heap.size,by omega,by omega,Ext.chgI (Ext.chgI hx7 hc8 (by omega)) hc9 (by omega),hB9,(o7.chg hc8 (by omega)).chg hc9 (by omega),?_,(hB27.chgI hc8 (by omega)).chgI hc9 (by omega)⟩
   have:=r8.chg hc9 (by omega)
   rwa [←List.replicate_succ'] at this
 have hk:k=c.locks.length:=by omega
 subst hk
 have hx8:=zai w7
 have hs8:=hx8.size
 refine zaa zaI ?_
 refine zb1 zdk (hB7.ext hx8) rfl ?_
 refine zaa za3 ?_
 refine zab zaP (zao hA) (hx7.trans hx8) fun v29 h29=>?_
 refine zab zdn hA (hx7.trans hx8) fun v30 h30=>?_
 refine (zlH h30 (hx7.trans hx8)).mono ?_
 rintro _ w9 ⟨hx9,rfl⟩
 have hs9:=hx9.size
 refine ⟨hx9,?_⟩
 obtain ⟨hp0,hp1⟩:=zkp hc
 refine zar u25 ty3 h29 hp0 hp1 fun b o hA2=>?_
 refine zac ty3 hA2 (hx7.trans (hx8.trans hx9)) fun hI=>?_
 refine zdK (α:=Int) (lo:=w9.heap.size) (hi:=w9.heap.size) u25 ty3 z3 (by decide) (ownI_int hI) (by omega) fun v34 w10 hx10 o34=>?_
 have hs10:=hx10.size
 refine ⟨hx10,?_⟩
 refine zgx (α:=List Int) (lo:=w9.heap.size) (hi:=w9.heap.size) u31 zaP z25 zo2 (by decide) (zc0 _ _ _ _) (by omega) o34 (by omega) (by omega) (by rw [zak];simp) (by simp) fun v36 w11 hc11 r36=>?_
 have hs11:=hc11.size
 have hB11:=((hB7.ext (hx8.trans (hx9.trans hx10)))).chgI hc11 (by omega)
 have o11:=((o7.ext (hx8.trans (hx9.trans hx10)))).chg hc11 (by omega)
 have r11:=((r7.ext (hx8.trans (hx9.trans hx10)))).chg hc11 (by omega)
 have hB211:=((hB27.ext (hx8.trans (hx9.trans hx10)))).chgI hc11 (by omega)
 refine zaa zaI ?_
 refine zcg (α:=List (List Int)) zdk rfl rfl hB11 (by simp) r36.own fun w12 hc12 hB12=>?_
 have hs12:=hc12.size
 refine zel hB12 zbq ?_
 have ost:OwnI w3.heap.size w11.heap.size w12 (.agg #[.slice (some ⟨w3.heap.size,0,none⟩) c.globals.length c.globals.length,v1,v36]) (zbD c):=by
   refine zcF (l0:=w3.heap.size) (h0:=w4.heap.size) (l1:=w6.heap.size) (h1:=hi) (l2:=w9.heap.size) (h2:=w11.heap.size) (o11.chg hc12 (by omega)).own (r11.chg hc12 (by omega)).own ?_ (by omega) (by omega) (by omega) (by omega) (by omega) (by omega)
   have:=(r36.chg hc12 (by omega)).own
   rw [zbs] at this
   exact this
 refine zbb zbq rfl (hB211.chgI hc12 (by omega)) rfl ost fun w13 hc13 hB13=>?_
 have hs13:=hc13.size
 refine zcR hB13 zbq ?_
 refine ⟨Ext.chgI (Ext.chgI (Ext.chgI (hx1.trans (hx7.trans (hx8.trans (hx9.trans hx10)))) hc11 (by omega)) hc12 (by omega)) hc13 (by omega),?_⟩
 unfold zes
 rw [if_pos hc]
 exact (ost.chg hc13 (by omega)).own.mono (by omega)
def stQ (c:DCode) (g1:Nat) (w0:World):ParQ:=fun i u T w=>match i with
 | 0=>u 5=.pointer (some ⟨g1,0+0,none⟩)
 | 1=>Is w0 (u 6) c.globals
 | 2=>u 7=.int .i64 (c.globals.length:Int)
 | 3=>∃ a cap,u 8=.slice a c.globals.length cap∧RowI (T 3).1 (T 3).2 3 w (u 8) (List.replicate c.globals.length (0:Int))
 | 4=>u 9=.pointer (some ⟨g1,0+1,none⟩)
 | 5=>Is w0 (u 10) c.locks
 | 6=>u 11=.int .i64 (c.locks.length:Int)
 | 7=>∃ a cap,u 12=.slice a c.locks.length cap∧RowI (T 7).1 (T 7).2 3 w (u 12) (List.replicate c.locks.length (0:Int))
 | 8=>u 13=.agg #[u 8,u 12,.slice none 0 0]
 | 9=>∃ g,u 3=.pointer (some ⟨g,0,none⟩)∧(T 9).1≤g∧g<(T 9).2∧Blk g 33 w [.slice none 0 0,.slice none 0 0,.slice none 0 0]
 | _=>True
theorem zlJ {w W:World} {v:Value} {c:DCode} (h:Is W v c) (e:Ext W w) (hw:zi3 c≤1048576) (hc:CodeR c) :
   CALL Tryz.prog 73 [v] w fun r w'=>Ext w w'∧Own w.heap.size w' r (zbD c):=by
 have hsz:c.globals.length≤1048576∧c.locks.length≤1048576:=by unfold zi3 zmp at hw;omega
 refine F73_call ?_
 unfold F73
 refine zcT h e fun w1 hx1 hA=>?_
 refine za9 zlV fun w2 hx2 hB2=>?_
 have hg2:=hB2.lt
 have hs1:=hx1.size
 have hx3:=zai w2
 have hs3:=hx3.size
 refine PAR.mk (stQ c w.heap.size (World.drew1 w2)) ?_ ?_ ?_
 · intro i u u' T T' wa wb hxa hxb hd hq
   match i,hd,hq with
   | 0,hd,hq=>exact (hd (0,5) (by decide)).1.trans hq
   | 1,hd,hq=>have:=(hd (1,6) (by decide)).1;show Is _ (u' 6) _;simp only [this];exact hq
   | 2,hd,hq=>exact (hd (2,7) (by decide)).1.trans hq
   | 3,hd,⟨a,cap,q1,q2⟩=>
     obtain ⟨e1,e2⟩:=hd (3,8) (by decide)
     simp only at e1 e2
     refine ⟨a,cap,e1.trans q1,?_⟩
     simp only [e1,e2];exact q2.ext hxb
   | 4,hd,hq=>exact (hd (4,9) (by decide)).1.trans hq
   | 5,hd,hq=>have:=(hd (5,10) (by decide)).1;show Is _ (u' 10) _;simp only [this];exact hq
   | 6,hd,hq=>exact (hd (6,11) (by decide)).1.trans hq
   | 7,hd,⟨a,cap,q1,q2⟩=>
     obtain ⟨e1,e2⟩:=hd (7,12) (by decide)
     simp only at e1 e2
     refine ⟨a,cap,e1.trans q1,?_⟩
     simp only [e1,e2];exact q2.ext hxb
   | 8,hd,hq=>
     have e1:=(hd (8,13) (by decide)).1
     have e2:=(hd (3,8) (by decide)).1
     have e3:=(hd (7,12) (by decide)).1
     simp only at e1 e2 e3
     show u' 13=.agg #[u' 8,u' 12,.slice none 0 0]
     rw [e1,e2,e3];exact hq
   | 9,hd,⟨g,q1,q2,q3,q4⟩=>
     obtain ⟨e1,e2⟩:=hd (9,3) (by decide)
     simp only at e1 e2
     exact ⟨g,e1.trans q1,by rw [e2];exact q2,by rw [e2];exact q3,q4.ext hxb⟩
   | n+10,_,_=>trivial
 · refine ⟨fun u T w' hx _ _=>?_,fun u T w' hx _ hp=>?_,fun u T w' hx _ hp=>?_,fun u T w' hx _ hp=>?_,fun u T w' hx _ _=>?_,fun u T w' hx _ hp=>?_,fun u T w' hx _ hp=>?_,fun u T w' hx _ hp=>?_,fun u T w' hx _ hp=>?_,fun u T w' hx _ _=>?_,trivial⟩
   · exact zaa zcL ⟨Ext.refl _,rfl⟩
   · have q0:u 5=_:=hp.1
     rw [q0]
     exact zab zcA (zaR hA) (hx2.trans (hx3.trans hx)) fun v6 h6=>⟨Ext.refl _,(h6.ext (hx2.trans hx3))⟩
   · have q1:Is _ (u 6) c.globals:=hp.1
     exact zad u24 q1 ⟨Ext.refl _,rfl⟩
   · have q2:u 7=_:=hp.1
     rw [q2]
     exact zir (α:=Int) u25 ty3 rfl rfl zlI (by omega) (by omega) fun w4 hx4 r=>⟨hx4,_,_,rfl,r⟩
   · exact zaa zef ⟨Ext.refl _,rfl⟩
   · have q0:u 9=_:=hp.1
     rw [q0]
     exact zab zcA (zbA hA) (hx2.trans (hx3.trans hx)) fun v6 h6=>⟨Ext.refl _,(h6.ext (hx2.trans hx3))⟩
   · have q1:Is _ (u 10) c.locks:=hp.1
     exact zad u24 q1 ⟨Ext.refl _,rfl⟩
   · have q2:u 11=_:=hp.1
     rw [q2]
     exact zir (α:=Int) u25 ty3 rfl rfl zlI (by omega) (by omega) fun w4 hx4 r=>⟨hx4,_,_,rfl,r⟩
   · obtain ⟨a,cap,q1,_⟩:∃ a cap,u 8=.slice a c.globals.length cap∧_:=hp.1
     obtain ⟨a',cap',q1',_⟩:∃ a cap,u 12=.slice a c.locks.length cap∧_:=hp.2.1
     rw [q1,q1']
     refine zaQ (cells:=#[.slice a c.globals.length cap,.slice a' c.locks.length cap',.slice none 0 0]) (by kernel_rfl) ⟨Ext.refl _,?_⟩
     show _=Value.agg #[u 8,u 12,.slice none 0 0]
     rw [q1,q1'];rfl
   exact za9 zlV fun w4 hx4 hB=>⟨hx4,w'.heap.size,rfl,Nat.le_refl _,hB.lt,hB⟩
 rintro u T w4 hx4 hap ⟨-,-,-,⟨a,cap,-,r8⟩,-,-,-,⟨a',cap',-,r12⟩,q13,⟨g,q3,hg0,hg1,hB3⟩,-⟩
 have q13:u 13=.agg #[u 8,u 12,.slice none 0 0]:=q13
 have t3:=hap.1 3 (by decide)
 have t7:=hap.1 7 (by decide)
 have t9:=hap.1 9 (by decide)
 have d37:=hap.2 3 (by decide) 7 (by decide) (by decide)
 have d39:=hap.2 3 (by decide) 9 (by decide) (by decide)
 have d79:=hap.2 7 (by decide) 9 (by decide) (by decide)
 generalize u 8=v8 at *
 generalize u 12=v12 at *
 have hs4:=hx4.size
 rw [q13,q3]
 refine zbb (x:=(⟨List.replicate c.globals.length 0,List.replicate c.locks.length 0,[]⟩:DState)) (lo:=0) (hi:=w4.heap.size) zbq rfl hB3 rfl
   (zcF (l2:=0) (h2:=0) r8.own r12.own (zbZ none) (by omega) (by omega) (by omega) (by omega) (by omega) (by omega)) fun w5 hc5 hB5=>?_
 have hs5:=hc5.size
 have hx15:Ext w1 w5:=Ext.chgI (hx2.trans (hx3.trans hx4)) hc5 (by omega)
 have o8:=r8.own.chg hc5 (by omega)
 have o12:=r12.own.chg hc5 (by omega)
 have hB25:=((hB2.ext hx3).ext hx4).chgI hc5 (by omega)
 refine zaa zca ?_
 refine zb1 zaP hB5 rfl ?_
 refine zad u25 o12.is ?_
 rw [List.length_replicate]
 refine zaO c.locks.length (fun k us w'=>us=[.int .i64 (k:Int)]∧w5.heap.size≤w'.heap.size∧Ext w1 w'∧Blk g 33 w' [v8,v12,.slice none 0 0]∧OwnI (T 3).1 (T 3).2 w' v8 (List.replicate c.globals.length (0:Int)) ∧
   OwnI (T 7).1 (T 7).2 w' v12 (List.replicate k (-1)++List.replicate (c.locks.length-k) (0:Int))∧Blk w1.heap.size 33 w' [.slice none 0 0,.slice none 0 0,.slice none 0 0]) 0 (Nat.zero_le _)
   ⟨rfl,Nat.le_refl _,hx15,hB5,o8,by simpa using o12,hB25⟩ ?_
 rintro k m uu w7 hkm ⟨hu,hs7,hx7,hB7,o8,⟨F,hM,hF⟩,hB27⟩
 simp only [List.map_cons,List.map_nil,List.cons.injEq,and_true] at hu
 rw [hu]
 refine zaj ?_
 refine br (fun hlt=>?_) (fun hge=>?_)
 · refine zaa zca ?_
   refine zb1 zaP hB7 rfl ?_
   refine zng (α:=Int) u25 ty3 hM (by simp;omega) (zbU (w:=w7) (x:=-1) (by unfold I64;omega)).own fun w8 hc8 hM8=>?_
   have hcI:=hc8.toI hF
   have hs8:=hc8.size
   refine zal (by omega) ?_
   refine ⟨m-1,by omega,k+1,by omega,rfl,by omega,Ext.chgI hx7 hcI (by omega),hB7.chgI hcI (by omega),o8.chg hcI (by omega),⟨F,?_,hF⟩,hB27.chgI hcI (by omega)⟩
   have:(List.replicate k (-1)++List.replicate (c.locks.length-k) (0:Int)).set k (-1)=List.replicate (k+1) (-1)++List.replicate (c.locks.length-(k+1)) 0:=by
     rw [show c.locks.length-k=(c.locks.length-(k+1))+1 by omega,List.replicate_succ (n:=c.locks.length-(k+1)),List.set_append_right _ _ (by simp),List.length_replicate,Nat.sub_self,List.set_cons_zero,List.replicate_succ' (n:=k)]
     simp
   rw [←this];exact hM8
 have hk:k=c.locks.length:=by omega
 subst hk
 have o12:OwnI (T 7).1 (T 7).2 w7 v12 (List.replicate c.locks.length (-1)):=⟨F,by simpa using hM,hF⟩
 clear hM
 have hx8:=zai w7
 have hs8:=hx8.size
 refine zaa za3 ?_
 refine zab zaP (zao hA) (hx7.trans hx8) fun v26 h26=>?_
 refine zaa zcV ?_
 refine zab zcA (zba hA) (hx7.trans hx8) fun v28 h28=>?_
 refine (zeX h28 (hx7.trans hx8)).mono ?_
 rintro _ w9 ⟨hx9,rfl⟩
 have hs9:=hx9.size
 refine ⟨hx9,?_⟩
 obtain ⟨hp0,hp1⟩:0≤plc (ByteArray.mk #[109,97,105,110]) c.procs∧(plc (ByteArray.mk #[109,97,105,110]) c.procs).toNat<c.entry.length:=zkp hc
 refine zar u25 ty3 h26 hp0 hp1 fun b o hA2=>?_
 refine zac ty3 hA2 (hx7.trans (hx8.trans hx9)) fun hI=>?_
 refine zdK (α:=Int) (lo:=w9.heap.size) (hi:=w9.heap.size) u25 ty3 z3 (by decide) (ownI_int hI) (by omega) fun v32 w10 hx10 o32=>?_
 have hs10:=hx10.size
 refine zdK (α:=List Int) u31 zaP z25 (by decide) o32 (by omega) fun v33 w11 hx11 o33=>?_
 have hs11:=hx11.size
 have hx711:=hx8.trans (hx9.trans (hx10.trans hx11))
 refine zaa zaI ?_
 refine zcg (α:=List (List Int)) zdk rfl rfl (hB7.ext hx711) (by simp) o33 fun w12 hc12 hB12=>?_
 have hs12:=hc12.size
 refine zel hB12 zbq ?_
 have ost:OwnI w2.heap.size w11.heap.size w12 (.agg #[v8,v12,v33]) (zbD c):=by
   refine zcF (l2:=w9.heap.size) (h2:=w11.heap.size) ((o8.ext hx711).chg hc12 (by omega)) ((o12.ext hx711).chg hc12 (by omega)) ?_ (by omega) (by omega) (by omega) (by omega) (by omega) (by omega)
   have:=(o33.chg hc12 (by omega))
   rw [zbs] at this
   exact this
 refine zbb zbq rfl ((hB27.ext hx711).chgI hc12 (by omega)) rfl ost fun w13 hc13 hB13=>?_
 have hs13:=hc13.size
 refine zcR hB13 zbq ?_
 refine ⟨Ext.chgI (Ext.chgI (hx1.trans (hx7.trans hx711)) hc12 (by omega)) hc13 (by omega),?_⟩
 exact (ost.chg hc13 (by omega)).own.mono (by omega)
theorem ziC {α:Type} {l:List α} {i:Nat} {x y:α} (h:y∈l.set i x):y=x∨y∈l:=by
 rcases List.mem_or_eq_of_mem_set h with h | h
 · exact .inr h
 exact .inl h
theorem ze6 {c:DCode} (hc:CodeR c):zaH c (zbD c):=by
 obtain ⟨hp0,hp1⟩:=zkp hc
 have hl:=hc.f.lt _ hp1
 have h0:=hc.f.nonneg hp1
 refine ⟨by simp [zbD],by simp [zbD],by simp [zbD],fun v hv=>?_,fun o ho=>?_,fun l hl'=>?_⟩
 · have:=List.eq_of_mem_replicate hv;omega
 · have:=List.eq_of_mem_replicate ho;simp only [zbD,List.length_cons,List.length_nil];omega
 simp only [zbD,List.mem_cons,List.not_mem_nil,or_false] at hl'
 subst hl'
 refine ⟨by simp,fun i hi=>?_,fun i hi=>by simp at hi⟩
 have:i=0:=by simp at hi;omega
 subst this
 simp only [st,List.getD_cons_zero]
 omega
theorem zpk {l:List Int} {i j:Nat} {x:Int} (hi:i<l.length):st (l.set i x) j=if i=j then x else st l j:=by
 unfold st
 rw [List.getD_eq_getElem?_getD,List.getD_eq_getElem?_getD,List.getElem?_set]
 by_cases h:i=j
 · subst h;simp [hi]
 simp [h]
theorem ziD {l:List Int} {k j:Nat} (hj:j<k):st (l.take k) j=st l j:=by
 unfold st
 rw [List.getD_eq_getElem?_getD,List.getD_eq_getElem?_getD,List.getElem?_take,if_pos hj]
theorem zkq {l:List Int} {j:Nat} {x:Int}:st (l++[x]) j=if j=l.length then x else st l j:=by
 unfold st
 rw [List.getD_eq_getElem?_getD,List.getD_eq_getElem?_getD,List.getElem?_append]
 by_cases h:j<l.length
 · rw [if_pos h,if_neg (by omega)]
 by_cases h2:j=l.length
 · subst h2;simp
 rw [if_neg h,if_neg h2,List.getElem?_eq_none (by simp;omega),List.getElem?_eq_none (by omega)]
theorem zjs {c:DCode} (hc:CodeR c) {a:Int} (h0:0≤a) (h1:a<c.ins.length) (ho:(zbw c a.toNat).op≠9):a+1<c.ins.length∧zaB c (a+1)=zaB c a:=by
 obtain ⟨i,hi,h2,h3,h4⟩:=hc.f.find hc.1.procs8.2 h0 h1
 have h5:=(hc.2.1.2.2.2 a.toNat (by omega))
 rw [Int.toNat_of_nonneg h0,h4,zcH] at h5
 have h6:zcX c i-1≠a:=fun e=>ho (h5.2 e)
 have h7:=(hc.f.lt i hi).2
 exact ⟨by omega,by rw [h4];exact hc.f.proc hi (by omega) (by omega)⟩
theorem zm0 {c:DCode} (hc:CodeR c) {a:Int} (h0:0≤a) (h1:a<c.ins.length) (ho:(zbw c a.toNat).op=2∨(zbw c a.toNat).op=3) :
   0≤(zbw c a.toNat).to∧(zbw c a.toNat).to<c.ins.length∧zaB c (zbw c a.toNat).to=zaB c a:=by
 obtain ⟨i,hi,h2,h3,h4⟩:=hc.f.find hc.1.procs8.2 h0 h1
 have h5:=(zhh hc (j:=a.toNat) (by omega)).2.2.2
 rw [if_pos ho,Int.toNat_of_nonneg h0,h4,zcH,Int.toNat_natCast] at h5
 have h6:=hc.f.nonneg hi
 have h7:=(hc.f.lt i hi).2
 exact ⟨by omega,by omega,by rw [h4];exact hc.f.proc hi h5.1 (by omega)⟩
theorem zm1 {c:DCode} (hc:CodeR c) {i:Nat} (hi:i<c.entry.length):0≤en c i∧en c i<c.ins.length∧zaB c (en c i)=i:=by
 have h6:=hc.f.nonneg hi
 have h7:=hc.f.lt i hi
 exact ⟨h6,by omega,hc.f.proc hi (Int.le_refl _) h7.1⟩
theorem zlK (c:DCode):zb5 c []:=⟨by simp,fun i hi=>by simp at hi,fun i hi=>by simp at hi⟩
theorem zlL {c:DCode} {n:Int} (h0:0≤n) (h1:n<c.ins.length):zb5 c [n]:=by
 refine ⟨by simp,fun i hi=>?_,fun i hi=>by simp at hi⟩
 have:i=0:=by simp at hi;omega
 subst this
 exact ⟨h0,h1⟩
theorem zhT {c:DCode} {l:List Int} {n:Int} (h:zb5 c l) (hl:0<l.length) (h0:0≤n) (h1:n<c.ins.length) (hp:zaB c n=zaB c (st l (l.length-1))):zb5 c (l.set (l.length-1) n):=by
 have hs:∀ j,st (l.set (l.length-1) n) j=if l.length-1=j then n else st l j:=fun j=>zpk (by omega)
 refine ⟨by rw [List.length_set];exact h.1,fun i hi=>?_,fun i hi=>?_⟩
 · rw [List.length_set] at hi
   rw [hs]
   split
   · exact ⟨h0,h1⟩
   exact h.2.1 i hi
 rw [List.length_set] at hi
 have h2:=h.2.2 i hi
 rw [hs i,if_neg (by omega)]
 refine ⟨h2.1,?_⟩
 rw [hs (i+1)]
 split
 · rename_i he
   rw [hp,he];exact h2.2
 exact h2.2
theorem zkr {c:DCode} {l:List Int} {n:Int} (h:zb5 c l) (hl:l.length<8) (h0:0≤n) (h1:n<c.ins.length) (hp:0<l.length→(zbw c (st l (l.length-1)).toNat).op=4∧zaB c n=(zbw c (st l (l.length-1)).toNat).arg):zb5 c (l++[n]):=by
 refine ⟨by simp;omega,fun i hi=>?_,fun i hi=>?_⟩
 · rw [zkq]
   split
   · exact ⟨h0,h1⟩
   exact h.2.1 i (by simp at hi;omega)
 simp only [List.length_append,List.length_cons,List.length_nil] at hi
 rw [zkq,zkq,if_neg (by omega)]
 by_cases e:i+1=l.length
 · rw [if_pos e]
   have:i=l.length-1:=by omega
   subst this
   exact hp (by omega)
 rw [if_neg e]
 exact h.2.2 i (by omega)
theorem zks {c:DCode} {l:List Int} (h:zb5 c l) (k:Nat):zb5 c (l.take k):=by
 refine ⟨by rw [List.length_take];have:=h.1;omega,fun i hi=>?_,fun i hi=>?_⟩
 · rw [List.length_take] at hi
   rw [ziD (by omega)]
   exact h.2.1 i (by omega)
 rw [List.length_take] at hi
 rw [ziD (by omega),ziD (by omega)]
 exact h.2.2 i (by omega)
theorem zlM {c:DCode} (hc:CodeR c) {l:List Int} (h:zb5 c l) (hl:0<l.length):zb5 c (zhk l):=by
 unfold zhk
 split
 · exact zlK c
 rename_i h1
 have h2:=h.2.2 (l.length-2) (by omega)
 have h3:=h.2.1 (l.length-2) (by omega)
 obtain ⟨h4,h5⟩:=zjs hc h3.1 h3.2 (by omega)
 have h6:=zhT (n:=st l (l.length-2)+1) (zks h (l.length-1)) (by rw [List.length_take];omega) (by omega) h4 (by
   rw [List.length_take,ziD (by omega),h5]
   congr 2
   omega)
 rw [List.length_take] at h6
 rw [show min (l.length-1) l.length-1=l.length-2 by omega] at h6
 exact h6
theorem zf9 {c:DCode} {s:DState} (hs:zaH c s) {k:Nat} {l:List Int} (hl:zb5 c l):zaH c ⟨s.vars,s.owner,s.stacks.set k l⟩:=by
 refine ⟨hs.1,hs.2.1,by simp only [List.length_set];exact hs.2.2.1,hs.2.2.2.1,by simp only [List.length_set];exact hs.2.2.2.2.1,fun x hx=>?_⟩
 rcases ziC hx with rfl | hx
 · exact hl
 exact hs.2.2.2.2.2 x hx
theorem zjt {c:DCode} {s:DState} {t:Int} (hc:CodeR c) (hs:zaH c s) (hgo:GoR c s t):zaH c (zaJ c s t):=by
 have hth:=zep hgo.1
 unfold zaJ
 split
 · refine ⟨by simp only [List.length_set];exact hs.1,hs.2.1,hs.2.2.1,fun v hv=>?_,hs.2.2.2.2.1,hs.2.2.2.2.2⟩
   rcases ziC hv with rfl | hv
   · exact zcl _ _ _ _
   exact hs.2.2.2.1 v hv
 split
 · split
   · rename_i h1 h5 h6
     have hp:=zeJ hc hs hgo.1 (.inr h5)
     refine ⟨hs.1,hs.2.1,by simp only [List.length_append,List.length_cons,List.length_nil];omega,hs.2.2.2.1,fun o ho=>?_,fun x hx=>?_⟩
     · have:=hs.2.2.2.2.1 o ho
       simp only [List.length_append,List.length_cons,List.length_nil];omega
     rcases List.mem_append.1 hx with hx | hx
     · exact hs.2.2.2.2.2 x hx
     simp only [List.mem_cons,List.not_mem_nil,or_false] at hx
     subst hx
     obtain ⟨h7,h8,_⟩:=zm1 hc hp.2
     exact zlL h7 h8
   exact hs
 split
 · refine ⟨hs.1,by simp only [List.length_set];exact hs.2.1,hs.2.2.1,hs.2.2.2.1,fun o ho=>?_,hs.2.2.2.2.2⟩
   rcases ziC ho with rfl | ho
   · simp only;omega
   exact hs.2.2.2.2.1 o ho
 split
 · split
   · refine ⟨hs.1,by simp only [List.length_set];exact hs.2.1,hs.2.2.1,hs.2.2.2.1,fun o ho=>?_,hs.2.2.2.2.2⟩
     rcases ziC ho with rfl | ho
     · simp only;omega
     exact hs.2.2.2.2.1 o ho
   exact hs
 exact hs
theorem zeK {c:DCode} {s:DState} {t:Int} (hc:CodeR c) (hs:zaH c s) (hgo:GoR c s t):zaH c (zbV c s t):=by
 have hth:=zep hgo.1
 obtain ⟨tn,rfl,htn,hne,hl8,hat⟩:=ziA hs hgo.1
 have hpos:=List.length_pos_iff.2 hne
 have hk:=hs.2.2.2.2.2 (stk s tn) (by rw [←zdA (by omega)];exact List.getElem_mem _)
 have hlt:=zkl hs tn
 unfold zbV
 split
 · rename_i h4
   have hp:=zeJ hc hs hgo.1 (.inl h4)
   obtain ⟨h7,h8,h9⟩:=zm1 hc hp.2
   have h10:=hgo.2.2 h4
   refine zf9 hs (zkr hk (by omega) h7 h8 fun _=>?_)
   rw [←hat]
   refine ⟨h4,?_⟩
   rw [h9]
   have:=hp.1
   unfold atI at this ⊢
   omega
 split
 · exact zf9 hs (zlM hc hk hpos)
 rename_i h4 h9
 have hn:=zjs hc hgo.1 hlt.2 h9
 have key:0≤zcd c s tn∧zcd c s tn<c.ins.length∧zaB c (zcd c s tn)=zaB c (zdx s tn):=by
   unfold zcd
   have hnx:0≤zdx s tn+1∧zdx s tn+1<c.ins.length∧zaB c (zdx s tn+1)=zaB c (zdx s tn):=⟨by have:=hgo.1;omega,hn.1,hn.2⟩
   split
   · rename_i h2
     split
     · exact zm0 hc hgo.1 hlt.2 (.inl h2)
     exact hnx
   split
   · rename_i h3
     exact zm0 hc hgo.1 hlt.2 (.inr h3)
   exact hnx
 refine zf9 (zjt hc hs hgo) (zhT hk hpos key.1 key.2.1 ?_)
 rw [key.2.2,hat]
end Go.Proofs.YtbnjpfjjmhodnaaGreat
namespace Go.Sh
def zpM (l:List Nat):List Int:=l.map fun x:Nat=>(x:Int)
section
variable {nx:Nat→List Nat} {n a k x q:Nat} {M0 ms:List Bool} {td td':List Nat}
end
noncomputable def zpN (p:Nat→Prop):Nat→Nat
 | 0=>0
 | n+1=>zpN p n ||| (if @decide (p n) (Classical.propDecidable _) then 2^n else 0)
section
variable {n:Nat} {p q:Nat→Prop}
end
end Go.Sh
namespace Go.Proofs.YtbnjpfjjmhodnaaGreat
open Go Go.Sh Go.Proofs
open Rep (rep)
section
variable {P:Program} {w w':World}
end
section
variable {w1 w w':World} {m n lo hi:Nat} {tv:Value} {L:List Nat} {ms:List Bool}
end
theorem ownI_int {w:World} {x:Int} (lo hi:Nat) (h:I64 x):OwnI lo hi w (.int .i64 x) x:=⟨[],zbU h,by simp⟩
section
variable {P:Program} {w:World} {α:Type} [Rep α] [Flat α] {lo hi e:Nat} {v:Value} {l:List α}
end
noncomputable def m6 (p:Nat→Prop):Nat:=zpN p 6
abbrev Tab:=List (Nat×Nat)
structure DEffect where
 keep:Int
 gen:Int
theorem DEffect.ext_iff {x y:DEffect}:x=y↔(x.keep=y.keep∧x.gen=y.gen):=⟨fun h=>by rw [h];exact ⟨rfl,rfl⟩,fun h=>by obtain ⟨h0,h1⟩:=h;cases x;cases y;simp only at h0 h1;simp only [h0,h1]⟩
instance:DecidableEq DEffect:=fun x y=>decidable_of_iff (x.keep=y.keep∧x.gen=y.gen) DEffect.ext_iff.symm
instance:Rep DEffect:=Rep.via fun x=>(x.keep,x.gen)
instance:RepZ DEffect:=⟨⟨(RepZ.zv:Int),(RepZ.zv:Int)⟩,RepZ.zc (Int×Int),fun w=>RepZ.zr (α:=Int×Int) w⟩
instance:Flat DEffect:=⟨fun h=>Flat.flat (α:=Int×Int) h⟩
end Go.Proofs.YtbnjpfjjmhodnaaGreat
namespace Go.Sh
open Rep (rep)
theorem ChgI.one {w w':World} {g:Nat} (h:ChgI g (g+1) w w'):Chg [g] w w':=⟨h.os,h.tape,h.output,h.size,fun b hb hn=>h.block b hb (by simp at hn;omega)⟩
end Go.Sh
namespace Go.Proofs.YtbnjpfjjmhodnaaGreat
open Go Go.Sh Go.Proofs
open Rep (rep)
theorem ziE {w:World} {lo hi:Nat} {u:Value} (h:u.oneCell'=true):OwnI lo hi w u (⟨u⟩:Raw):=⟨[],⟨⟨[u],⟨rfl,rfl,h⟩,rfl⟩,List.nodup_nil,Wr.nil _⟩,by simp⟩
section
variable {w1 w w':World} {gv g ga n:Nat} {ms:List Bool} {ag:Bool}
end
abbrev Raw5:=Raw×Raw×Raw×Raw×Raw
theorem zju {w:World} {lo hi:Nat} {a b c d e:Value} (ha:a.oneCell'=true) (hb:b.oneCell'=true) (hc:c.oneCell'=true) (hd:d.oneCell'=true) (he:e.oneCell'=true):OwnI lo hi w (.agg #[a,b,c,d,e]) ((⟨a⟩,⟨b⟩,⟨c⟩,⟨d⟩,⟨e⟩):Raw5):=by
 refine ⟨[],⟨⟨[a,b,c,d,e],?_,rfl⟩,List.nodup_nil,Wr.nil _⟩,by simp⟩
 have r:∀ {v:Value},v.oneCell'=true→rep [] w [v] (⟨v⟩:Raw):=fun h=>⟨rfl,rfl,h⟩
 exact zax (F:=[]) (r ha) (zax (F:=[]) (r hb) (zax (F:=[]) (r hc) (zax (F:=[]) (r hd) (r he))))
theorem zm2 {w:World} {v:Value} {p:DProg} (h:Is w v p):∃ c0 c1 c2,v=.agg #[c0,c1,c2]∧c0.oneCell'=true∧c1.oneCell'=true∧c2.oneCell'=true:=by
 obtain ⟨F,cs,hr,rfl⟩:=h
 have hone:=Rep.one hr
 obtain ⟨F1,F2,x1,x2,rfl,rfl,h1,F3,F4,x3,x4,rfl,rfl,h2,h3⟩:=hr
 have e1:∃ a,x1=[a]:=by obtain ⟨a,cap,Fi,xs,rfl,_⟩:=h1;exact ⟨_,rfl⟩
 have e2:∃ a,x3=[a]:=by obtain ⟨a,cap,Fi,xs,rfl,_⟩:=h2;exact ⟨_,rfl⟩
 have e3:∃ a,x4=[a]:=by obtain ⟨a,cap,Fi,xs,rfl,_⟩:=h3;exact ⟨_,rfl⟩
 obtain ⟨a1,rfl⟩:=e1
 obtain ⟨a2,rfl⟩:=e2
 obtain ⟨a3,rfl⟩:=e3
 exact ⟨a1,a2,a3,rfl,hone a1 (by simp),hone a2 (by simp),hone a3 (by simp)⟩
theorem zm3 {α:Type} [Rep α] (ha:Rep.agg α=false) {lo hi:Nat} {w:World} {v:Value} {x:α} (h:OwnI lo hi w v x):v.oneCell'=true:=by
 obtain ⟨F,⟨hm,_,_⟩,_⟩:=h
 exact Rep.one (za6 ha hm) v (by simp)
def cdQ (p:DProg) (g1:Nat) (w0:World):ParQ:=fun i u T w=>match i with
 | 0=>∃ a,u 11=.slice (some a) 0 0
 | 1=>u 12=.pointer (some ⟨g1,0+0,none⟩)
 | 2=>Is w0 (u 13) p.globals
 | 3=>OwnI (T 3).1 (T 3).2 w (u 14) p.globals
 | 4=>∃ a,u 15=.slice (some a) 0 0
 | 5=>u 16=.pointer (some ⟨g1,0+1,none⟩)
 | 6=>Is w0 (u 17) p.locks
 | 7=>OwnI (T 7).1 (T 7).2 w (u 18) p.locks
 | 8=>u 19=.agg #[u 14,u 18,.slice none 0 0,.slice none 0 0,.slice none 0 0]
 | 9=>∃ g,u 4=.pointer (some ⟨g,0,none⟩)∧(T 9).1≤g∧g<(T 9).2∧Blk g 28 w [.slice none 0 0,.slice none 0 0,.slice none 0 0,.slice none 0 0,.slice none 0 0]
 | _=>True
structure CdS (W:World) (p:DProg) (gk ge bs x2 l3 h3 l7 h7:Nat) (v14 v18 vp ve:Value) (N:List ByteArray) (E:List Int) (L:List DIns) (Fp Fe Fi:List Nat) (w:World):Prop where
 bk:Blk gk 28 w [v14,v18,vp,ve,.slice none 0 0]
 g:OwnI l3 h3 w v14 p.globals
 l:OwnI l7 h7 w v18 p.locks
 n:RowG Fp 9 w vp N
 e:RowG Fe 3 w ve E
 nn:Fp.Nodup
 en:Fe.Nodup
 em:EmF W ge p L Fi w
 x:Blk x2 28 w [.slice none 0 0,.slice none 0 0,.slice none 0 0,.slice none 0 0,.slice none 0 0]
 dpe:∀ c∈Fp,c∉Fe
 dpi:∀ c∈Fp,c∉Fi
 dei:∀ c∈Fe,c∉Fi
 bp:∀ c∈Fp,bs≤c
 be:∀ c∈Fe,bs≤c
 bi:∀ c∈Fi,bs≤c
section
variable {W:World} {p:DProg} {gk ge bs x2 l3 h3 l7 h7:Nat} {v14 v18 vp ve:Value} {N:List ByteArray} {E:List Int} {L:List DIns} {Fp Fe Fi:List Nat} {w w':World}
theorem zc7 {α:Type} [Rep α] {lo hi:Nat} {v:Value} {x:α} {S:List Nat} (h:OwnI lo hi w v x) (hc:Chg S w w') (hd:∀ c∈S,c<lo∨hi≤c):OwnI lo hi w' v x:=by
 obtain ⟨F,hm,hF⟩:=h
 exact ⟨F,hm.keep fun c hcm=>hc.block c (hm.lt c hcm) fun hs=>by have:=hF c hcm;have:=hd c hs;omega,hF⟩
theorem CdS.ext (h:CdS W p gk ge bs x2 l3 h3 l7 h7 v14 v18 vp ve N E L Fp Fe Fi w) (hx:Ext w w'):CdS W p gk ge bs x2 l3 h3 l7 h7 v14 v18 vp ve N E L Fp Fe Fi w':=
 ⟨h.bk.ext hx,h.g.ext hx,h.l.ext hx,h.n.keep fun c hc=>hx.heap (h.n.lt c hc),h.e.keep fun c hc=>hx.heap (h.e.lt c hc),h.nn,h.en,h.em.ext hx,h.x.ext hx,h.dpe,h.dpi,h.dei,h.bp,h.be,h.bi⟩
variable (ho:gk<bs∧ge<bs∧gk≠ge∧x2<bs∧x2≠gk∧x2≠ge∧h3≤bs∧h7≤bs∧(gk<l3∨h3≤gk)∧(gk<l7∨h7≤gk)∧(ge<l3∨h3≤ge)∧(ge<l7∨h7≤ge)∧W.heap.size≤gk∧W.heap.size≤ge)
include ho
theorem CdS.names (h:CdS W p gk ge bs x2 l3 h3 l7 h7 v14 v18 vp ve N E L Fp Fe Fi w) {vp':Value} {N':List ByteArray} {Fp':List Nat} (hc:Chg (gk :: Fp) w w') (hB:Blk gk 28 w' [v14,v18,vp',ve,.slice none 0 0])
   (hR:RowG Fp' 9 w' vp' N') (hn:Fp'.Nodup) (hs:∀ c∈Fp',c∈Fp∨w.heap.size≤c) (hb:bs≤w.heap.size):CdS W p gk ge bs x2 l3 h3 l7 h7 v14 v18 vp' ve N' E L Fp' Fe Fi w':=by
 have hlt:=h.em.lt
 have hS:∀ c∈gk :: Fp,c=gk∨bs≤c:=fun c hc=>by
   rcases List.mem_cons.1 hc with e | hc
   · exact .inl e
   exact .inr (h.bp c hc)
 refine ⟨hB,zc7 h.g hc fun c hcm=>by have:=hS c hcm;omega,zc7 h.l hc fun c hcm=>by have:=hS c hcm;omega,hR,h.e.keep fun c hcm=>hc.block c (h.e.lt c hcm) fun hm=>?_,hn,h.en,h.em.keep (fun c hcm=>hc.block c ?_ fun hm=>?_) (h.em.old.chgL hc fun c hcm=>?_),h.x.chg hc fun hm=>?_,fun c hcm hce=>?_,fun c hcm hci=>?_,h.dei,fun c hcm=>?_,h.be,h.bi⟩
 · rcases List.mem_cons.1 hm with e | hm
   · have:=h.be c hcm;omega
   exact h.dpe c hm hcm
 · rcases List.mem_cons.1 hcm with rfl | hcm
   · exact hlt.1
   exact hlt.2.1 c hcm
 · rcases List.mem_cons.1 hcm with e1 | hcm
   · rcases List.mem_cons.1 hm with e | hm
     · omega
     have:=h.bp c hm;omega
   rcases List.mem_cons.1 hm with e | hm
   · have:=h.bi c hcm;omega
   exact h.dpi c hm hcm
 · rcases List.mem_cons.1 hcm with e | hcm
   · omega
   have:=h.bp c hcm;omega
 · have:=hS _ hm;omega
 · rcases hs c hcm with k | k
   · exact h.dpe c k hce
   have:=h.e.lt c hce;omega
 · rcases hs c hcm with k | k
   · exact h.dpi c k hci
   have:=hlt.2.1 c hci;omega
 rcases hs c hcm with k | k
 · exact h.bp c k
 omega
theorem CdS.ents (h:CdS W p gk ge bs x2 l3 h3 l7 h7 v14 v18 vp ve N E L Fp Fe Fi w) {ve':Value} {E':List Int} {Fe':List Nat} (hc:Chg (gk :: Fe) w w') (hB:Blk gk 28 w' [v14,v18,vp,ve',.slice none 0 0])
   (hR:RowG Fe' 3 w' ve' E') (hn:Fe'.Nodup) (hs:∀ c∈Fe',c∈Fe∨w.heap.size≤c) (hb:bs≤w.heap.size):CdS W p gk ge bs x2 l3 h3 l7 h7 v14 v18 vp ve' N E' L Fp Fe' Fi w':=by
 have hlt:=h.em.lt
 have hS:∀ c∈gk :: Fe,c=gk∨bs≤c:=fun c hc=>by
   rcases List.mem_cons.1 hc with e | hc
   · exact .inl e
   exact .inr (h.be c hc)
 refine ⟨hB,zc7 h.g hc fun c hcm=>by have:=hS c hcm;omega,zc7 h.l hc fun c hcm=>by have:=hS c hcm;omega,h.n.keep fun c hcm=>hc.block c (h.n.lt c hcm) fun hm=>?_,hR,h.nn,hn,h.em.keep (fun c hcm=>hc.block c ?_ fun hm=>?_) (h.em.old.chgL hc fun c hcm=>?_),h.x.chg hc fun hm=>?_,fun c hcm hce=>?_,h.dpi,fun c hcm hci=>?_,h.bp,fun c hcm=>?_,h.bi⟩
 · rcases List.mem_cons.1 hm with e | hm
   · have:=h.bp c hcm;omega
   exact h.dpe c hcm hm
 · rcases List.mem_cons.1 hcm with rfl | hcm
   · exact hlt.1
   exact hlt.2.1 c hcm
 · rcases List.mem_cons.1 hcm with e1 | hcm
   · rcases List.mem_cons.1 hm with e | hm
     · omega
     have:=h.be c hm;omega
   rcases List.mem_cons.1 hm with e | hm
   · have:=h.bi c hcm;omega
   exact h.dei c hm hcm
 · rcases List.mem_cons.1 hcm with e | hcm
   · omega
   have:=h.be c hcm;omega
 · have:=hS _ hm;omega
 · rcases hs c hce with k | k
   · exact h.dpe c hcm k
   have:=h.n.lt c hcm;omega
 · rcases hs c hcm with k | k
   · exact h.dei c k hci
   have:=hlt.2.1 c hci;omega
 rcases hs c hcm with k | k
 · exact h.be c k
 omega
theorem CdS.ems (h:CdS W p gk ge bs x2 l3 h3 l7 h7 v14 v18 vp ve N E L Fp Fe Fi w) {L':List DIns} {Fi':List Nat} (hc:Chg (ge :: Fi) w w') (hE:EmF W ge p L' Fi' w') (hs:∀ c∈Fi',c∈Fi∨w.heap.size≤c) (hb:bs≤w.heap.size) :
   CdS W p gk ge bs x2 l3 h3 l7 h7 v14 v18 vp ve N E L' Fp Fe Fi' w':=by
 have hS:∀ c∈ge :: Fi,c=ge∨bs≤c:=fun c hc=>by
   rcases List.mem_cons.1 hc with e | hc
   · exact .inl e
   exact .inr (h.bi c hc)
 refine ⟨h.bk.chg hc fun hm=>?_,zc7 h.g hc fun c hcm=>by have:=hS c hcm;omega,zc7 h.l hc fun c hcm=>by have:=hS c hcm;omega,h.n.keep fun c hcm=>hc.block c (h.n.lt c hcm) fun hm=>?_,h.e.keep fun c hcm=>hc.block c (h.e.lt c hcm) fun hm=>?_,h.nn,h.en,hE,h.x.chg hc fun hm=>?_,h.dpe,fun c hcm hci=>?_,fun c hcm hci=>?_,h.bp,h.be,fun c hcm=>?_⟩
 · have:=hS _ hm;omega
 · rcases List.mem_cons.1 hm with e | hm
   · have:=h.bp c hcm;omega
   exact h.dpi c hcm hm
 · rcases List.mem_cons.1 hm with e | hm
   · have:=h.be c hcm;omega
   exact h.dei c hcm hm
 · have:=hS _ hm;omega
 · rcases hs c hci with k | k
   · exact h.dpi c hcm k
   have:=h.n.lt c hcm;omega
 · rcases hs c hci with k | k
   · exact h.dei c hcm k
   have:=h.e.lt c hcm;omega
 rcases hs c hcm with k | k
 · exact h.bi c k
 omega
end
theorem znH {G L P:List ByteArray} {l:List DProc} {k:Nat} (hk:k<l.length) (a:Nat):emP G L P (l.drop k) a=emL G L P l[k].body a++(zow :: emP G L P (l.drop (k+1)) (a+(emL G L P l[k].body a).length+1)):=by
 rw [List.drop_eq_getElem_cons hk,emP]
theorem zm4 {G L P:List ByteArray} {l:List DProc} {k:Nat} (hk:k<l.length) (a:Nat):zji G L P (l.drop k) a=(a:Int) :: zji G L P (l.drop (k+1)) (a+(emL G L P l[k].body a).length+1):=by
 rw [List.drop_eq_getElem_cons hk,zji]
theorem zhl {α:Type} [Rep α] {e:TypeId} {F:List Nat} {w:World} {v:Value} {l:List α} (h:RowG F e w v l) (hn:F.Nodup):Mine F w v l:=⟨h.own,hn,h.wr⟩
def F96 (a0:Value) (w:World) (R:VW):Prop:=
 oP (Instr.box 112 a0) w fun x1 w=>
 oP (Instr.alloc 28 true (.tuple #[])) w fun x2 w=>
 rL 112 x1 w fun x7=>
 cL 158 [x7] w fun x8 w=>
 rB .neq 3 T0 U0 x8 (iV 0) w fun x9=>
 BR x9
 (rD (Instr.build 28 #[]) w fun x10=>
 oS 28 x2 x10 w fun w=>
 rD (zaq 28 x2) w fun r2=>R (Value.tuple #[r2,(Value.bool false)]) w)
 ((fun w0=>PAR w0 [[(0,11)],[(1,12)],[(2,13),(1,12)],[(3,14),(0,11),(2,13)],[(4,15)],[(5,16)],[(6,17),(5,16)],[(7,18),(4,15),(6,17),(3,14)],[(8,19),(3,14),(7,18)],[(9,4)]] (fun Q=>
 (∀ (u3:Env) (T:Nat→Nat×Nat) (w:World),Ext w0 w→zaG [] w0.heap.size w.heap.size T→(True)→(fun w1=>oP (Instr.buildSlice 24 0 #[]) w fun x11 w=>
 Ext w1 w∧Q 0 (upd u3 11 x11) (zbE T 0 (w1.heap.size,w.heap.size)) w) w) ∧
 (∀ (u3:Env) (T:Nat→Nat×Nat) (w:World),Ext w0 w→zaG [] w0.heap.size w.heap.size T→(True)→(fun w1=>rF 112 x1 0 w fun x12=>
 Ext w1 w∧Q 1 (upd u3 12 x12) (zbE T 1 (w1.heap.size,w.heap.size)) w) w) ∧
 (∀ (u3:Env) (T:Nat→Nat×Nat) (w:World),Ext w0 w→zaG [1] w0.heap.size w.heap.size T→(Q 1 u3 T w∧True)→(fun w1=>rL 24 (u3 12) w fun x13=>
 Ext w1 w∧Q 2 (upd u3 13 x13) (zbE T 2 (w1.heap.size,w.heap.size)) w) w) ∧
 (∀ (u3:Env) (T:Nat→Nat×Nat) (w:World),Ext w0 w→zaG [0,2] w0.heap.size w.heap.size T→(Q 0 u3 T w∧Q 2 u3 T w∧True)→(fun w1=>oP (Builtin.append_ #[24,24] 24 [(u3 11),(u3 13)].toArray) w fun x14 w=>
 Ext w1 w∧Q 3 (upd u3 14 x14) (zbE T 3 (w1.heap.size,w.heap.size)) w) w) ∧
 (∀ (u3:Env) (T:Nat→Nat×Nat) (w:World),Ext w0 w→zaG [] w0.heap.size w.heap.size T→(True)→(fun w1=>oP (Instr.buildSlice 24 0 #[]) w fun x15 w=>
 Ext w1 w∧Q 4 (upd u3 15 x15) (zbE T 4 (w1.heap.size,w.heap.size)) w) w) ∧
 (∀ (u3:Env) (T:Nat→Nat×Nat) (w:World),Ext w0 w→zaG [] w0.heap.size w.heap.size T→(True)→(fun w1=>rF 112 x1 1 w fun x16=>
 Ext w1 w∧Q 5 (upd u3 16 x16) (zbE T 5 (w1.heap.size,w.heap.size)) w) w) ∧
 (∀ (u3:Env) (T:Nat→Nat×Nat) (w:World),Ext w0 w→zaG [5] w0.heap.size w.heap.size T→(Q 5 u3 T w∧True)→(fun w1=>rL 24 (u3 16) w fun x17=>
 Ext w1 w∧Q 6 (upd u3 17 x17) (zbE T 6 (w1.heap.size,w.heap.size)) w) w) ∧
 (∀ (u3:Env) (T:Nat→Nat×Nat) (w:World),Ext w0 w→zaG [4,6,3] w0.heap.size w.heap.size T→(Q 4 u3 T w∧Q 6 u3 T w∧Q 3 u3 T w∧True)→(fun w1=>oP (Builtin.append_ #[24,24] 24 [(u3 15),(u3 17)].toArray) w fun x18 w=>
 Ext w1 w∧Q 7 (upd u3 18 x18) (zbE T 7 (w1.heap.size,w.heap.size)) w) w) ∧
 (∀ (u3:Env) (T:Nat→Nat×Nat) (w:World),Ext w0 w→zaG [3,7] w0.heap.size w.heap.size T→(Q 3 u3 T w∧Q 7 u3 T w∧True)→(fun w1=>rD (Instr.build 28 #[(0,(u3 14)),(1,(u3 18))]) w fun x19=>
 Ext w1 w∧Q 8 (upd u3 19 x19) (zbE T 8 (w1.heap.size,w.heap.size)) w) w) ∧
 (∀ (u3:Env) (T:Nat→Nat×Nat) (w:World),Ext w0 w→zaG [] w0.heap.size w.heap.size T→(True)→(fun w1=>oP (Instr.alloc 28 true (.tuple #[])) w fun x4 w=>
 Ext w1 w∧Q 9 (upd u3 4 x4) (zbE T 9 (w1.heap.size,w.heap.size)) w) w) ∧
 True)
 (fun Q=>∀ (u3:Env) (T:Nat→Nat×Nat) (w:World),Ext w0 w→zaG [0,1,2,3,4,5,6,7,8,9] w0.heap.size w.heap.size T→(Q 0 u3 T w∧Q 1 u3 T w∧Q 2 u3 T w∧Q 3 u3 T w∧Q 4 u3 T w∧Q 5 u3 T w∧Q 6 u3 T w∧Q 7 u3 T w∧Q 8 u3 T w∧Q 9 u3 T w∧True) →
 oS 28 (u3 4) (u3 19) w fun w=>
 rL 112 x1 w fun x20=>
 rD (Instr.build 169 #[(0,x20)]) w fun x21=>
 oP (Instr.box 169 x21) w fun x22 w=>
 LOOPI [6] [(iV 0)] w fun u6 w next6=>
 rF 112 x1 2 w fun x24=>
 rL 110 x24 w fun x25=>
 rN 110 3 x25 w fun x26=>
 rC (u6 6) x26 w fun x27=>
 BR x27
 ((fun w=>rF 28 (u3 4) 2 w fun x30=>
 rL 24 x30 w fun x31=>
 rF 112 x1 2 w fun x32=>
 rL 110 x32 w fun x33=>
 rX 110 x33 (u6 6) w fun x35=>
 rF 164 x35 0 w fun x36=>
 rL 9 x36 w fun x37=>
 (fun w_=>oP (Instr.buildSlice 24 1 #[(0,x37)]) w_ fun x38 w=>
 Ext w_ w ∧
 (oP (Builtin.append_ #[24,24] 24 [x31,x38].toArray) w fun x39 w=>
 rF 28 (u3 4) 2 w fun x40=>
 oS 24 x40 x39 w fun w=>
 (fun w=>rF 28 (u3 4) 3 w fun x41=>
 rL 25 x41 w fun x42=>
 NIL x22 <|
 rF 169 x22 1 w fun x45=>
 rL 26 x45 w fun x46=>
 rN 26 3 x46 w fun x47=>
 (fun w_=>oP (Instr.buildSlice 25 1 #[(0,x47)]) w_ fun x48 w=>
 Ext w_ w ∧
 (oP (Builtin.append_ #[25,25] 25 [x42,x48].toArray) w fun x49 w=>
 rF 28 (u3 4) 3 w fun x50=>
 oS 25 x50 x49 w fun w=>
 rF 112 x1 2 w fun x52=>
 rL 110 x52 w fun x53=>
 rX 110 x53 (u6 6) w fun x55=>
 rF 164 x55 1 w fun x56=>
 rL 162 x56 w fun x57=>
 cL 159 [x22,x57] w fun x58 w=>
 rD (Instr.build 77 #[(0,(iV 9))]) w fun x60=>
 cL 160 [x22,x60] w fun x61 w=>
 rA (u6 6) (iV 1) w fun x29=>
 next6 [x29] w)) w) (World.drew1 w))) w) (World.drew1 w))
 (NIL x22 <|
 rF 169 x22 1 w fun x64=>
 rL 26 x64 w fun x65=>
 rF 28 (u3 4) 4 w fun x66=>
 oS 26 x66 x65 w fun w=>
 rL 28 (u3 4) w fun x67=>
 oS 28 x2 x67 w fun w=>
 rD (zaq 28 x2) w fun r2=>R (Value.tuple #[r2,(Value.bool true)]) w))) (World.drew1 w))
def cfg96:Cfg:=⟨extL,[],[(6,4611686018418999360,[6])],[(8,[0,1,2,3,4,5,6,7,8,9,10,11],256),(9,[0,1,2,3,4,5,6,7,8,9,10],128)],[(3,1046544,10)],[],[]⟩
theorem F96_call {a0:Value} {w:World} {R:VW} (h:F96 a0 w R):cL 96 [a0] w R:=co (g:=cfg96) Tryz.func96 (by kernel_rfl) (by kernel_rfl) (by kernel_rfl) h
open Rep (rep)
theorem ziF {w W:World} {v:Value} {p:DProg} (h:Is W v p) (e:Ext W w) (hp:ProgR p) :
   CALL Tryz.prog 96 [v] w fun r w'=>Ext w w'∧∃ a,r=.tuple #[a,.bool true]∧OwnI w.heap.size w'.heap.size w' a (zb3 p):=by
 have hcl:=(zhN hp).2
 obtain ⟨f1,f2,f3,f4⟩:=hp.facts
 refine F96_call ?_
 unfold F96
 refine zcT h e fun w1 hx1 hA=>?_
 have hs1:=hx1.size
 refine za9 zoj fun w2 hx2 hB2=>?_
 have hs2:=hx2.size
 have hg2:=hB2.lt
 refine zab zeg hA hx2 fun v7 h7=>?_
 refine (zjp h7 hx2 hp).mono ?_
 rintro _ w3 ⟨hx3,rfl⟩
 have hs3:=hx3.size
 refine za2 ?_
 refine br (fun hc=>absurd rfl hc) (fun _=>?_)
 have hx13:=hx2.trans hx3
 have hx4:=zai w3
 have hs4:=hx4.size
 generalize World.drew1 w3=w4 at *
 have hx14:=hx13.trans hx4
 have hg1:w.heap.size<w1.heap.size:=by
   obtain ⟨F,cs,hr,hr2⟩:=hA
   exact zfK hr2 (by rw [Rep.len hr];decide)
 refine PAR.mk (cdQ p w.heap.size w4) ?_ ?_ ?_
 · intro i u u' T T' wa wb hxa hxb hd hq
   match i,hd,hq with
   | 0,hd,⟨a,hq⟩=>exact ⟨a,(hd (0,11) (by decide)).1.trans hq⟩
   | 1,hd,hq=>exact (hd (1,12) (by decide)).1.trans hq
   | 2,hd,hq=>have:=(hd (2,13) (by decide)).1;show Is _ (u' 13) _;simp only [this];exact hq
   | 3,hd,hq=>
     obtain ⟨e1,e2⟩:=hd (3,14) (by decide)
     simp only at e1 e2
     show OwnI (T' 3).1 (T' 3).2 wb (u' 14) p.globals
     rw [e1,e2];exact OwnI.ext hq hxb
   | 4,hd,⟨a,hq⟩=>exact ⟨a,(hd (4,15) (by decide)).1.trans hq⟩
   | 5,hd,hq=>exact (hd (5,16) (by decide)).1.trans hq
   | 6,hd,hq=>have:=(hd (6,17) (by decide)).1;show Is _ (u' 17) _;simp only [this];exact hq
   | 7,hd,hq=>
     obtain ⟨e1,e2⟩:=hd (7,18) (by decide)
     simp only at e1 e2
     show OwnI (T' 7).1 (T' 7).2 wb (u' 18) p.locks
     rw [e1,e2];exact OwnI.ext hq hxb
   | 8,hd,hq=>
     have e1:=(hd (8,19) (by decide)).1
     have e2:=(hd (3,14) (by decide)).1
     have e3:=(hd (7,18) (by decide)).1
     simp only at e1 e2 e3
     show u' 19=.agg #[u' 14,u' 18,.slice none 0 0,.slice none 0 0,.slice none 0 0]
     rw [e1,e2,e3];exact hq
   | 9,hd,⟨g,q1,q2,q3,q4⟩=>
     obtain ⟨e1,e2⟩:=hd (9,4) (by decide)
     simp only at e1 e2
     exact ⟨g,e1.trans q1,by rw [e2];exact q2,by rw [e2];exact q3,q4.ext hxb⟩
   | n+10,_,_=>trivial
 · refine ⟨fun u T w' hx _ _=>?_,fun u T w' hx _ _=>?_,fun u T w' hx _ hp'=>?_,fun u T w' hx _ hp'=>?_,fun u T w' hx _ _=>?_,fun u T w' hx _ _=>?_,fun u T w' hx _ hp'=>?_,fun u T w' hx _ hp'=>?_,fun u T w' hx _ hp'=>?_,fun u T w' hx _ _=>?_,trivial⟩
   · exact zbj (α:=ByteArray) u24 ty9 fun a w5 hx5 _=>⟨hx5,a,rfl⟩
   · exact zaa zfN ⟨Ext.refl _,rfl⟩
   · have q0:u 12=_:=hp'.1
     rw [q0]
     exact zab zcA (zdG hA) (hx14.trans hx) fun v6 h6=>⟨Ext.refl _,h6.ext hx14⟩
   · obtain ⟨a,q0⟩:∃ a,u 11=.slice (some a) 0 0:=hp'.1
     have q1:Is _ (u 13) p.globals:=hp'.2.1
     rw [q0]
     exact zcG (α:=ByteArray) u24 ty9 zc9 q1 hx (by rw [hp.g,zak];decide) (by rw [hp.g];decide) fun v5 w5 hx5 r5=>⟨hx5,r5.own⟩
   · exact zbj (α:=ByteArray) u24 ty9 fun a w5 hx5 _=>⟨hx5,a,rfl⟩
   · exact zaa zgS ⟨Ext.refl _,rfl⟩
   · have q0:u 16=_:=hp'.1
     rw [q0]
     exact zab zcA (zex hA) (hx14.trans hx) fun v6 h6=>⟨Ext.refl _,h6.ext hx14⟩
   · obtain ⟨a,q0⟩:∃ a,u 15=.slice (some a) 0 0:=hp'.1
     have q1:Is _ (u 17) p.locks:=hp'.2.1
     rw [q0]
     exact zcG (α:=ByteArray) u24 ty9 zc9 q1 hx (by rw [hp.l,zak];decide) (by rw [hp.l];decide) fun v5 w5 hx5 r5=>⟨hx5,r5.own⟩
   · have o1:OwnI _ _ _ (u 14) p.globals:=hp'.1
     have o2:OwnI _ _ _ (u 18) p.locks:=hp'.2.1
     obtain ⟨a,n,cap,q1⟩:=zdR o1
     obtain ⟨a',n',cap',q1'⟩:=zdR o2
     rw [q1,q1']
     refine zaQ (cells:=#[.slice a n cap,.slice a' n' cap',.slice none 0 0,.slice none 0 0,.slice none 0 0]) (by kernel_rfl) ⟨Ext.refl _,?_⟩
     show _=Value.agg #[u 14,u 18,.slice none 0 0,.slice none 0 0,.slice none 0 0]
     rw [q1,q1'];rfl
   exact za9 zoj fun w5 hx5 hB=>⟨hx5,w'.heap.size,rfl,Nat.le_refl _,hB.lt,hB⟩
 rintro u T w5 hx5 hap ⟨-,-,-,o14,-,-,-,o18,q19,⟨gk,q4,hgk0,hgk1,hB5⟩,-⟩
 have o14:OwnI (T 3).1 (T 3).2 w5 (u 14) p.globals:=o14
 have o18:OwnI (T 7).1 (T 7).2 w5 (u 18) p.locks:=o18
 have q19:u 19=.agg #[u 14,u 18,.slice none 0 0,.slice none 0 0,.slice none 0 0]:=q19
 have t3:=hap.1 3 (by decide)
 have t7:=hap.1 7 (by decide)
 have t9:=hap.1 9 (by decide)
 have d37:=hap.2 3 (by decide) 7 (by decide) (by decide)
 have d39:=hap.2 3 (by decide) 9 (by decide) (by decide)
 have d79:=hap.2 7 (by decide) 9 (by decide) (by decide)
 have hs5:=hx5.size
 obtain ⟨l3,hl3⟩:∃ x,(T 3).1=x:=⟨_,rfl⟩
 obtain ⟨h3,hh3⟩:∃ x,(T 3).2=x:=⟨_,rfl⟩
 obtain ⟨l7,hl7⟩:∃ x,(T 7).1=x:=⟨_,rfl⟩
 obtain ⟨h7,hh7⟩:∃ x,(T 7).2=x:=⟨_,rfl⟩
 rw [hl3,hh3] at o14 t3 d37 d39
 rw [hl7,hh7] at o18 t7 d37 d79
 generalize u 14=v14 at *
 generalize u 18=v18 at *
 rw [q19,q4]
 have one14:=zm3 rfl o14
 have one18:=zm3 rfl o18
 refine zbb (α:=Raw5) (x:=(⟨v14⟩,⟨v18⟩,⟨.slice none 0 0⟩,⟨.slice none 0 0⟩,⟨.slice none 0 0⟩)) (lo:=0) (hi:=0) zdn rfl hB5 rfl (zju one14 one18 rfl rfl rfl) fun w6 hc6 hB6=>?_
 have hs6:=hc6.size
 have hx16:Ext w1 w6:=Ext.chgI (hx14.trans hx5) hc6 (by omega)
 refine zab zeg hA hx16 fun v20 h20=>?_
 obtain ⟨c0,c1,c2,rfl,one0,one1,one2⟩:=zm2 h20
 refine zaQ (cells:=#[c0,c1,c2,.slice none 0 0]) (by kernel_rfl) ?_
 refine zmB fun w7 hx7 hB7=>?_
 have hs7:=hx7.size
 have hg7:=hB7.lt
 have hE7:EmF w1 w6.heap.size p [] [] w7:=by
   refine ⟨c0,c1,c2,.slice none 0 0,h20,⟨[c0,c1,c2,.slice none 0 0],?_,hB7.range,List.nodup_nil,Wr.nil _,by simp,_,_,hB7⟩,hx16.trans hx7,by omega,by simp⟩
   have r:∀ {v:Value},v.oneCell'=true→rep [] w7 [v] (⟨v⟩:Raw):=fun h=>⟨rfl,rfl,h⟩
   exact zax (F:=[]) (r one0) (zax (F:=[]) (r one1) (zax (F:=[]) (r one2) (show rep [] w7 [Value.slice none 0 0] (⟨.slice none 0 0,[]⟩:RIns) from ⟨rfl,.inl ⟨none,rfl,rfl,rfl⟩⟩)))
 have hord:gk<w7.heap.size∧w6.heap.size<w7.heap.size∧gk≠w6.heap.size∧w1.heap.size<w7.heap.size∧w1.heap.size≠gk∧w1.heap.size≠w6.heap.size∧h3≤w7.heap.size∧h7≤w7.heap.size∧(gk<l3∨h3≤gk)∧(gk<l7∨h7≤gk) ∧
     (w6.heap.size<l3∨h3≤w6.heap.size)∧(w6.heap.size<l7∨h7≤w6.heap.size)∧w1.heap.size≤gk∧w1.heap.size≤w6.heap.size:=by omega
 have hS7:CdS w1 p gk w6.heap.size w7.heap.size w1.heap.size l3 h3 l7 h7 v14 v18 (.slice none 0 0) (.slice none 0 0) [] [] [] [] [] [] w7:=
   ⟨hB6.ext hx7,(o14.chg hc6 (by omega)).ext hx7,(o18.chg hc6 (by omega)).ext hx7,.inl ⟨none,rfl,rfl,rfl⟩,.inl ⟨none,rfl,rfl,rfl⟩,List.nodup_nil,List.nodup_nil,hE7,((((hB2.ext hx3).ext hx4).ext hx5).chgI hc6 (by omega)).ext hx7,by simp,by simp,by simp,by simp,by simp,by simp⟩
 generalize hge:w6.heap.size=ge at *
 generalize hbs:w7.heap.size=bs at *
 obtain ⟨G,hG⟩:∃ G,G=p.globals:=⟨_,rfl⟩
 obtain ⟨Lk,hLk⟩:∃ G,G=p.locks:=⟨_,rfl⟩
 obtain ⟨Pn,hPn⟩:∃ G,G=p.procs.map DProc.name:=⟨_,rfl⟩
 have hcd:zb3 p=⟨G,Lk,Pn,zji G Lk Pn p.procs 0,emP G Lk Pn p.procs 0⟩:=by rw [hG,hLk,hPn];rfl
 refine zaO p.procs.length (fun k us w'=>us=[.int .i64 (k:Int)]∧∃ vp ve E L Fp Fe Fi,k≤p.procs.length∧E.length=k∧CdS w1 p gk ge bs w1.heap.size l3 h3 l7 h7 v14 v18 vp ve ((p.procs.take k).map DProc.name) E L Fp Fe Fi w'∧bs≤w'.heap.size ∧
     zji G Lk Pn p.procs 0=E++zji G Lk Pn (p.procs.drop k) L.length∧emP G Lk Pn p.procs 0=L++emP G Lk Pn (p.procs.drop k) L.length) 0 (Nat.zero_le _)
     ⟨rfl,_,_,[],[],[],[],[],Nat.zero_le _,rfl,by simpa using hS7,by omega,by simp,by simp⟩ ?_
 rintro k m uu w8 hkm ⟨hu,vp,ve,E,L,Fp,Fe,Fi,hkl,hEl,hS8,hb8,hent,hem⟩
 simp only [List.map_cons,List.map_nil,List.cons.injEq,and_true] at hu
 rw [hu]
 have hx18:=hS8.em.old
 refine zaa zck ?_
 refine zab zeU (zbh hA) hx18 fun v25 h25=>?_
 refine zad zkI h25 ?_
 refine zaj ?_
 have hLl:L.length≤436:=by
   have h1:=congrArg List.length hem
   have h2:(zb3 p).ins.length=(emP G Lk Pn p.procs 0).length:=by rw [hcd]
   rw [List.length_append] at h1
   omega
 refine br (fun hlt=>?_) (fun hge'=>?_)
 · have hk:k<p.procs.length:=by omega
   have hbody:=hp.b _ (List.getElem_mem hk)
   rw [zm4 hk] at hent
   rw [znH hk] at hem
   have hx9:=zai w8
   have hS9:=hS8.ext hx9
   have hs9:=hx9.size
   generalize World.drew1 w8=w9 at *
   have hx19:=hx18.trans hx9
   refine zaa zcV ?_
   refine zb1 zcA hS9.bk rfl ?_
   refine zaa zck ?_
   refine zab zeU (zbh hA) hx19 fun v33 h33=>?_
   refine zae zkI ziY h33 hk fun b35 o35 hA35=>?_
   refine zaa zic ?_
   refine zam ty9 (zew hA35) hx19 fun hS37=>?_
   have hnl:((p.procs.take k).map DProc.name).length=k:=by rw [List.length_map,List.length_take];omega
   refine zds (β:=ByteArray) (G:=Fp) u24 ty9 z9 zc9 (by decide) hS9.n hS9.nn (zkU hS37) (by simp) (by rw [zak,hnl];omega) (by rw [hnl];omega) (fun w10 v39 w11 Fp' hx10 hc11 hR11 hN11 hs11=>?_) fun s' w' hx' h'=>⟨hx',h'⟩
   have hs10:=hx10.size
   have hs11':=hc11.size
   have hgkF:gk∉Fp:=fun hm=>by have:=hS9.bp _ hm;omega
   have hB11:=(hS9.bk.ext hx10).chg hc11 hgkF
   refine zaa zcV ?_
   refine zcg (α:=Raw) (lo:=0) (hi:=0) zcA rfl rfl hB11 (by simp) (ziE hR11.one) fun w12 hc12 hB12=>?_
   have hs12:=hc12.size
   have hgkF':gk∉Fp':=fun hm=>by
     rcases hs11 _ hm with h | h | h
     · exact hgkF h
     · simp at h
     omega
   have hS12:=hS9.names hord (vp':=v39) (N':=(p.procs.take (k+1)).map DProc.name) (Fp':=Fp') (w':=w12) ((((hx10.chg Fp).trans hc11).mono (by simp +contextual)).trans (hc12.toC.mono (by simp))) hB12
     (by rw [List.take_succ_eq_append_getElem hk,List.map_append];exact hR11.keep fun c hc=>hc12.block c (hR11.lt c hc) (by have:c≠gk:=fun e=>hgkF' (e▸hc);omega)) hN11 (fun c hc=>by
       rcases hs11 c hc with h | h | h
       · exact .inl h
       · simp at h
       exact .inr h) (by omega)
   have hx13:=zai w12
   have hS13:=hS12.ext hx13
   have hs13:=hx13.size
   generalize World.drew1 w12=w13 at *
   have hx113:=hS13.em.old
   refine zaa za3 ?_
   refine zb1 zaP hS13.bk rfl ?_
   refine NIL.mk rfl ?_
   obtain ⟨d0,d1,d2,rv,hd1,hd2,hd3,hd4,hd5⟩:=hS13.em
   refine zaa zeV ?_
   refine zab (α:=RIns) zez (ziv hd2.at) (Ext.refl _) fun v46 k46=>?_
   obtain ⟨q46,h46⟩:=zhs k46
   have q46:v46=rv:=q46
   have h46:Is w13 rv L:=h46
   rw [q46]
   refine zad u26 h46 ?_
   refine zds (β:=Int) (G:=Fe) (x:=(L.length:Int)) u25 ty3 z3 zc3 (by decide) hS13.e hS13.en (zbU (by unfold I64;omega)) (by simp) (by rw [zak,hEl];omega) (by rw [hEl];omega) (fun w14 v49 w15 Fe' hx14' hc15 hR15 hN15 hs15=>?_) fun s' w' hx' h'=>⟨hx',h'⟩
   have hs14:=hx14'.size
   have hs15':=hc15.size
   have hgkE:gk∉Fe:=fun hm=>by have:=hS13.be _ hm;omega
   have hB15:=(hS13.bk.ext hx14').chg hc15 hgkE
   refine zaa za3 ?_
   refine zcg (α:=Raw) (lo:=0) (hi:=0) zaP rfl rfl hB15 (by simp) (ziE hR15.one) fun w16 hc16 hB16=>?_
   have hs16:=hc16.size
   have hgkE':gk∉Fe':=fun hm=>by
     rcases hs15 _ hm with h | h | h
     · exact hgkE h
     · simp at h
     omega
   have hS16:=hS13.ents hord (ve':=v49) (E':=E++[(L.length:Int)]) (Fe':=Fe') (w':=w16) ((((hx14'.chg Fe).trans hc15).mono (by simp +contextual)).trans (hc16.toC.mono (by simp))) hB16
     (hR15.keep fun c hc=>hc16.block c (hR15.lt c hc) (by have:c≠gk:=fun e=>hgkE' (e▸hc);omega)) hN15 (fun c hc=>by
       rcases hs15 c hc with h | h | h
       · exact .inl h
       · simp at h
       exact .inr h) (by omega)
   have hx116:=hS16.em.old
   refine zaa zck ?_
   refine zab zeU (zbh hA) hx116 fun v53 h53=>?_
   refine zae zkI ziY h53 hk fun b55 o55 hA55=>?_
   refine zaa zjW ?_
   refine zab zcs (zfM hA55) hx116 fun v57 h57=>?_
   have hbl:=zf7 G Lk Pn (p.procs[k]).body L.length
   refine (zhg _ 2 _ hS16.em h57 hbody.1 (by have:=hbody.2;omega)).mono ?_
   rintro r58 w17 ⟨hc17,Fi',hE17,hF17⟩
   have hs17:=hc17.size
   rw [←hG,←hLk,←hPn] at hE17
   have hS17:=hS16.ems hord hc17 hE17 hF17 (by omega)
   obtain ⟨z1,z2,z3,z4,z5⟩:=hE17.lt
   refine zhf (lo:=w17.heap.size) (hi:=w17.heap.size) (by unfold I64;omega) fun v60 o60=>?_
   refine (zfy hE17 o60 z1 z2 (Nat.le_refl _) (by have:=hbody.2;rw [List.length_append];omega)).mono ?_
   rintro r61 w18 ⟨-,hc18,Fi'',hE18,hF18⟩
   have hs18:=hc18.size
   have hS18:=hS17.ems hord hc18 hE18 hF18 (by omega)
   refine zal (by omega) ?_
   refine ⟨m-1,by omega,k+1,by omega,rfl,_,_,_,_,_,_,_,by omega,by simp [hEl],hS18,by omega,?_,?_⟩
   · rw [hent];simp [Nat.add_assoc]
   rw [hem];simp [Nat.add_assoc,zow]
 have hk:k=p.procs.length:=by omega
 subst hk
 rw [List.drop_length,zji,List.append_nil] at hent
 rw [List.drop_length,emP,List.append_nil] at hem
 rw [List.take_length] at hS8
 refine NIL.mk rfl ?_
 obtain ⟨d0,d1,d2,rv,hd1,hd2,hd3,hd4,hd5⟩:=hS8.em
 refine zaa zeV ?_
 refine zab (α:=RIns) zez (ziv hd2.at) (Ext.refl _) fun v65 k65=>?_
 obtain ⟨q65,-⟩:=zhs k65
 have q65:v65=rv:=q65
 rw [q65]
 obtain ⟨Gi,hLi⟩:=zf6 (Lens.var hd2)
 obtain ⟨cs1,⟨rfl,hrow⟩,hr1,hnG,_,hg1,_⟩:=hLi.here
 have hrow:RowG Gi 77 w8 rv L:=hrow
 have hGi:∀ c∈Gi,c∈Fi:=fun c hc=>by
   rcases List.mem_cons.1 (hLi.sub c (by simp [hc])) with e | h
   · exact absurd (e▸hc) hg1
   exact h
 refine zaa zbB ?_
 refine zcg (α:=Raw) (lo:=0) (hi:=0) zez rfl rfl hS8.bk (by simp) (ziE hrow.one) fun w9 hc9 hB9=>?_
 have hs9:=hc9.size
 refine zel hB9 zdn ?_
 have hx9:=hS8.x.chgI hc9 (by omega)
 refine zbb (α:=Raw5) (x:=(⟨v14⟩,⟨v18⟩,⟨vp⟩,⟨ve⟩,⟨rv⟩)) (lo:=0) (hi:=0) zdn rfl hx9 rfl (zju one14 one18 hS8.n.one hS8.e.one hrow.one) fun w10 hc10 hB10=>?_
 have hs10:=hc10.size
 refine zcR hB10 zdn ?_
 have hxf:Ext w w10:=Ext.chgI (Ext.chgI (hx1.trans hx18) hc9 (by omega)) hc10 (by omega)
 refine ⟨hxf,_,rfl,?_⟩
 obtain ⟨F3,M3,B3⟩:=(hS8.g.chg hc9 (by omega)).chg hc10 (by omega)
 obtain ⟨F7,M7,B7⟩:=(hS8.l.chg hc9 (by omega)).chg hc10 (by omega)
 have keep:∀ c,bs≤c→c<w8.heap.size→w10.heap[c]?=w8.heap[c]?:=fun c h1 h2=>(hc10.block c (by omega) (by omega)).trans (hc9.block c h2 (by omega))
 have Mp:=zhl (hS8.n.keep fun c hc=>keep c (hS8.bp c hc) (hS8.n.lt c hc)) hS8.nn
 have Me:=zhl (hS8.e.keep fun c hc=>keep c (hS8.be c hc) (hS8.e.lt c hc)) hS8.en
 have Mi:=zhl (hrow.keep fun c hc=>keep c (hS8.bi c (hGi c hc)) (hrow.lt c hc)) hnG
 rw [hcd,hent,hem,hG,hLk,hPn]
 refine ⟨F3++(F7++(Fp++(Fe++Gi))),⟨⟨[v14,v18,vp,ve,rv],zax (za6 rfl M3.own) (zax (za6 rfl M7.own) (zax (za6 rfl Mp.own) (zax (za6 rfl Me.own) (za6 rfl Mi.own)))),rfl⟩,?_,M3.wr.append (M7.wr.append (Mp.wr.append (Me.wr.append Mi.wr)))⟩,fun c hc=>?_⟩
 · simp only [List.nodup_append,List.mem_append]
   refine ⟨M3.nodup,⟨M7.nodup,⟨hS8.nn,⟨hS8.en,hnG,fun a ha b hb e=>?_⟩,fun a ha b hb e=>?_⟩,fun a ha b hb e=>?_⟩,fun a ha b hb e=>?_⟩
   · exact hS8.dei a ha (hGi a (e▸hb))
   · subst e
     rcases hb with h | h
     · exact hS8.dpe a ha h
     exact hS8.dpi a ha (hGi a h)
   · subst e
     have:=B7 a ha
     rcases hb with h | h | h
     · have:=hS8.bp a h;omega
     · have:=hS8.be a h;omega
     have:=hS8.bi a (hGi a h);omega
   subst e
   have:=B3 a ha
   rcases hb with h | h | h | h
   · have:=B7 a h;omega
   · have:=hS8.bp a h;omega
   · have:=hS8.be a h;omega
   have:=hS8.bi a (hGi a h);omega
 simp only [List.mem_append] at hc
 rcases hc with h | h | h | h | h
 · have:=B3 c h;omega
 · have:=B7 c h;omega
 · have:=hS8.bp c h;have:=hS8.n.lt c h;omega
 · have:=hS8.be c h;have:=hS8.e.lt c h;omega
 have:=hS8.bi c (hGi c h);have:=hrow.lt c h;omega
def F69 (a0:Value) (w:World) (R:VW):Prop:=
 rN 22 3 a0 w fun x6=>
 rB .add 3 U0 T0 (iV 94701) x6 w fun x7=>
 LOOPI [3,4] [x7,(iV 0)] w fun u3 w next3=>
 rN 22 3 a0 w fun x10=>
 rC (u3 4) x10 w fun x11=>
 BR x11
 (rB .lss 3 T0 U0 (u3 4) (iV 4000) w fun x14=>
 BR x14
 (rB .mul 3 T0 U0 (u3 3) (iV 131) w fun x19=>
 rX 22 a0 (u3 4) w fun x22=>
 rL 5 x22 w fun x23=>
 rD (convert 5 3 x23) w fun x24=>
 rB .add 3 T0 T0 x19 x24 w fun x25=>
 rA x25 (iV 7) w fun x26=>
 rB .and 3 T0 U0 x26 (iV 1073741823) w fun x27=>
 rA (u3 4) (iV 1) w fun x17=>
 next3 [x27,x17] w)
 (rD (Instr.build 144 #[(0,a0),(2,(u3 3))]) w fun x30=>
 oP (Instr.box 144 x30) w fun x31 w=>
 R x31 w))
 (rD (Instr.build 144 #[(0,a0),(2,(u3 3))]) w fun x30=>
 oP (Instr.box 144 x30) w fun x31 w=>
 R x31 w)
def cfg69:Cfg:=⟨extL,[],[(3,268435224,[3,4])],[],[],[],[]⟩
theorem F69_call {a0:Value} {w:World} {R:VW} (h:F69 a0 w R):cL 69 [a0] w R:=co (g:=cfg69) Tryz.func69 (by kernel_rfl) (by kernel_rfl) (by kernel_rfl) h
def F68 (a0:Value) (w:World) (R:VW):Prop:=
 oP (Instr.alloc 28 true (.tuple #[])) w fun x2 w=>
 cL 129 [a0] w fun x9 w=>
 cL 96 [x9] w fun x10 w=>
 rE x10 0 w fun x11=>
 rE x10 1 w fun x12=>
 oP (Instr.alloc 28 true (.tuple #[])) w fun x3 w=>
 oS 28 x3 x11 w fun w=>
 rD (Op.unary .not x12) w fun x14=>
 BR x14
 (cL 94 [(Value.string (ByteArray.mk #[103,108,111,98,97,108,115,32,120,59,32,108,111,99,107,115,32,97,59,32,112,114,111,99,32,109,97,105,110,32,123,32,108,111,99,107,32,97,59,32,120,32,61,32,49,59,32,117,110,108,111,99,107,32,97,59,32,115,112,97,119,110,32,112,59,32,125,32,112,114,111,99,32,112,32,123,32,120,32,61,32,50,59,32,125]))] w fun x16 w=>
 rE x16 0 w fun x17=>
 rE x16 1 w fun x18=>
 oP (Instr.alloc 112 true (.tuple #[])) w fun x5 w=>
 oP (Instr.alloc 114 true (.tuple #[])) w fun x6 w=>
 oS 112 x5 x17 w fun w=>
 oS 114 x6 x18 w fun w=>
 rL 112 x5 w fun x20=>
 cL 96 [x20] w fun x21 w=>
 rE x21 0 w fun x22=>
 rE x21 1 w fun x23=>
 oS 28 x3 x22 w fun w=>
 rL 28 x3 w fun x24=>
 oS 28 x2 x24 w fun w=>
 rD (zaq 28 x2) w fun r2=>R r2 w)
 (rL 28 x3 w fun x24=>
 oS 28 x2 x24 w fun w=>
 rD (zaq 28 x2) w fun r2=>R r2 w)
def cfg68:Cfg:=⟨extL,[],[],[],[],[],[]⟩
theorem F68_call {a0:Value} {w:World} {R:VW} (h:F68 a0 w R):cL 68 [a0] w R:=co (g:=cfg68) Tryz.func68 (by kernel_rfl) (by kernel_rfl) (by kernel_rfl) h
def F10 (a0:Value) (w:World) (R:VW):Prop:=
 oP (Instr.alloc 28 true (.tuple #[])) w fun x2 w=>
 cL 69 [a0] w fun x4 w=>
 cL 68 [x4] w fun x5 w=>
 oS 28 x2 x5 w fun w=>
 rD (zaq 28 x2) w fun r2=>R r2 w
def cfg10:Cfg:=⟨extL,[],[],[],[],[],[]⟩
theorem F10_call {a0:Value} {w:World} {R:VW} (h:F10 a0 w R):cL 10 [a0] w R:=co (g:=cfg10) Tryz.func10 (by kernel_rfl) (by kernel_rfl) (by kernel_rfl) h
def F11 (a0:Value) (w:World) (R:VW):Prop:=
 cL 69 [a0] w fun x7 w=>
 cL 70 [x7] w fun x9 w=>
 oP (Instr.buildSlice 25 0 #[]) w fun x10 w=>
 LOOPI [4,5] [x10,(iV 0)] w fun u5 w next5=>
 rB .lss 3 T0 U0 (u5 5) (iV 70) w fun x12=>
 BR x12
 (cL 71 [x7,(iV 12)] w fun x17 w=>
 oP (Instr.buildSlice 25 1 #[(0,x17)]) w fun x18 w=>
 oP (Builtin.append_ #[25,25] 25 [(u5 4),x18].toArray) w fun x19 w=>
 rA (u5 5) (iV 1) w fun x14=>
 next5 [x19,x14] w)
 (R (u5 4) w)
def cfg11:Cfg:=⟨extL,[],[(5,1046576,[4,5])],[],[],[],[]⟩
theorem F11_call {a0:Value} {w:World} {R:VW} (h:F11 a0 w R):cL 11 [a0] w R:=co (g:=cfg11) Tryz.func11 (by kernel_rfl) (by kernel_rfl) (by kernel_rfl) h
open Rep (rep)
theorem zm5 {bs:List UInt8} {k:Nat} (hk:k<(bs.take 4000).length) (h:Int):((bs.take 4000).take (k+1)).foldl (fun h (b:UInt8)=>zll (h*131+(b.toNat:Int)+7) 1073741823) h =
   zll (((bs.take 4000).take k).foldl (fun h (b:UInt8)=>zll (h*131+(b.toNat:Int)+7) 1073741823) h*131+(((bs.take 4000)[k]).toNat:Int)+7) 1073741823:=by
 rw [List.take_succ_eq_append_getElem hk,List.foldl_append];rfl
set_option maxRecDepth 100000 in
theorem zjv {w W:World} {v:Value} {bs:List UInt8} (h:Is W v bs) (e:Ext W w) (hl:bs.length≤1048576) :
    CALL Tryz.prog 69 [v] w fun r w'=>Ext w w'∧∃ g,r=.pointer (some ⟨g,0,none⟩)∧w.heap.size≤g∧CurAt w g bs (zfr bs) w':=by
  have fin:∀ {w1:World} {hh:Int},Ext w w1→hh=zpB bs→I64 hh→RD Tryz.prog (Instr.build 144 #[(0,v),(2,.int .i64 hh)]) w1 fun x30=>OP Tryz.prog (Instr.box 144 x30) w1 fun x31 w2=>
      Ext w w2∧∃ g,x31=.pointer (some ⟨g,0,none⟩)∧w.heap.size≤g∧CurAt w g bs (zfr bs) w2:=by
    intro w1 hh hx1 hh1 hI
    obtain ⟨a,cap,Fi,xs,rfl,_⟩:=zcj h
    refine zaQ (cells:=#[.slice a bs.length cap,.int .i64 0,.int .i64 hh]) (by kernel_rfl) ?_
    refine zmB fun w2 hx2 hB2=>?_
    refine ⟨hx1.trans hx2,_,rfl,hx1.size,.slice a bs.length cap,h.ext e,hx1.trans hx2,hx1.size,?_,Nat.zero_le _,hl⟩
    rw [hh1] at hB2
    exact hB2
  refine F69_call ?_
  unfold F69
  refine zad u22 h ?_
  refine zbT (by unfold I64;omega) ?_
  refine zaO (bs.take 4000).length (fun k us w'=>∃ hh:Int,us=[.int .i64 hh,.int .i64 (k:Int)]∧Ext w w'∧k≤(bs.take 4000).length∧0≤hh∧hh≤1073741823∧hh=((bs.take 4000).take k).foldl (fun h (b:UInt8)=>zll (h*131+(b.toNat:Int)+7) 1073741823) (94701+(bs.length:Int))) 0 (Nat.zero_le _)
    ⟨_,rfl,Ext.refl w,Nat.zero_le _,by omega,by omega,by simp⟩ ?_
  rintro k m u w1 hkm ⟨hh,hu,hx1,hkl,h0,h1,hf⟩
  obtain ⟨hu0,hu1⟩:=zjE hu
  rw [hu0,hu1]
  have htl:(bs.take 4000).length=min 4000 bs.length:=List.length_take
  have hdone:(bs.take 4000).length≤k→hh=zpB bs:=fun hk=>by
    rw [hf,List.take_of_length_le hk];rfl
  have hIh:I64 hh:=by unfold I64;omega
  refine zad u22 h ?_
  refine zaj ?_
  refine br (fun hlt=>?_) (fun hge=>fin hx1 (hdone (by omega)) hIh)
  refine zaj ?_
  refine br (fun hlt2=>?_) (fun hge=>fin hx1 (hdone (by omega)) hIh)
  have hk:k<(bs.take 4000).length:=by omega
  have hkb:k<bs.length:=by omega
  refine zhB (by unfold I64;omega) ?_
  refine zae u22 ty5 (i:=k) h hkb fun b o hA=>?_
  refine zkV ty5 hA (e.trans hx1) ?_
  have h256:=UInt8.toNat_lt (bs[k])
  refine zmj (by kernel_rfl) u3 (by omega) ?_
  refine zbT (by unfold I64;omega) ?_
  refine zbT (by unfold I64;omega) ?_
  refine zjU ?_
  refine zal (by omega) ?_
  have hb:=zh8 (hh*131+((bs[k]).toNat:Int)+7) (n:=1073741823) (by omega)
  refine ⟨m-1,by omega,k+1,by omega,_,rfl,hx1,by omega,hb.1,hb.2,?_⟩
  rw [zm5 hk,←hf,List.getElem_take]
def zch (bs:List UInt8):DCode:=zb3 (zb8 bs (zfr bs)).1
theorem zhU (bs:List UInt8):CodeR (zch bs)∧(zch bs).ins.length≤436:=zhN (zfY bs _)
set_option maxRecDepth 20000 in
theorem zlN {W w:World} {g:Nat} {bs:List UInt8} {s:Cur} (hC:CurAt W g bs s w) :
    CALL Tryz.prog 68 [.pointer (some ⟨g,0,none⟩)] w fun r w'=>ChgI g (g+1) w w'∧OwnI w.heap.size w'.heap.size w' r (zb3 (zb8 bs s).1)∧CurAt W g bs (zb8 bs s).2 w':=by
  have hgl:=hC.lt
  refine F68_call ?_
  unfold F68
  refine za9 zoj fun w1 hx1 hB1=>?_
  have hs1:=hx1.size
  have hg1:=hB1.lt
  refine (zlF (hC.ext hx1)).mono ?_
  rintro v9 w2 ⟨hc2,hC2,o9⟩
  have hs2:=hc2.size
  refine (ziF o9.is (Ext.refl _) (zfY bs s)).mono ?_
  rintro _ w3 ⟨hx3,a,rfl,o10⟩
  have hs3:=hx3.size
  refine zbL rfl ?_
  refine zbL rfl ?_
  refine za9 zoj fun w4 hx4 hB4=>?_
  have hs4:=hx4.size
  have hg4:=hB4.lt
  have o10:=o10.ext hx4
  have hform:∃ us:Array Value,a=.agg us:=by
    obtain ⟨F,⟨⟨cs,hr,hv⟩,_⟩,_⟩:=o10
    exact ⟨cs.toArray,by simpa [mkv,Rep.agg] using hv⟩
  obtain ⟨us,rfl⟩:=hform
  have hB1':Blk w.heap.size 28 w4 _:=((hB1.chgI hc2 (by omega)).ext hx3).ext hx4
  have hul:us.toList.length=5:=by
    obtain ⟨F,⟨⟨cs,hr,hv⟩,_⟩,_⟩:=o10
    have:us=cs.toArray:=by simpa [mkv,Rep.agg] using hv
    rw [this];exact Rep.len hr
  refine zbb zdn rfl hB4 rfl o10 fun w5 hc5 hB5=>?_
  have hs5:=hc5.size
  have o10:=o10.chg hc5 (by omega)
  refine zbF ?_
  refine zdX (fun hc=>by simp at hc) (fun _=>?_)
  refine zel hB5 (by rw [hul];exact zdn) ?_
  have hB15:=hB1'.chgI hc5 (by omega)
  refine zbb zdn rfl hB15 rfl o10 fun w6 hc6 hB6=>?_
  have hs6:=hc6.size
  refine zcR hB6 (by rw [hul];exact zdn) ?_
  refine ⟨?_,(o10.chg hc6 (by omega)).mono (by omega) (by omega),?_⟩
  · exact ChgI.out (ChgI.out (((hx1.toI.trans hc2).trans hx3.toI).trans hx4.toI) hc5 (by omega)) hc6 (by omega)
  exact (((hC2.ext hx3).ext hx4).chg hc5 (by omega) (by omega)).chg hc6 (by omega) (by omega)
theorem zkt {w W:World} {v:Value} {bs:List UInt8} (h:Is W v bs) (e:Ext W w) (hl:bs.length≤1048576) :
   CALL Tryz.prog 10 [v] w fun r w'=>Ext w w'∧Own w.heap.size w' r (zch bs):=by
 refine F10_call ?_
 unfold F10
 refine za9 zoj fun w1 hx1 hB1=>?_
 have hs1:=hx1.size
 have hg1:=hB1.lt
 refine (zjv h (e.trans hx1) hl).mono ?_
 rintro _ w2 ⟨hx2,g,rfl,hg,hC2⟩
 have hs2:=hx2.size
 have hg2:=hC2.lt
 refine (zlN hC2).mono ?_
 rintro v5 w3 ⟨hc3,o5,-⟩
 have hs3:=hc3.size
 have hform:∃ us:Array Value,v5=.agg us:=by
   obtain ⟨F,⟨⟨cs,hr,hv⟩,_⟩,_⟩:=o5
   exact ⟨cs.toArray,by simpa [mkv,Rep.agg] using hv⟩
 obtain ⟨us,rfl⟩:=hform
 have hul:us.toList.length=5:=by
   obtain ⟨F,⟨⟨cs,hr,hv⟩,_⟩,_⟩:=o5
   have:us=cs.toArray:=by simpa [mkv,Rep.agg] using hv
   rw [this];exact Rep.len hr
 have hB3:=(hB1.ext hx2).chgI hc3 (by omega)
 refine zbb zdn rfl hB3 rfl o5 fun w4 hc4 hB4=>?_
 refine zcR hB4 (by rw [hul];exact zdn) ?_
 exact ⟨Ext.chgI (Ext.chgI (hx1.trans hx2) hc3 (by omega)) hc4 (by omega),(o5.chg hc4 (by omega)).own.mono (by omega)⟩
def zd6 (bs:List UInt8) (m:Int):Nat→Cur→List Int
 | 0,_=>[]
 | n+1,s=>za7 bs m s :: zd6 bs m n (zah bs m s)
theorem zgq (bs:List UInt8) (m:Int):∀ (n:Nat) (s:Cur),(zd6 bs m n s).length=n
 | 0,_=>rfl
 | n+1,s=>by rw [zd6,List.length_cons,zgq bs m n]
def zk7 (bs:List UInt8):List Int:=zd6 bs 12 70 (zcu bs (zfr bs))
theorem zjw {w W:World} {v:Value} {bs:List UInt8} (h:Is W v bs) (e:Ext W w) (hl:bs.length≤1048576) :
   CALL Tryz.prog 11 [v] w fun r w'=>Ext w w'∧Own w.heap.size w' r (zk7 bs):=by
 refine F11_call ?_
 unfold F11
 refine (zjv h e hl).mono ?_
 rintro _ w1 ⟨hx1,g,rfl,hg,hC1⟩
 have hs1:=hx1.size
 have hgl:=hC1.lt
 refine (zc5 hC1).mono ?_
 rintro _ w2 ⟨hc2,hC2,rfl⟩
 have hs2:=hc2.size
 refine zbj (α:=Int) u25 ty3 fun v10 w3 hx3 r10=>?_
 have hs3:=hx3.size
 refine zaO 70 (fun k us w'=>∃ v hi l s1,us=[v,.int .i64 (k:Int)]∧k≤70∧ChgI g (g+1) w2 w'∧CurAt w g bs s1 w'∧RowI w3.heap.size hi 3 w' v l∧w3.heap.size≤hi∧hi≤w'.heap.size∧l.length=k∧zk7 bs=l++zd6 bs 12 (70-k) s1) 0 (Nat.zero_le _)
   ⟨_,w3.heap.size,[],_,rfl,by omega,hx3.toI,hC2.ext hx3,r10,Nat.le_refl _,Nat.le_refl _,rfl,rfl⟩ ?_
 rintro k m u w4 hkm ⟨v4,hi,l,s1,hu,hkl,hc4,hC4,r4,hlo,hhi,hll,heq⟩
 obtain ⟨hu0,hu1⟩:=zjE hu
 rw [hu0,hu1]
 refine zaj ?_
 refine br (fun hlt=>?_) (fun hge=>?_)
 · have hk:k<70:=by omega
   refine (zbJ hC4 (by omega)).mono ?_
   rintro _ w5 ⟨hc5,hC5,rfl⟩
   have hs5:=hc5.size
   have hb:=zbK bs (n:=12) (by omega) s1
   refine zei (α:=Int) (lo2:=w5.heap.size) (hi2:=w5.heap.size) u25 ty3 z3 zc3 (by decide) (r4.chg hc5 (by omega)) (by omega) (Go.Sh.ownI_int (by unfold I64;omega)) (by omega) (by omega) (by rw [zak];omega) (by omega) fun v19 w6 hc6 r6=>?_
   have hs6:=hc6.size
   refine zal (by omega) ?_
   refine ⟨m-1,by omega,k+1,by omega,v19,w6.heap.size,_,_,rfl,by omega,ChgI.out (hc4.trans hc5) hc6 (by omega),hC5.chg hc6 (by omega) (by omega),r6,by omega,Nat.le_refl _,by simp [hll],?_⟩
   rw [heq,show 70-k=(70-(k+1))+1 by omega,zd6];simp
 have hk:k=70:=by omega
 subst hk
 rw [Nat.sub_self,zd6,List.append_nil] at heq
 rw [heq]
 exact ⟨Ext.chgI (Ext.chgI hx1 hc2 hg) hc4 hg,r4.own.own.mono (by omega)⟩
theorem zpO {G L P:List ByteArray} {pr:List ByteArray} (hG:G=glb) (hL:L=lks) (hP:∀ x∈pr,x∈P):∀ (l:List DProc) (a:Nat),(∀ x∈l,zlv pr x.body)→∀ y∈emP G L P l a,wT y.term≤24
 | [],_,_,y,h=>by rw [emP] at h;cases h
 | x :: l,a,hb,y,h=>by
   have w0:wT term0≤24:=by decide
   rw [emP] at h
   rcases List.mem_append.1 h with h | h
   · have:=((zpE hG hL hP 2).2 x.body a (hb x (by simp)).1).1 y h
     obtain ⟨_,_,_,q4,_⟩:=this
     split at q4
     · exact q4.2.2
     rw [q4];exact w0
   rcases List.mem_cons.1 h with rfl | h
   · exact w0
   exact zpO hG hL hP l _ (fun z hz=>hb z (by simp [hz])) y h
theorem zn4 {α:Type} {f:α→Nat} {b:Nat}:∀ {l:List α},(∀ x∈l,f x≤b)→sm f l≤l.length*b
 | [],_=>by simp [sm]
 | x :: l,h=>by
   have h1:=zn4 (l:=l) fun y hy=>h y (List.mem_cons_of_mem _ hy)
   have h2:=h x List.mem_cons_self
   simp only [sm,List.map_cons,List.sum_cons,List.length_cons,Nat.add_mul] at h1 ⊢
   omega
theorem zlO (bs:List UInt8):zi3 (zch bs)≤1048576:=by
 have hp:=zfY bs (zfr bs)
 have hl:=(zhU bs).2
 obtain ⟨f1,f2,f3,f4⟩:=hp.facts
 obtain ⟨k,hk,hn⟩:=hp.n
 have h1:zmp (zch bs).globals≤100:=by
   show zmp (zb8 bs (zfr bs)).1.globals≤100
   rw [hp.g];decide
 have h2:zmp (zch bs).locks≤100:=by
   show zmp (zb8 bs (zfr bs)).1.locks≤100
   rw [hp.l];decide
 have h3:zmp (zch bs).procs≤100:=by
   show zmp ((zb8 bs (zfr bs)).1.procs.map DProc.name)≤100
   rw [hn]
   match k,hk with
   | 0,_=>decide
   | 1,_=>decide
   | 2,_=>decide
 have h4:(zch bs).entry.length≤4:=by
   have:(zch bs).entry.length=(zb8 bs (zfr bs)).1.procs.length:=zgF _ _ _ _ _
   omega
 have h5:zpz (zch bs).ins≤20000:=by
   have:=zn4 (f:=fun i:DIns=>wT i.term) (b:=24) (l:=(zch bs).ins) (zpO hp.g hp.l (fun x hx=>List.mem_of_mem_drop hx) _ _ hp.b)
   unfold zpz
   omega
 unfold zi3
 omega
section
variable {P:Program} {w:World} {K:Value→World→Prop}
end
def i3 (a b c:Int):Array Value:=#[.int .i64 a,.int .i64 b,.int .i64 c]
def ltR (x y:DRace):Prop:=x.g<y.g∨(x.g=y.g∧(x.a<y.a∨(x.a=y.a∧x.b<y.b)))
end Go.Proofs.YtbnjpfjjmhodnaaGreat
namespace Go.Proofs.YtbnjpfjjmhodnaaGreat
open Go Go.Sh Go.Proofs Go.Sort
open Rep (rep)
structure DOrder where
 fr:Int
 to:Int
 at_:Int
theorem DOrder.ext_iff {x y:DOrder}:x=y↔(x.fr=y.fr∧x.to=y.to∧x.at_=y.at_):=⟨fun h=>by rw [h];exact ⟨rfl,rfl,rfl⟩,fun h=>by obtain ⟨h0,h1,h2⟩:=h;cases x;cases y;simp only at h0 h1 h2;simp only [h0,h1,h2]⟩
instance:DecidableEq DOrder:=fun x y=>decidable_of_iff (x.fr=y.fr∧x.to=y.to∧x.at_=y.at_) DOrder.ext_iff.symm
instance:Rep DOrder:=Rep.via fun x=>(x.fr,x.to,x.at_)
instance:RepZ DOrder:=⟨⟨(RepZ.zv:Int),(RepZ.zv:Int),(RepZ.zv:Int)⟩,RepZ.zc (Int×Int×Int),fun w=>RepZ.zr (α:=Int×Int×Int) w⟩
instance:Flat DOrder:=⟨fun h=>Flat.flat (α:=Int×Int×Int) h⟩
def ltO (x y:DOrder):Prop:=x.fr<y.fr∨(x.fr=y.fr∧(x.to<y.to∨(x.to=y.to∧x.at_<y.at_)))
instance (x y:DOrder):Decidable (ltO x y):=by unfold ltO;infer_instance
instance:Inhabited DOrder:=⟨⟨0,0,0⟩⟩
def zm6 (a b:DTouch):Prop:=a.global=b.global∧(a.write=true∨b.write=true)∧(0≤a.held∧a.held≤63)∧(0≤b.held∧b.held≤63)∧a.held.toNat &&& b.held.toNat=0
instance (a b:DTouch):Decidable (zm6 a b):=by unfold zm6;infer_instance
def zpl (a b:DTouch):DRace:=⟨a.global,min a.at_ b.at_,max a.at_ b.at_⟩
instance (x y:DRace):Decidable (ltR x y):=by unfold ltR;infer_instance
end Go.Proofs.YtbnjpfjjmhodnaaGreat
namespace Go.Proofs.YtbnjpfjjmhodnaaGreat
open Go Go.Sh Go.Proofs Go.Sort
open Rep (rep)
instance:Inhabited DRace:=⟨⟨0,0,0⟩⟩
def clR (a b:DTouch):List DRace:=if zm6 a b then [zpl a b] else []
def gB (a:DTouch) (bs:List DTouch):List DRace:=bs.flatMap (clR a)
def hA (bs xs:List DTouch):List DRace:=xs.flatMap fun a=>gB a bs
def hU (T:Nat→List DTouch) (xs:List DTouch) (t:Nat):List DRace:=(List.range t).flatMap fun u=>hA (T u) xs
def hT (T:Nat→List DTouch) (n:Nat):List DRace:=(List.range n).flatMap fun t=>hU T (T t) t
structure DArc where
 fr:Int
 to:Int
theorem DArc.ext_iff {x y:DArc}:x=y↔(x.fr=y.fr∧x.to=y.to):=⟨fun h=>by rw [h];exact ⟨rfl,rfl⟩,fun h=>by obtain ⟨h0,h1⟩:=h;cases x;cases y;simp only at h0 h1;simp only [h0,h1]⟩
instance:DecidableEq DArc:=fun x y=>decidable_of_iff (x.fr=y.fr∧x.to=y.to) DArc.ext_iff.symm
instance:Rep DArc:=Rep.via fun x=>(x.fr,x.to)
instance:RepZ DArc:=⟨⟨(RepZ.zv:Int),(RepZ.zv:Int)⟩,RepZ.zc (Int×Int),fun w=>RepZ.zr (α:=Int×Int) w⟩
instance:Flat DArc:=⟨fun h=>Flat.flat (α:=Int×Int) h⟩
end Go.Proofs.YtbnjpfjjmhodnaaGreat
namespace Go.Proofs.YtbnjpfjjmhodnaaGreat
open Go Go.Sh Go.Proofs Go.Sort
open Rep (rep)
def hd0 (l:List Int):Int:=l.headD 0
end Go.Proofs.YtbnjpfjjmhodnaaGreat
namespace Go.Sh
open Rep (rep)
instance:Rep Nat where
 size:=1
 agg:=false
 rep F _ cs x:=F=[]∧cs=[.int .u64 (x:Int)]∧x<18446744073709551616
 pos:=by decide
 sz _:=rfl
 len:=by rintro _ _ _ _ ⟨_,rfl,_⟩;rfl
 one:=by rintro _ _ _ _ ⟨_,rfl,_⟩ v hv;simp at hv;subst hv;rfl
 keep:=by rintro _ _ _ _ _ h _;exact h
 lt:=by rintro _ _ _ _ ⟨rfl,_⟩ b hb;cases hb
instance:Flat Nat:=⟨fun h=>h.1⟩
instance:RepZ Nat:=⟨0,[.int .u64 0],fun _=>⟨rfl,rfl,by decide⟩⟩
section
variable {P:Program} {w w0:World} {K:Value→Prop} {t:TypeId} {x y:Operand}
end
end Go.Sh
namespace Go.Proofs.YtbnjpfjjmhodnaaGreat
open Go Go.Sh Go.Proofs
open Rep (rep)
def F9 (a0:Value) (w:World) (R:VW):Prop:=
 rN 22 3 a0 w fun x4=>
 rB .gtr 3 T0 U0 x4 (iV 1048576) w fun x5=>
 R x5 w
def cfg9:Cfg:=⟨extL,[],[],[],[],[],[]⟩
theorem F9_call {a0:Value} {w:World} {R:VW} (h:F9 a0 w R):cL 9 [a0] w R:=co (g:=cfg9) Tryz.func9 (by kernel_rfl) (by kernel_rfl) (by kernel_rfl) h
theorem zpm {w:World} {v0:Value} {W0:World} {bs:(List UInt8)}  (h0:Is W0 v0 bs) (e0:Ext W0 w)  :
   CALL Tryz.prog 9 [v0] w fun r w'=>Ext w w'∧(r=.bool (decide ((1048576:Int)<bs.length))):=by
 refine F9_call ?_
 unfold F9
 have hln4:=zaf h0
 refine zad u22 h0 ?_
 refine zcm ?_
 refine ⟨Ext.refl w,?_⟩
 rfl
def F15 (a0 a1:Value) (w:World) (R:VW):Prop:=
 rN 25 3 a0 w fun x7=>
 rN 25 3 a1 w fun x9=>
 rB .neq 3 T0 T0 x7 x9 w fun x10=>
 BR x10
 (R (Value.bool false) w)
 (LOOPI [5] [(iV 0)] w fun u4 w next4=>
 rN 25 3 a0 w fun x13=>
 rC (u4 5) x13 w fun x14=>
 BR x14
 ((fun w=>rX 25 a0 (u4 5) w fun x19=>
 rL 3 x19 w fun x20=>
 rX 25 a1 (u4 5) w fun x23=>
 rL 3 x23 w fun x24=>
 rB .neq 3 T0 T0 x20 x24 w fun x25=>
 BR x25
 (R (Value.bool false) w)
 (rA (u4 5) (iV 1) w fun x16=>
 next4 [x16] w)) (World.drew1 w))
 (R (Value.bool true) w))
def cfg15:Cfg:=⟨extL,[],[(4,67106864,[5])],[(6,[0,1,2,3,4,5,6,7,8],0)],[],[],[]⟩
theorem F15_call {a0 a1:Value} {w:World} {R:VW} (h:F15 a0 a1 w R):cL 15 [a0,a1] w R:=co (g:=cfg15) Tryz.func15 (by kernel_rfl) (by kernel_rfl) (by kernel_rfl) h
theorem zdu {w:World} {v0:Value} {W0:World} {l1:(List Int)} {v1:Value} {W1:World} {l2:(List Int)}  (h0:Is W0 v0 l1) (e0:Ext W0 w) (h1:Is W1 v1 l2) (e1:Ext W1 w)  :
   CALL Tryz.prog 15 [v0,v1] w fun r w'=>Ext w w'∧(r=.bool (decide (l1=l2))):=by
 refine F15_call ?_
 unfold F15
 have hl1:=zaf h0
 have hln7:=zaf h0
 refine zad u25 h0 ?_
 have hln9:=zaf h1
 refine zad u25 h1 ?_
 refine za2 ?_
 refine br (fun c1=>?_) (fun c1=>?_)
 · refine ⟨Ext.refl w,?_⟩
   have:l1≠l2:=fun e=>c1 (by rw [e])
   simp [this]
 refine zaO (l1.length) (fun k us w'=>us=[.int .i64 (k:Int)]∧Ext w w'∧(l1.take k=l2.take k)) (0) (by omega) ⟨by simp,Ext.refl w,by simp⟩ ?_
 rintro k m4 uu4 w1_ hk4 ⟨hu,hx1_,hinv⟩
 simp only [List.map_cons,List.map_nil,List.cons.injEq,and_true] at hu
 try rw [hu]
 try clear hu
 have hln13:=zaf h0
 refine zad u25 h0 ?_
 refine zaj ?_
 refine br (fun c2=>?_) (fun c2=>?_)
 · have hx2_:=zai w1_
   refine zae u25 ty3 h0 (by omega) fun b19 o19 h19=>?_
   refine zac ty3 h19 (e0.trans (hx1_.trans hx2_)) fun hI20=>?_
   refine zae u25 ty3 h1 (by omega) fun b23 o23 h23=>?_
   refine zac ty3 h23 (e1.trans (hx1_.trans hx2_)) fun hI24=>?_
   refine za2 ?_
   refine br (fun c3=>?_) (fun c3=>?_)
   · refine ⟨(hx1_.trans hx2_),?_⟩
     have:l1≠l2:=fun e=>c3 (by subst e;rfl)
     simp [this]
   refine zal (by omega) ?_
   refine ⟨m4-1,by omega,k+1,by omega,by simp,(hx1_.trans hx2_),?_⟩
   rw [List.take_succ_eq_append_getElem (by omega),List.take_succ_eq_append_getElem (by omega),hinv,Decidable.not_not.1 c3]
 refine ⟨hx1_,?_⟩
 rw [List.take_of_length_le (by omega),List.take_of_length_le (by omega)] at hinv
 simp [hinv]
def F55 (a0 a1:Value) (w:World) (R:VW):Prop:=
 rN 31 3 a0 w fun x7=>
 rN 31 3 a1 w fun x9=>
 rB .neq 3 T0 T0 x7 x9 w fun x10=>
 BR x10
 (R (Value.bool false) w)
 (LOOPI [5] [(iV 0)] w fun u4 w next4=>
 rN 31 3 a0 w fun x13=>
 rC (u4 5) x13 w fun x14=>
 BR x14
 ((fun w=>rX 31 a0 (u4 5) w fun x19=>
 rL 25 x19 w fun x20=>
 rX 31 a1 (u4 5) w fun x23=>
 rL 25 x23 w fun x24=>
 cL 15 [x20,x24] w fun x25 w=>
 rD (Op.unary .not x25) w fun x26=>
 BR x26
 (R (Value.bool false) w)
 (rA (u4 5) (iV 1) w fun x16=>
 next4 [x16] w)) (World.drew1 w))
 (R (Value.bool true) w))
def cfg55:Cfg:=⟨extL,[],[(4,134215728,[5])],[(6,[0,1,2,3,4,5,6,7,8,9],0)],[],[],[]⟩
theorem F55_call {a0 a1:Value} {w:World} {R:VW} (h:F55 a0 a1 w R):cL 55 [a0,a1] w R:=co (g:=cfg55) Tryz.func55 (by kernel_rfl) (by kernel_rfl) (by kernel_rfl) h
theorem zjx {w:World} {v0:Value} {W0:World} {l1:(List (List Int))} {v1:Value} {W1:World} {l2:(List (List Int))}  (h0:Is W0 v0 l1) (e0:Ext W0 w) (h1:Is W1 v1 l2) (e1:Ext W1 w)  :
   CALL Tryz.prog 55 [v0,v1] w fun r w'=>Ext w w'∧(r=.bool (decide (l1=l2))):=by
 refine F55_call ?_
 unfold F55
 have hl1:=zaf h0
 have hln7:=zaf h0
 refine zad u31 h0 ?_
 have hln9:=zaf h1
 refine zad u31 h1 ?_
 refine za2 ?_
 refine br (fun c1=>?_) (fun c1=>?_)
 · refine ⟨Ext.refl w,?_⟩
   have:l1≠l2:=fun e=>c1 (by rw [e])
   simp [this]
 refine zaO (l1.length) (fun k us w'=>us=[.int .i64 (k:Int)]∧Ext w w'∧(l1.take k=l2.take k)) (0) (by omega) ⟨by simp,Ext.refl w,by simp⟩ ?_
 rintro k m4 uu4 w1_ hk4 ⟨hu,hx1_,hinv⟩
 simp only [List.map_cons,List.map_nil,List.cons.injEq,and_true] at hu
 try rw [hu]
 try clear hu
 have hln13:=zaf h0
 refine zad u31 h0 ?_
 refine zaj ?_
 refine br (fun c2=>?_) (fun c2=>?_)
 · have hx2_:=zai w1_
   refine zae u31 zaP h0 (by omega) fun b19 o19 h19=>?_
   refine zab zaP h19 (e0.trans (hx1_.trans hx2_)) fun v20 h20=>?_
   refine zae u31 zaP h1 (by omega) fun b23 o23 h23=>?_
   refine zab zaP h23 (e1.trans (hx1_.trans hx2_)) fun v24 h24=>?_
   refine (zdu h20 (e0.trans (hx1_.trans hx2_)) h24 (e1.trans (hx1_.trans hx2_))).mono ?_
   rintro _ w3_ ⟨hx3_,rfl⟩
   refine zau ?_
   refine br (fun c3=>?_) (fun c3=>?_)
   · refine ⟨(hx1_.trans (hx2_.trans hx3_)),?_⟩
     have:l1≠l2:=fun e=>c3 (by subst e;rfl)
     simp [this]
   refine zal (by omega) ?_
   refine ⟨m4-1,by omega,k+1,by omega,by simp,(hx1_.trans (hx2_.trans hx3_)),?_⟩
   rw [List.take_succ_eq_append_getElem (by omega),List.take_succ_eq_append_getElem (by omega),hinv,Decidable.not_not.1 c3]
 refine ⟨hx1_,?_⟩
 rw [List.take_of_length_le (by omega),List.take_of_length_le (by omega)] at hinv
 simp [hinv]
def F25 (a0 a1:Value) (w:World) (R:VW):Prop:=
 oP (Instr.box 33 a0) w fun x2 w=>
 oP (Instr.box 33 a1) w fun x3 w=>
 rF 33 x2 0 w fun x5=>
 rL 25 x5 w fun x6=>
 rF 33 x3 0 w fun x7=>
 rL 25 x7 w fun x8=>
 cL 15 [x6,x8] w fun x9 w=>
 BR x9
 (rF 33 x2 1 w fun x11=>
 rL 25 x11 w fun x12=>
 rF 33 x3 1 w fun x13=>
 rL 25 x13 w fun x14=>
 cL 15 [x12,x14] w fun x15 w=>
 BR x15
 (rF 33 x2 2 w fun x18=>
 rL 31 x18 w fun x19=>
 rF 33 x3 2 w fun x20=>
 rL 31 x20 w fun x21=>
 cL 55 [x19,x21] w fun x22 w=>
 R x22 w)
 (R (Value.bool false) w))
 (R (Value.bool false) w)
def cfg25:Cfg:=⟨extL,[],[],[],[],[],[]⟩
theorem F25_call {a0 a1:Value} {w:World} {R:VW} (h:F25 a0 a1 w R):cL 25 [a0,a1] w R:=co (g:=cfg25) Tryz.func25 (by kernel_rfl) (by kernel_rfl) (by kernel_rfl) h
theorem zjy {w:World} {v0:Value} {W0:World} {s1:DState} {v1:Value} {W1:World} {s2:DState}  (h0:Is W0 v0 s1) (e0:Ext W0 w) (h1:Is W1 v1 s2) (e1:Ext W1 w)  :
   CALL Tryz.prog 25 [v0,v1] w fun r w'=>Ext w w'∧(r=.bool (decide (s1=s2))):=by
 refine F25_call ?_
 unfold F25
 refine zap zbq rfl h0 e0 fun w1_ hx1_ hA2 hV2=>?_
 refine zap zbq rfl h1 (e1.trans hx1_) fun w2_ hx2_ hA3 hV3=>?_
 refine zaa zdo ?_
 refine zab zaP (zbc hA2) hx2_ fun v6 h6=>?_
 refine zaa zdo ?_
 refine zab zaP (zbc hA3) (Ext.refl w2_) fun v8 h8=>?_
 refine (zdu h6 hx2_ h8 (Ext.refl w2_)).mono ?_
 rintro _ w3_ ⟨hx3_,rfl⟩
 refine br (fun c1=>?_) (fun c1=>?_)
 · refine zaa zca ?_
   refine zab zaP (zbk hA2) (hx2_.trans hx3_) fun v12 h12=>?_
   refine zaa zca ?_
   refine zab zaP (zbk hA3) hx3_ fun v14 h14=>?_
   refine (zdu h12 (hx2_.trans hx3_) h14 hx3_).mono ?_
   rintro _ w4_ ⟨hx4_,rfl⟩
   refine br (fun c2=>?_) (fun c2=>?_)
   · refine zaa zaI ?_
     refine zab zdk (zaz hA2) (hx2_.trans (hx3_.trans hx4_)) fun v19 h19=>?_
     refine zaa zaI ?_
     refine zab zdk (zaz hA3) (hx3_.trans hx4_) fun v21 h21=>?_
     refine (zjx h19 (hx2_.trans (hx3_.trans hx4_)) h21 (hx3_.trans hx4_)).mono ?_
     rintro _ w5_ ⟨hx5_,rfl⟩
     refine ⟨(hx1_.trans (hx2_.trans (hx3_.trans (hx4_.trans hx5_)))),?_⟩
     cases s1;cases s2;simp_all
   refine ⟨(hx1_.trans (hx2_.trans (hx3_.trans hx4_))),?_⟩
   cases s1;cases s2;simp_all
 refine ⟨(hx1_.trans (hx2_.trans hx3_)),?_⟩
 cases s1;cases s2;simp_all
def F82 (a0 a1 a2:Value) (w:World) (R:VW):Prop:=
 oP (Instr.box 28 a0) w fun x3 w=>
 oP (Instr.box 33 a1) w fun x4 w=>
 oP (Instr.alloc 33 true (.tuple #[])) w fun x6 w=>
 rL 33 x4 w fun x12=>
 cL 143 [x12] w fun x13 w=>
 oP (Instr.alloc 33 true (.tuple #[])) w fun x7 w=>
 oS 33 x7 x13 w fun w=>
 rF 33 x7 2 w fun x14=>
 rL 31 x14 w fun x15=>
 rX 31 x15 a2 w fun x17=>
 rL 25 x17 w fun x18=>
 rN 25 3 x18 w fun x19=>
 rB .sub 3 T0 U0 x19 (iV 1) w fun x20=>
 rF 33 x7 2 w fun x21=>
 rL 31 x21 w fun x22=>
 rX 31 x22 a2 w fun x24=>
 rL 25 x24 w fun x25=>
 rX 25 x25 x20 w fun x27=>
 rL 3 x27 w fun x28=>
 rF 28 x3 4 w fun x29=>
 rL 26 x29 w fun x30=>
 rX 26 x30 x28 w fun x32=>
 rL 77 x32 w fun x33=>
 oP (Instr.alloc 77 true (.tuple #[])) w fun x10 w=>
 oS 77 x10 x33 w fun w=>
 rA x28 (iV 1) w fun x35=>
 JOIN [11] (fun J30=>
 rF 77 x10 0 w fun x36=>
 rL 3 x36 w fun x37=>
 rB .eql 3 T0 U0 x37 (iV 1) w fun x39=>
 BR x39
 ((fun w=>rF 33 x7 0 w fun x40=>
 rL 25 x40 w fun x41=>
 rF 77 x10 1 w fun x42=>
 rL 3 x42 w fun x43=>
 rF 77 x10 2 w fun x44=>
 rL 75 x44 w fun x45=>
 rF 28 x3 0 w fun x46=>
 rL 24 x46 w fun x47=>
 rF 33 x4 0 w fun x48=>
 rL 25 x48 w fun x49=>
 (fun w_=>cL 144 [x45,x47,x49] w_ fun x50 w=>
 Ext w_ w ∧
 rX 25 x41 x43 w fun x51=>
 oS 3 x51 x50 w fun w=>
 J30 [x35] w) w) (World.drew1 w))
 (rB .eql 3 T0 U0 x37 (iV 2) w fun x53=>
 BR x53
 (rF 77 x10 2 w fun x54=>
 rL 75 x54 w fun x55=>
 rF 28 x3 0 w fun x56=>
 rL 24 x56 w fun x57=>
 rF 33 x4 0 w fun x58=>
 rL 25 x58 w fun x59=>
 cL 144 [x55,x57,x59] w fun x60 w=>
 rB .eql 3 T0 U0 x60 (iV 0) w fun x61=>
 BR x61
 (rF 77 x10 3 w fun x62=>
 rL 3 x62 w fun x63=>
 J30 [x63] w)
 (J30 [x35] w))
 (rB .eql 3 T0 U0 x37 (iV 3) w fun x65=>
 BR x65
 (rF 77 x10 3 w fun x66=>
 rL 3 x66 w fun x67=>
 J30 [x67] w)
 (rB .eql 3 T0 U0 x37 (iV 4) w fun x69=>
 BR x69
 ((fun w=>XR fun X=>RDX tp X (Instr.fieldAt 33 x7 2) w fun x70=>
 RDX tp X (Instr.loadAt 31 x70) w fun x71=>
 RDX tp X (Instr.fieldAt 33 x7 2) w fun x73=>
 RDX tp X (Instr.loadAt 31 x73) w fun x74=>
 RDX tp X (Instr.indexAt 31 x74 a2) w fun x76=>
 RDX tp X (Instr.loadAt 25 x76) w fun x77=>
 RDX tp X (Instr.fieldAt 28 x3 3) w fun x78=>
 RDX tp X (Instr.loadAt 25 x78) w fun x79=>
 RDX tp X (Instr.fieldAt 77 x10 1) w fun x80=>
 RDX tp X (Instr.loadAt 3 x80) w fun x81=>
 RDX tp X (Instr.indexAt 25 x79 x81) w fun x82=>
 RDX tp X (Instr.loadAt 3 x82) w fun x83=>
 (fun w_=>oP (Instr.buildSlice 25 1 #[(0,x83)]) w_ fun x84 w=>
 ExtX X w_ w ∧
 ((fun w_=>oP (Builtin.append_ #[25,25] 25 [x77,x84].toArray) w_ fun x85 w=>
 ExtX X w_ w ∧
 (RDX tp X (Instr.indexAt 31 x71 a2) w fun x86=>
 oS 25 x86 x85 w fun w=>
 rL 33 x7 w fun x87=>
 oS 33 x6 x87 w fun w=>
 rD (zaq 33 x6) w fun r6=>R r6 w)) w)) w) (World.drew1 w))
 (rB .eql 3 T0 U0 x37 (iV 5) w fun x89=>
 BR x89
 (rF 33 x7 2 w fun x90=>
 rL 31 x90 w fun x91=>
 rN 31 3 x91 w fun x92=>
 rB .lss 3 T0 U0 x92 (iV 6) w fun x93=>
 BR x93
 ((fun w=>rF 33 x7 2 w fun x94=>
 rL 31 x94 w fun x95=>
 rF 28 x3 3 w fun x96=>
 rL 25 x96 w fun x97=>
 rF 77 x10 1 w fun x98=>
 rL 3 x98 w fun x99=>
 rX 25 x97 x99 w fun x100=>
 rL 3 x100 w fun x101=>
 (fun w_=>oP (Instr.buildSlice 25 1 #[(0,x101)]) w_ fun x102 w=>
 Ext w_ w ∧
 ((fun w_=>oP (Instr.buildSlice 31 1 #[(0,x102)]) w_ fun x103 w=>
 Ext w_ w ∧
 (oP (Builtin.append_ #[31,31] 31 [x95,x103].toArray) w fun x104 w=>
 rF 33 x7 2 w fun x105=>
 oS 31 x105 x104 w fun w=>
 J30 [x35] w)) w)) w) (World.drew1 w))
 (J30 [x35] w))
 (rB .eql 3 T0 U0 x37 (iV 6) w fun x107=>
 BR x107
 (rF 33 x7 1 w fun x108=>
 rL 25 x108 w fun x109=>
 rF 77 x10 1 w fun x110=>
 rL 3 x110 w fun x111=>
 rX 25 x109 x111 w fun x113=>
 oS 3 x113 a2 w fun w=>
 J30 [x35] w)
 (rB .eql 3 T0 U0 x37 (iV 7) w fun x115=>
 BR x115
 (rF 33 x7 1 w fun x116=>
 rL 25 x116 w fun x117=>
 rF 77 x10 1 w fun x118=>
 rL 3 x118 w fun x119=>
 rX 25 x117 x119 w fun x120=>
 rL 3 x120 w fun x121=>
 rB .eql 3 T0 T0 x121 a2 w fun x123=>
 BR x123
 (rF 33 x7 1 w fun x124=>
 rL 25 x124 w fun x125=>
 rF 77 x10 1 w fun x126=>
 rL 3 x126 w fun x127=>
 rX 25 x125 x127 w fun x128=>
 oS 3 x128 (iV (-1)) w fun w=>
 J30 [x35] w)
 (J30 [x35] w))
 (rB .eql 3 T0 U0 x37 (iV 9) w fun x130=>
 BR x130
 ((fun w=>rF 33 x7 2 w fun x131=>
 rL 31 x131 w fun x132=>
 rF 33 x7 2 w fun x134=>
 rL 31 x134 w fun x135=>
 rX 31 x135 a2 w fun x137=>
 rL 25 x137 w fun x138=>
 rD (Instr.sliceAt 25 x138 none (some x20) none) w fun x140=>
 rX 31 x132 a2 w fun x141=>
 oS 25 x141 x140 w fun w=>
 rB .gtr 3 T0 U0 x20 (iV 0) w fun x143=>
 BR x143
 (rF 33 x7 2 w fun x144=>
 rL 31 x144 w fun x145=>
 rX 31 x145 a2 w fun x147=>
 rL 25 x147 w fun x148=>
 rB .sub 3 T0 U0 x20 (iV 1) w fun x150=>
 rX 25 x148 x150 w fun x151=>
 rL 3 x151 w fun x152=>
 rA x152 (iV 1) w fun x153=>
 rX 25 x148 x150 w fun x154=>
 oS 3 x154 x153 w fun w=>
 rL 33 x7 w fun x155=>
 oS 33 x6 x155 w fun w=>
 rD (zaq 33 x6) w fun r6=>R r6 w)
 (rL 33 x7 w fun x155=>
 oS 33 x6 x155 w fun w=>
 rD (zaq 33 x6) w fun r6=>R r6 w)) (World.drew1 w))
 (J30 [x35] w))))))))) (fun u30 w=>
 rF 33 x7 2 w fun x156=>
 rL 31 x156 w fun x157=>
 rX 31 x157 a2 w fun x159=>
 rL 25 x159 w fun x160=>
 rX 25 x160 x20 w fun x163=>
 oS 3 x163 (u30 11) w fun w=>
 rL 33 x7 w fun x164=>
 oS 33 x6 x164 w fun w=>
 rD (zaq 33 x6) w fun r6=>R r6 w)
def cfg82:Cfg:={ ext:=extL,joins:=[(30,91343852333181432387730302044767688659776309248,[11])],loops:=[],draws:=[(8,[0,1,2,3,4,5,6,7,8,9,10,11,12],1024),(15,[0,1,2,3,4,5,6,7,8,9,10,11,12,13,14,15,16,17],49152),(19,[0,1,2,3,4,5,6,7,8,9,10,11,12],768),(26,[0,1,2,3,4,5,6,7,8,9,10,11],0)],pars:=[],xs:=[15] }
theorem F82_call {a0 a1 a2:Value} {w:World} {R:VW} (h:F82 a0 a1 a2 w R):cL 82 [a0,a1,a2] w R:=co (g:=cfg82) Tryz.func82 (by kernel_rfl) (by kernel_rfl) (by kernel_rfl) h
theorem zoD {P:Program} {w:World} {t e:TypeId} {by_:Nat} {u:Value} {l:List Int} {G:List Nat} {k:Nat} {K:Value→Prop} (ht:P.underlying t=some (.slice e)) (he:tyI P e=some (1,by_,false)) (hm:Mine G w u l) (hk:k≤l.length) (hne:l≠[])
   (kk:∀ b a cap v G',u=.slice (some ⟨b,a,none⟩) l.length cap→Mine G' w v (l.take k)→(∀ c∈G',c∈G)→(0<k→v=.slice (some ⟨b,a,none⟩) k cap)→K v):RD P (Instr.sliceAt t u none (some (.int .i64 (k:Int))) none) w K:=by
 obtain ⟨⟨cs,⟨a,cap,Fi,xs,rfl,h1,h2,hc,h4⟩,rfl⟩,hn,hw⟩:=hm
 rcases h4 with ⟨h4,_⟩ | ⟨b,o,rfl,rfl,hr,hb⟩
 · exact absurd h4 hne
 have hFi:=Cells.flat (xs:=xs) hc
 subst hFi
 have hbd:∀ w',(Instr.sliceBounds true l.length cap none (some (.int .i64 (k:Int))) none).run P w'=.ok (0,k,cap) w':=fun w'=>by
   have h5:(k:Int)≤(cap:Int):=by omega
   simp [Instr.sliceBounds,Instr.sliceBound,asIntOf,h5]
   intro h6
   omega
 have e0:l=l.take k++l.drop k:=by simp
 have hc':=hc
 rw [e0] at hc'
 obtain ⟨F1,F2,x1,x2,hFF,rfl,c1,c2⟩:=Cells.split hc'
 obtain ⟨rfl,rfl⟩:=List.append_eq_nil_iff.1 hFF.symm
 have hlk:(l.take k).length=k:=by simp;omega
 have hval:∃ v:Value,(∀ w',(Instr.sliceAt t (.slice (some ⟨b,o,none⟩) l.length cap) none (some (.int .i64 (k:Int))) none).run P w'=.ok v w')∧v=.slice (some ⟨b,o,none⟩) k cap:=by
   refine ⟨_,fun w'=>?_,rfl⟩
   simp only [Instr.sliceAt,Instr.slice,Sem.run_bind,run_underlying ht,Result.andThen_ok,hbd,zaF he]
   simp [Addr.add_mid]
 obtain ⟨v,hrun,rfl⟩:=hval
 refine za4 (fun w' _=>hrun w') ?_
 by_cases h0:k=0
 · subst h0
   refine kk b o cap _ [] rfl ?_ (by simp) (fun h=>by omega)
   have:l.take 0=[]:=by simp
   rw [this]
   exact ⟨⟨_,⟨some ⟨b,o,none⟩,cap,[],[],rfl,Nat.zero_le _,h2,⟨rfl,rfl⟩,.inl ⟨rfl,rfl⟩⟩,rfl⟩,List.nodup_nil,Wr.nil w⟩
 refine kk b o cap _ [b] rfl ?_ (by simp) (fun _=>rfl)
 refine ⟨⟨_,⟨some ⟨b,o,none⟩,cap,[],x1,rfl,by rw [hlk];omega,h2,c1,.inr ⟨b,o,rfl,rfl,(zas hr).1,hb⟩⟩,by rw [hlk];rfl⟩,by simp,hw.sub (by simp)⟩
theorem zlP {w W0 W1:World} {v0 v1:Value} {c:DCode} {s:DState} {t:Int} (h0:Is W0 v0 c) (e0:Ext W0 w) (h1:Is W1 v1 s) (e1:Ext W1 w) (hc:CodeR c) (hs:zaH c s) (hgo:GoR c s t) :
   CALL Tryz.prog 82 [v0,v1,.int .i64 t] w fun r w'=>Ext w w'∧Own w.heap.size w' r (zbV c s t):=by
 obtain ⟨tn,rfl,htn,hne,hl8,hat⟩:=ziA hs hgo.1
 have hatlt:=zkl hs tn
 have hat0:0≤zdx s tn:=hgo.1
 have hpos:=List.length_pos_iff.2 hne
 refine F82_call ?_
 unfold F82
 refine zcT h0 e0 fun w1 hx1 hA1=>?_
 refine zcT h1 (e1.trans hx1) fun w2 hx2 hA2=>?_
 refine za9 zlV fun w3 hx3 hB3=>?_
 have hg3:=hB3.lt
 have hs1:=hx1.size
 have hs2:=hx2.size
 refine zab zbq hA2 hx3 fun v12 h12=>?_
 refine (zlA h12 hx3 (zko hc hs)).mono ?_
 rintro r13 w4 ⟨hx4,z,o13,hz⟩
 have hs4:=hx4.size
 refine zcz (α:=DStV) zlV fun w5 hx5 hv5=>?_
 have hs5:=hx5.size
 have hg5:=hv5.lt
 refine zaA zbq hv5 (o13.ext hx5) (by omega) fun w6 hc6 hv6=>?_
 have hs6:=hc6.size
 have hx36:Ext w3 w6:=Ext.chgI (hx4.trans hx5) hc6 (by omega)
 have hzl:z.stacks.l.map RV.l=s.stacks:=congrArg DState.stacks hz
 have hzn:tn<z.stacks.l.length:=by have:=congrArg List.length hzl;simp at this;omega
 refine zaa zaI ?_
 refine zab (α:=RIntss) zdk (zdj hv6.at) (Ext.refl w6) fun v15 k15=>?_
 obtain ⟨rfl,h15⟩:=zhs k15
 refine zae (α:=RInts) u31 zaP h15 hzn fun b17 o17 hA17=>?_
 refine zab (α:=RInts) zaP hA17 (Ext.refl w6) fun v18 k18=>?_
 obtain ⟨rfl,h18⟩:=zhs k18
 obtain ⟨x,hx⟩:∃ x,x=z.stacks.l[tn]:=⟨_,rfl⟩
 have hxl:x.l=stk s tn:=by
   have e1:(z.stacks.l.map RV.l)[tn]?=s.stacks[tn]?:=by rw [hzl]
   rw [List.getElem?_map,List.getElem?_eq_getElem hzn,List.getElem?_eq_getElem htn] at e1
   have e2:=Option.some.inj e1
   rw [hx,e2]
   exact zdA (t:=(tn:Int)) (by simpa using htn)
 rw [←hx] at h18 ⊢
 refine zad u25 h18 ?_
 refine za5 (by unfold I64;rw [hxl];omega) ?_
 obtain ⟨top,htop⟩:∃ top:Nat,(x.l.length:Int)-1=top:=⟨x.l.length-1,by rw [hxl];omega⟩
 have htl:top<x.l.length:=by omega
 rw [htop]
 have hx7:=Ext.refl w6
 have hs7:=hx7.size
 have hx16:Ext w1 w6:=hx2.trans (hx3.trans hx36)
 have hx26:Ext w2 w6:=hx3.trans hx36
 refine zaa zaI ?_
 refine zgD zdk (zdj hv6.at) (Ext.refl w6) ?_
 refine zae (α:=RInts) u31 zaP h15 hzn fun b24 o24 hA24=>?_
 rw [←hx] at hA24
 refine zgD zaP hA24 (Ext.refl w6) ?_
 refine zae u25 ty3 h18 htl fun b26 o26 hA26=>?_
 have hget:x.l[top]=zdx s tn:=by
   rw [zgn,hat,hxl]
   congr 1
   rw [hxl] at htop;omega
 rw [hget] at hA26
 refine zac ty3 hA26 hx7 fun hI27=>?_
 refine zaa zbB ?_
 refine zab zez (zaw hA1) hx16 fun v23 h23=>?_
 refine zar u26 zfI h23 hgo.1 (by omega) fun b28 o28 hA28=>?_
 rw [zbd] at hA28
 refine zab zfI hA28 hx16 fun v29 h29=>?_
 refine zee zo4 rfl zfI rfl h29 hx16 fun w8 hx8 hA10 hV10=>?_
 have hs8:=hx8.size
 have hins:=hc.f.ins
 refine zbT (by unfold I64;omega) ?_
 have hR:=zfA hc hs hgo.1
 obtain ⟨I,hI⟩:∃ I,I=atI c s tn:=⟨_,rfl⟩
 have hA10:At w8 w6.heap.size 0 I:=by rw [hI];exact hA10
 have hx68:=hx7.trans hx8
 have hv8:VarI w3.heap.size w8.heap.size w8 w4.heap.size z:=(hv6.ext hx68).mono (Nat.le_refl _) (by omega)
 have hx38:Ext w3 w8:=hx36.trans hx68
 have hres:∀ (zz:DState) (w9:World),Ext w3 w9→VarI w3.heap.size w9.heap.size w9 w4.heap.size zz→zz=zbV c s tn →
     RD Tryz.prog (Instr.loadAt 33 (.pointer (some ⟨w4.heap.size,0,none⟩))) w9 fun x148=>OPU Tryz.prog (Instr.storeAt 33 (.pointer (some ⟨w2.heap.size,0,none⟩)) x148) w9 fun w'=>
       RD Tryz.prog (zaq 33 (.pointer (some ⟨w2.heap.size,0,none⟩))) w' fun r6=>Ext w w'∧Own w.heap.size w' r6 (zbV c s tn):=by
   intro zz w9 hx9 hv9 he
   have hs9:=hx9.size
   refine zbo zbq hv9 (Ext.refl w9) fun v148 o148=>?_
   obtain ⟨a,b,c',rfl⟩:=zpj o148
   refine zbb (α:=DState) zbq rfl (hB3.ext hx9) rfl o148 fun w10 hc10 hB10=>?_
   refine zcR hB10 zbq ?_
   refine ⟨Ext.chgI (hx1.trans (hx2.trans (hx3.trans hx9))) hc10 (by omega),?_⟩
   have:=o148.chg hc10 (by omega)
   rw [he] at this
   exact this.own.mono (by omega)
 refine JOIN.mk (fun us w'=>us=[.int .i64 (zcd c s tn)]∧Ext w3 w'∧∃ z':DStV,VarI w3.heap.size w'.heap.size w' w4.heap.size z'∧z'.vars=(zaJ c s tn).vars∧z'.owner=(zaJ c s tn).owner∧z'.stacks.l.map RV.l=(zaJ c s tn).stacks∧z'.stacks.l[tn]?=some x∧(I.op≠4∧I.op≠9)) ?_ ?_
 · refine zaa zcb ?_
   refine zac ty3 (zaN hA10) (Ext.refl w8) fun _=>?_
   have hzv:z.vars=s.vars:=congrArg DState.vars hz
   have hzo:z.owner=s.owner:=congrArg DState.owner hz
   have hzx:z.stacks.l[tn]?=some x:=by rw [List.getElem?_eq_getElem hzn,hx]
   have same:∀ w9,Ext w8 w9→(I.op≠1∧I.op≠4∧I.op≠5∧I.op≠6∧I.op≠7∧I.op≠9)→∃ z':DStV,VarI w3.heap.size w9.heap.size w9 w4.heap.size z'∧z'.vars=(zaJ c s tn).vars∧z'.owner=(zaJ c s tn).owner∧z'.stacks.l.map RV.l=(zaJ c s tn).stacks∧z'.stacks.l[tn]?=some x∧(I.op≠4∧I.op≠9):=by
     rintro w9 hx9 ⟨q1,q4,q5,q6,q7,q9⟩
     have he:zaJ c s tn=s:=by unfold zaJ;rw [←hI,if_neg q1,if_neg q5,if_neg q6,if_neg q7]
     rw [he]
     exact ⟨z,(hv8.ext hx9).mono (Nat.le_refl _) hx9.size,hzv,hzo,hzl,hzx,q4,q9⟩
   have hnext:I.op≠2→I.op≠3→zcd c s tn=zdx s tn+1:=fun q2 q3=>by unfold zcd;rw [←hI,if_neg q2,if_neg q3]
   refine zag ?_
   refine br (fun q1=>?_) (fun q1=>?_)
   · have hx9:=zai w8
     have hs9:=hx9.size
     have hg8:=hv8.lt
     obtain ⟨har0,har1⟩:=zmZ hc hs hat0 (hI▸q1)
     rw [←hI] at har0 har1
     obtain ⟨ar,har⟩:∃ ar:Nat,I.arg=ar:=⟨I.arg.toNat,by omega⟩
     have har2:ar<z.vars.length:=by rw [hzv];omega
     obtain ⟨u,b,a,cap,hr,hIs,hu,hst⟩:=zk5 (hv8.ext hx9) (by omega) har2
     refine zaa zdo ?_
     refine zby zaP hr ?_
     refine zaa zcy ?_
     refine zac ty3 (zaZ hA10) hx9 fun _=>?_
     refine zaa zdp ?_
     refine zab zbX (zbp hA10) hx9 fun v54 h54=>?_
     refine zaa zcL ?_
     refine zab zcA (zaR hA1) (hx16.trans (hx68.trans hx9)) fun v56 h56=>?_
     refine zaa zdo ?_
     refine zab zaP (zbc hA2) (hx26.trans (hx68.trans hx9)) fun v58 h58=>?_
     have hok:zaE 6 I.term=true:=by
       have:=hR.2.2.1
       rw [←hI,if_pos (.inl q1)] at this
       exact this.1
     refine (zfD h54 hx9 h56 (hx16.trans (hx68.trans hx9)) h58 (hx26.trans (hx68.trans hx9)) hok).mono ?_
     rintro _ w10 ⟨hx10,rfl⟩
     refine ⟨hx10,?_⟩
     have hs10:=hx10.size
     rw [har]
     refine zbR u25 ty3 hu har2 ?_
     have hwr:=zcl c.globals s.vars 6 I.term
     refine hst w10 hx10 _ (by unfold I64;omega) _ fun w11 hc11 hv11=>?_
     have hs11:=hc11.size
     have hrest:zaJ c s tn=⟨s.vars.set I.arg.toNat (workT c.globals s.vars 6 I.term),s.owner,s.stacks⟩:=by unfold zaJ;rw [←hI,if_pos q1]
     refine ⟨by rw [hnext (by omega) (by omega)],Ext.chgI ((hx38.trans hx9).trans hx10) hc11 (by omega),_,hv11.mono (Nat.le_refl _) (by omega),?_,?_,?_,hzx,by omega,by omega⟩
     · rw [hrest,hzv,har];rfl
     · rw [hrest];exact hzo
     rw [hrest];exact hzl
   refine zag ?_
   refine br (fun q2=>?_) (fun q2=>?_)
   · refine zaa zdp ?_
     refine zab zbX (zbp hA10) (Ext.refl w8) fun v54 h54=>?_
     refine zaa zcL ?_
     refine zab zcA (zaR hA1) (hx16.trans hx68) fun v56 h56=>?_
     refine zaa zdo ?_
     refine zab zaP (zbc hA2) (hx26.trans hx68) fun v58 h58=>?_
     have hok:zaE 6 I.term=true:=by
       have:=hR.2.2.1
       rw [←hI,if_pos (.inr q2)] at this
       exact this.1
     refine (zfD h54 (Ext.refl w8) h56 (hx16.trans hx68) h58 (hx26.trans hx68) hok).mono ?_
     rintro _ w9 ⟨hx9,rfl⟩
     refine zag ?_
     refine br (fun q=>?_) (fun q=>?_)
     · refine zaa zd7 ?_
       refine zac ty3 (zbW hA10) hx9 fun _=>?_
       exact ⟨by unfold zcd;rw [←hI,if_pos q2,if_pos q],hx38.trans hx9,same w9 hx9 (by omega)⟩
     exact ⟨by unfold zcd;rw [←hI,if_pos q2,if_neg q],hx38.trans hx9,same w9 hx9 (by omega)⟩
   refine zag ?_
   refine br (fun q3=>?_) (fun q3=>?_)
   · refine zaa zd7 ?_
     refine zac ty3 (zbW hA10) (Ext.refl w8) fun _=>?_
     exact ⟨by unfold zcd;rw [←hI,if_neg q2,if_pos q3],hx38,same w8 (Ext.refl w8) (by omega)⟩
   have hn:=hnext q2 q3
   refine zag ?_
   refine br (fun q4=>?_) (fun q4=>?_)
   · have hx9:=zai w8
     have hs9:=hx9.size
     have hg8:=hv8.lt
     obtain ⟨har0,har1⟩:=zeJ hc hs hat0 (.inl (hI▸q4))
     rw [←hI] at har0 har1
     obtain ⟨ar,har⟩:∃ ar:Nat,I.arg=ar:=⟨I.arg.toNat,by omega⟩
     obtain ⟨F,hO,hF⟩:=hv6.ext (hx68.trans hx9)
     have hlt:=hO.lts
     obtain ⟨G1,hL1⟩:=zb4 (Lens.var hO)
     obtain ⟨b2,a2,cap2,G2,hv2,hG21,hL2⟩:=hL1.elemV hzn
     rw [←hx] at hL2
     obtain ⟨cs1,⟨rfl,_⟩,hr1,_,_,hg1,_⟩:=hL1.here
     obtain ⟨cs,⟨rfl,hrow⟩,hr2,hnG,_,hb2,_⟩:=hL2.here
     have hG2F:∀ c∈G2,c∈F:=fun c hcm=>by
       rcases List.mem_cons.1 (hL2.sub c (by simp [hcm])) with rfl | h
       · exact absurd (hG21 _ (by simp [hcm])) hg1
       exact h
     have hGb:∀ c∈G2,w3.heap.size≤c∧c<w4.heap.size:=fun c hcm=>hF c (hG2F c hcm)
     have hX3:∀ c,c∈G2→w3.heap.size≤c:=fun c hcm=>(hGb c hcm).1
     have hx39:=hx38.trans hx9
     refine XR.mk (fun c=>c∈G2) ?_
     refine zdi zaI ?_
     refine zdt zdk hr1 (fun h=>by have:=hGb _ h;omega) ?_
     refine zdi zaI ?_
     refine zdt zdk hr1 (fun h=>by have:=hGb _ h;omega) ?_
     refine zcw (w0:=w3) hX3 hx39 ?_
     refine zbR u31 zaP hv2 hzn ?_
     refine zdt zaP hr2 hb2 ?_
     refine zdi za3 ?_
     refine zcw (w0:=w3) hX3 hx39 ?_
     refine zab zaP (zao hA1) (hx2.trans hx3) fun v74 h74=>?_
     refine zdi zcy ?_
     refine zdt ty3 (zbu (zmE (zaZ hA10)) hx9) (fun h=>by have:=hGb _ h;omega) ?_
     rw [har]
     refine zcw (w0:=w3) hX3 hx39 ?_
     refine zae u25 ty3 h74 (by omega) fun b77 o77 hA77=>?_
     rw [zbs] at hA77
     refine zcw (w0:=w3) hX3 hx39 ?_
     refine zac ty3 hA77 (hx2.trans hx3) fun hI78=>?_
     refine zds (β:=Int) (G:=G2) u25 ty3 z3 zc3 (by decide) hrow hnG (zbU hI78) (by simp) (by rw [zak,hxl];omega) (by rw [hxl];omega) (fun w10 v80 w11 G' hx10 hc11 hR11 hN11 hs11=>?_) fun sv w10 hx10 hop=>⟨hx10.toX,hop⟩
     refine ⟨hc11.toX (fun c h=>h),?_⟩
     have hs10:=hx10.size
     have hs11':=hc11.size
     have hc911:Chg G2 (World.drew1 w8) w11:=(hx10.chg G2).trans hc11
     have hx311:Ext w3 w11:=Ext.chgI hx39 (hc911.toI (lo:=w3.heap.size) (hi:=w4.heap.size) hGb) (Nat.le_refl _)
     refine zcw (w0:=w3) hX3 hx311 ?_
     refine zbR u31 zaP hv2 hzn ?_
     refine zeF zaP hL2 hlt hc911 hR11 hN11 (fun c hcm=>?_) fun w12 hc12 ⟨F',hO',hF'⟩=>?_
     · rcases hs11 c hcm with h | h | h
       · exact .inl h
       · simp at h
       exact .inr h
     have hs12:=hc12.size
     have hcI:ChgI w3.heap.size w8.heap.size (World.drew1 w8) w12:=hc12.toI fun c hcm=>by
       have:=hL2.sub c hcm
       rcases List.mem_cons.1 this with rfl | h
       · exact ⟨by omega,hg8⟩
       have:=hF c h;omega
     refine hres _ w12 (Ext.chgI hx39 hcI (Nat.le_refl _)) (ziB ⟨F',hO',fun c hcm=>?_⟩) ?_
     · have h1:=hO'.lts c (by simp [hcm])
       rcases hF' c hcm with h | h
       · rcases List.mem_cons.1 h with rfl | h
         · obtain ⟨_,_,_,_,_,hnn,_⟩:=hO';exact absurd hcm hnn
         have:=hF c h;omega
       omega
     unfold zbV DStV.er
     have e1:((tn:Int)).toNat=tn:=by omega
     rw [←hI,if_pos q4]
     simp only [DState.mk.injEq,hzv,hzo,true_and]
     rw [List.map_set,hzl,hxl,e1,har,Int.toNat_natCast]
   refine zag ?_
   refine br (fun q5=>?_) (fun q5=>?_)
   · have hg8:=hv8.lt
     obtain ⟨har0,har1⟩:=zeJ hc hs hat0 (.inr (hI▸q5))
     rw [←hI] at har0 har1
     obtain ⟨ar,har⟩:∃ ar:Nat,I.arg=ar:=⟨I.arg.toNat,by omega⟩
     have hzlen:z.stacks.l.length=s.stacks.length:=by have:=congrArg List.length hzl;simpa using this
     refine zaa zaI ?_
     refine zab (α:=RIntss) zdk (zdj hv8.at) (Ext.refl w8) fun v86 k86=>?_
     obtain ⟨rfl,h86⟩:=zhs k86
     refine zad u31 h86 ?_
     rw [hzlen]
     refine zaj ?_
     refine br (fun qq=>?_) (fun qq=>?_)
     · have hx9:=zai w8
       have hs9:=hx9.size
       obtain ⟨F,hO,hF⟩:=hv8.ext hx9
       have hlt:=hO.lts
       obtain ⟨G1,hL1⟩:=zb4 (Lens.var hO)
       refine zaa zaI ?_
       refine zgD zdk (zdj hv8.at) hx9 ?_
       refine zaa za3 ?_
       refine zab zaP (zao hA1) (hx16.trans (hx68.trans hx9)) fun v92 h92=>?_
       refine zaa zcy ?_
       refine zac ty3 (zaZ hA10) hx9 fun _=>?_
       rw [har]
       refine zae u25 ty3 h92 (by omega) fun b95 o95 hA95=>?_
       rw [zbs] at hA95
       refine zac ty3 hA95 (hx16.trans (hx68.trans hx9)) fun hI96=>?_
       refine zeG (β:=Int) u25 ty3 z3 (by decide) (zbU hI96) fun v97 w10 hx10 r97=>?_
       refine ⟨hx10,?_⟩
       have hs10:=hx10.size
       obtain ⟨GX,hMX,hGX⟩:=zf3 r97
       obtain ⟨cs,⟨rfl,hrow⟩,_,hnG,_⟩:=hL1.here
       have hGlt:∀ c∈G1,c<(World.drew1 w8).heap.size:=fun c hcm=>hlt c (hL1.sub c (by simp [hcm]))
       refine zds (β:=RInts) (G:=G1) (w:=w10) u31 zaP z25 zo2 (by decide) (hrow.keep fun c hcm=>hx10.heap (hGlt c hcm)) hnG hMX (fun c hcm hg=>by have:=hGX c hcm;have:=hGlt c hg;omega) (by rw [zak,hzlen];omega) (by rw [hzlen];omega) (fun w11 v99 w12 G' hx11 hc12' hR12 hN12 hs12=>?_) fun sv w11 hx11 hop=>⟨hx11,hop⟩
       have hc12:Chg G1 w10 w12:=(hx11.chg G1).trans hc12'
       refine zaa zaI ?_
       refine zeF zdk hL1 hlt ((hx10.chg G1).trans hc12) hR12 hN12 (fun c hcm=>?_) fun w13 hc13 ⟨F',hO',hF'⟩=>?_
       · rcases hs12 c hcm with h | h | h
         · exact .inl h
         · exact .inr (hGX c h).1
         exact .inr (by omega)
       have hs13:=hc13.size
       have hcI:ChgI w3.heap.size w8.heap.size (World.drew1 w8) w13:=hc13.toI fun c hcm=>by
         have:=hL1.sub c hcm
         rcases List.mem_cons.1 this with rfl | h
         · exact ⟨by omega,hg8⟩
         exact hF c h
       have hrest:zaJ c s tn=⟨s.vars,s.owner,s.stacks++[[en c I.arg.toNat]]⟩:=by unfold zaJ;rw [←hI,if_neg q1,if_pos q5,if_pos (by omega)]
       refine ⟨by rw [hn],Ext.chgI (hx38.trans hx9) hcI (Nat.le_refl _),_,⟨F',hO',fun c hcm=>?_⟩,?_,?_,?_,?_,by omega,by omega⟩
       · have h1:=hO'.lts c (by simp [hcm])
         rcases hF' c hcm with h | h
         · rcases List.mem_cons.1 h with rfl | h
           · obtain ⟨_,_,_,_,_,hnn,_⟩:=hO';exact absurd hcm hnn
           have:=hF c h;omega
         omega
       · rw [hrest];exact hzv
       · rw [hrest];exact hzo
       · rw [hrest]
         simp only [List.map_append,List.map_cons,List.map_nil,hzl,har,Int.toNat_natCast]
       show (z.stacks.l++_)[tn]?=some x
       rw [List.getElem?_append_left hzn];exact hzx
     have hrest:zaJ c s tn=s:=by unfold zaJ;rw [←hI,if_neg q1,if_pos q5,if_neg (by omega)]
     refine ⟨by rw [hn],hx38,z,hv8,?_,?_,?_,hzx,by omega,by omega⟩
     · rw [hrest];exact hzv
     · rw [hrest];exact hzo
     rw [hrest];exact hzl
   refine zag ?_
   refine br (fun q6=>?_) (fun q6=>?_)
   · have hg8:=hv8.lt
     obtain ⟨har0,har1⟩:=zeI hc hs hat0 (.inl (hI▸q6))
     rw [←hI] at har0 har1
     obtain ⟨ar,har⟩:∃ ar:Nat,I.arg=ar:=⟨I.arg.toNat,by omega⟩
     have har2:ar<z.owner.length:=by rw [hzo];omega
     obtain ⟨u,b,a,cap,hr,hIs,hu,hst⟩:=zfE hv8 (by omega) har2
     refine zaa zca ?_
     refine zby zaP hr ?_
     refine zaa zcy ?_
     refine zac ty3 (zaZ hA10) (Ext.refl w8) fun _=>?_
     rw [har]
     refine zbR u25 ty3 hu har2 ?_
     have hmany:=hs.2.2.1
     refine hst w8 (Ext.refl w8) _ (by unfold I64;omega) _ fun w11 hc11 hv11=>?_
     have hs11:=hc11.size
     have hrest:zaJ c s tn=⟨s.vars,s.owner.set I.arg.toNat tn,s.stacks⟩:=by unfold zaJ;rw [←hI,if_neg q1,if_neg q5,if_pos q6]
     refine ⟨by rw [hn],Ext.chgI hx38 hc11 (by omega),_,hv11.mono (Nat.le_refl _) (by omega),?_,?_,?_,hzx,by omega,by omega⟩
     · rw [hrest];exact hzv
     · rw [hrest,hzo,har];rfl
     rw [hrest];exact hzl
   refine zag ?_
   refine br (fun q7=>?_) (fun q7=>?_)
   · have hg8:=hv8.lt
     obtain ⟨har0,har1⟩:=zeI hc hs hat0 (.inr (hI▸q7))
     rw [←hI] at har0 har1
     obtain ⟨ar,har⟩:∃ ar:Nat,I.arg=ar:=⟨I.arg.toNat,by omega⟩
     have har2:ar<z.owner.length:=by rw [hzo];omega
     obtain ⟨u,b,a,cap,hr,hIs,hu,hst⟩:=zfE hv8 (by omega) har2
     refine zaa zca ?_
     refine zby zaP hr ?_
     refine zaa zcy ?_
     refine zac ty3 (zaZ hA10) (Ext.refl w8) fun _=>?_
     rw [har]
     refine zae u25 ty3 hIs har2 fun b115 o115 hA115=>?_
     refine zac ty3 hA115 (Ext.refl w8) fun _=>?_
     have how:z.owner[ar]=ow s I.arg:=by
       have:ar<s.owner.length:=by rw [←hzo];exact har2
       rw [har,←zn3 this]
       congr 1
     rw [how]
     refine zag ?_
     refine br (fun qq=>?_) (fun qq=>?_)
     · refine zaa zca ?_
       refine zby zaP hr ?_
       refine zaa zcy ?_
       refine zac ty3 (zaZ hA10) (Ext.refl w8) fun _=>?_
       rw [har]
       refine zbR u25 ty3 hu har2 ?_
       refine hst w8 (Ext.refl w8) _ (by unfold I64;omega) _ fun w11 hc11 hv11=>?_
       have hs11:=hc11.size
       have hrest:zaJ c s tn=⟨s.vars,s.owner.set I.arg.toNat (-1),s.stacks⟩:=by unfold zaJ;rw [←hI,if_neg q1,if_neg q5,if_neg q6,if_pos q7,if_pos qq]
       refine ⟨by rw [hn],Ext.chgI hx38 hc11 (by omega),_,hv11.mono (Nat.le_refl _) (by omega),?_,?_,?_,hzx,by omega,by omega⟩
       · rw [hrest];exact hzv
       · rw [hrest,hzo,har];rfl
       rw [hrest];exact hzl
     have hrest:zaJ c s tn=s:=by unfold zaJ;rw [←hI,if_neg q1,if_neg q5,if_neg q6,if_pos q7,if_neg qq]
     refine ⟨by rw [hn],hx38,z,hv8,?_,?_,?_,hzx,by omega,by omega⟩
     · rw [hrest];exact hzv
     · rw [hrest];exact hzo
     rw [hrest];exact hzl
   refine zag ?_
   refine br (fun q9=>?_) (fun q9=>?_)
   · have hx9:=zai w8
     have hs9:=hx9.size
     have hg8:=hv8.lt
     have hx39:=hx38.trans hx9
     obtain ⟨F,hO,hF⟩:=hv6.ext (hx68.trans hx9)
     have hlt:=hO.lts
     obtain ⟨G1v,hL1v⟩:=zb4 (Lens.var hO)
     obtain ⟨b2v,a2v,cap2v,G2v,hv2v,hG21v,hL2v⟩:=hL1v.elemV hzn
     rw [←hx] at hL2v
     obtain ⟨cs1,⟨rfl,_⟩,hr1v,_,_,hg1v,_⟩:=hL1v.here
     obtain ⟨cs2,⟨rfl,hrow2⟩,hr2v,_,_,_,hwb2⟩:=hL2v.here
     have hOs:OAt F (World.drew1 w8) w4.heap.size 0 s:=by have:=zmY hO;rwa [hz] at this
     obtain ⟨G1,hL1⟩:=zcZ (Lens.var hOs)
     obtain ⟨_,_,_,_,_,hgG1,_⟩:=hL1.here
     obtain ⟨u1,b2,a2,cap2,G2,hr1,hIs1,hu1,hL2⟩:=hL1.elem htn
     have hu:u1=z.stacks.v:=zb6 hr1 hr1v
     refine zaa zaI ?_
     refine zby zdk hr1 ?_
     refine zaa zaI ?_
     refine zby zdk hr1 ?_
     refine zbR u31 zaP hu1 htn ?_
     have hbb:b2=b2v∧a2=a2v:=by
       rw [hu,hv2v] at hu1
       simp only [Value.slice.injEq,Option.some.injEq,Addr.mk.injEq] at hu1
       exact ⟨hu1.1.1.symm,hu1.1.2.1.symm⟩
     obtain ⟨rfl,rfl⟩:=hbb
     obtain ⟨ux,hMx,hrx,hGx,_⟩:=hL2.row
     obtain ⟨_,_,_,_,_,hb2G2,_⟩:=hL2.here
     have hux:ux=x.v:=zb6 hrx hr2v
     have hsl:s.stacks[tn]=x.l:=by rw [hxl];exact zdA (t:=(tn:Int)) (by simpa using htn)
     rw [hux,hsl] at hMx
     refine zby zaP hr2v ?_
     refine zoD u25 ty3 hMx (by omega) (by rw [hxl];exact hne) fun bx ax capx v132 G' hxv hM' hG' hv'=>?_
     refine zbR u31 zaP hu1 htn ?_
     have hb2G':b2∉G':=fun h=>hb2G2 (hG' _ h)
     have hb2g:b2≠w4.heap.size:=fun e=>hg1v (e▸hG21v b2 (by simp))
     have hrep':=za6 rfl hM'.own
     have hone':v132.oneCell'=true:=Rep.one hrep' v132 (by simp)
     refine zgE zaP hwb2 hr2v hrow2.one hone' fun w10 hch hr10=>?_
     have hkeep':∀ c∈G',w10.heap[c]?=(World.drew1 w8).heap[c]?:=fun c hcm=>hch.chg.block c (hM'.lt c hcm) (by simp;exact fun e=>hb2G' (e▸hcm))
     obtain ⟨cb,eb,hcb⟩:=hwb2
     obtain ⟨cb',hcb',_⟩:=hch.cell cb eb hcb
     have hOy:OAt G' w10 b2 (a2+tn*Rep.size (List Int)) (x.l.take top):=⟨[v132],Rep.keep hrep' hkeep',hr10,hM'.nodup,hM'.wr.keep hkeep',hb2G',cb',eb,hcb'⟩
     have hg10:w10.heap[w4.heap.size]?=(World.drew1 w8).heap[w4.heap.size]?:=hch.chg.block _ (hlt _ (by simp)) (by simp;exact fun e=>hb2g e.symm)
     obtain ⟨F',hO',hF'⟩:=hL2.back w10 G' (x.l.take top) (hch.mono (Nat.le_refl _) (Nat.le_refl _) (by simp)) hOy (fun c hcm=>.inl (hG' c hcm))
     have hs10:=hch.chg.size
     have hFb:∀ c∈F',w3.heap.size≤c∧c<w4.heap.size:=fun c hcm=>by
       have hin:c∈w4.heap.size :: F:=by
         rcases hF' c hcm with h | h
         · exact h
         exact hGx c (hG' c h)
       rcases List.mem_cons.1 hin with rfl | h
       · obtain ⟨_,_,_,_,_,hnn,_⟩:=hO';exact absurd hcm hnn
       exact hF c h
     have hb2F:b2∈w4.heap.size :: F:=hL2.sub b2 (by simp)
     have hcI:ChgI w3.heap.size w8.heap.size (World.drew1 w8) w10:=hch.chg.toI fun c hcm=>by
       simp only [List.mem_cons,List.not_mem_nil,or_false] at hcm
       subst hcm
       rcases List.mem_cons.1 hb2F with h | h
       · rw [h];exact ⟨by omega,hg8⟩
       have:=hF _ h;omega
     have hx310:Ext w3 w10:=Ext.chgI hx39 hcI (Nat.le_refl _)
     have e1:((tn:Int)).toNat=tn:=by omega
     have hlen:x.l.length=top+1:=by omega
     have htop8:top<8:=by have h:=htl;rw [hxl] at h;omega
     refine zcm ?_
     refine br (fun hp=>?_) (fun hp=>?_)
     · refine zaa zaI ?_
       refine zby zdk (zaK hr1 hg10) ?_
       refine zbR u31 zaP hu1 htn ?_
       refine zby zaP hr10 ?_
       refine za5 (by unfold I64;omega) ?_
       obtain ⟨tp,htp⟩:∃ tp:Nat,(top:Int)-1=tp:=⟨top-1,by omega⟩
       rw [htp]
       obtain ⟨G1',hL1'⟩:=zcZ (Lens.var hO')
       have hk':tn<(s.stacks.set tn (x.l.take top)).length:=by simpa using htn
       obtain ⟨u1',b2',a2',cap2',G2',hr1',_,hu1',hL2'⟩:=hL1'.elem hk'
       have hu':u1'=u1:=zb6 hr1' (zaK hr1 hg10)
       have hbb':b2'=b2∧a2'=a2:=by
         rw [hu',hu1] at hu1'
         simp only [Value.slice.injEq,Option.some.injEq,Addr.mk.injEq] at hu1'
         exact ⟨hu1'.1.1.symm,hu1'.1.2.1.symm⟩
       obtain ⟨rfl,rfl⟩:=hbb'
       have hel:(s.stacks.set tn (x.l.take top))[tn]'hk'=x.l.take top:=List.getElem_set_self ..
       simp only [hel] at hL2'
       obtain ⟨uy,by',ay',capy',G3',hry,hIsy,huy,hL3'⟩:=hL2'.elem (k:=tp) (by simp;omega)
       have huy':uy=v132:=zb6 hry hr10
       have hv132:=hv' (by omega)
       have hbx:by'=bx∧ay'=ax:=by
         rw [huy',hv132] at huy
         simp only [Value.slice.injEq,Option.some.injEq,Addr.mk.injEq] at huy
         exact ⟨huy.1.1.symm,huy.1.2.1.symm⟩
       obtain ⟨rfl,rfl⟩:=hbx
       refine zbR u25 ty3 hv132 (k:=tp) (by omega) ?_
       have hval:(x.l.take top)[tp]'(by simp;omega)=st x.l tp:=by
         rw [List.getElem_take,zgn]
       refine zac ty3 hL3'.here.at (Ext.refl w10) fun hI140=>?_
       rw [hval]
       have hstr:0≤st x.l tp∧st x.l tp<c.ins.length:=by
         have hmem:=hs.2.2.2.2.2 x.l (by rw [←hsl];exact List.getElem_mem _)
         exact hmem.2.1 tp (by omega)
       refine zbT (by unfold I64;omega) ?_
       refine zbR u25 ty3 hv132 (k:=tp) (by omega) ?_
       have hg10':w4.heap.size<w10.heap.size:=by omega
       refine zeE (α:=DState) (lo:=w3.heap.size) (hi:=w10.heap.size) ty3 hL3' (fun c hcm=>by have:=hFb c hcm;omega) (by omega) (zbU (x:=st x.l tp+1) (by unfold I64;omega)) fun w11 hc11 hv11=>?_
       have hs11:=hc11.size
       refine hres _ w11 (Ext.chgI hx310 hc11 (Nat.le_refl _)) (hv11.mono (Nat.le_refl _) (by omega)) ?_
       unfold zbV
       rw [←hI,if_neg q4,if_pos q9]
       simp only [DState.mk.injEq,true_and,e1,List.set_set]
       congr 1
       unfold zhk
       rw [←hxl,hlen,if_neg (by omega),show top+1-1=top by omega,show top+1-2=tp by omega]
     refine hres _ w10 hx310 ⟨F',hO',fun c hcm=>by have:=hFb c hcm;omega⟩ ?_
     unfold zbV
     rw [←hI,if_neg q4,if_pos q9]
     simp only [DState.mk.injEq,true_and,e1]
     congr 1
     unfold zhk
     have ht0:top=0:=by omega
     subst ht0
     rw [←hxl,hlen]
     simp
   exact ⟨by rw [hn],hx38,same w8 (Ext.refl w8) (by omega)⟩
 rintro uj w9 ⟨hu,hx9,z',hv9,hz1,hz2,hz3,hz4,ho4,ho9⟩
 simp only [List.map_cons,List.map_nil,List.cons.injEq,and_true] at hu
 rw [hu]
 have hs9:=hx9.size
 obtain ⟨hk',hxk⟩:=List.getElem?_eq_some_iff.1 hz4
 have hg9:=hv9.lt
 obtain ⟨F,hO,hF⟩:=hv9
 obtain ⟨G1,hL1⟩:=zb4 (Lens.var hO)
 obtain ⟨b2,a2,cap2,G2,hv2,_,hL2⟩:=hL1.elemV hk'
 rw [hxk] at hL2
 obtain ⟨cs1,⟨rfl,_⟩,hr1,_⟩:=hL1.here
 obtain ⟨cs2,⟨rfl,_⟩,hr2,_⟩:=hL2.here
 refine zaa zaI ?_
 refine zby zdk hr1 ?_
 refine zbR u31 zaP hv2 hk' ?_
 refine zby zaP hr2 ?_
 refine zkX (e:=3) u25 ty3 hL2 htl fun b3 o3 G3 hL3=>?_
 have hI64:I64 (zcd c s tn):=by
   have hto:I.op=2∨I.op=3→I64 I.to:=fun h=>by
     have:=hR.2.2.2
     rw [←hI,if_pos h] at this
     obtain ⟨i,hi,_,_,hpr⟩:=hc.f.find hc.1.procs8.2 hat0 hatlt.2
     have h1:=hc.f.nonneg hi
     have h2:=(hc.f.lt i hi).2
     rw [hpr,zcH,Int.toNat_natCast] at this
     unfold I64;omega
   unfold zcd
   rw [←hI]
   split
   · split
     · exact hto (.inl (by assumption))
     unfold I64;omega
   split
   · exact hto (.inr (by assumption))
   unfold I64;omega
 refine zeE ty3 hL3 hF (by omega) (zbU hI64) fun w10 hc10 hv10=>?_
 have hs10:=hc10.size
 refine hres _ w10 (Ext.chgI hx9 hc10 (Nat.le_refl _)) (ziB (hv10.mono (Nat.le_refl _) (by omega))) ?_
 unfold zbV DStV.er
 rw [←hI,if_neg ho4,if_neg ho9]
 simp only [DState.mk.injEq,hz1,hz2,true_and]
 have e1:((tn:Int)).toNat=tn:=by omega
 have e2:(stk s tn).length-1=top:=by rw [←hxl];omega
 rw [List.map_set,hz3,hxl,e1,e2]
theorem zhm {c:DCode} {s:DState} {t:Int}:∀ {k:Nat},t∈zcx c s k→GoR c s t
 | 0,h=>by simp [zcx] at h
 | k+1,h=>by
   rw [zcx] at h
   split at h
   · rcases List.mem_append.1 h with h | h
     · exact zhm h
     simp only [List.mem_cons,List.not_mem_nil,or_false] at h
     subst h;assumption
   exact zhm h
def zcO (c:DCode) (s:DState) (p:Int):Int:=(zcN c s).getD ((max p 0).tmod (zcN c s).length).toNat 0
theorem zhn {p:Int} {n:Nat} (h:n≠0):0≤(max p 0).tmod n∧((max p 0).tmod n).toNat<n:=by
 have h1:0≤max p 0:=by omega
 have h2:=Int.emod_nonneg (max p 0) (b:=(n:Int)) (by omega)
 have h3:=Int.emod_lt_of_pos (max p 0) (b:=(n:Int)) (by omega)
 rw [Int.tmod_eq_emod_of_nonneg h1]
 omega
theorem zfF {c:DCode} {s:DState} {p:Int} (h:((max p 0).tmod (zcN c s).length).toNat<(zcN c s).length):(zcN c s)[((max p 0).tmod (zcN c s).length).toNat]=zcO c s p:=by
 unfold zcO;rw [List.getD_eq_getElem?_getD,List.getElem?_eq_getElem h];rfl
theorem ziG {c:DCode} {s:DState} {p:Int} (h:(zcN c s).length≠0):GoR c s (zcO c s p):=by
 have h1:=(zhn (p:=p) h).2
 rw [←zfF h1]
 exact zhm (List.getElem_mem h1)
def zk8 (c:DCode):List Int→DState→List Int→DState×List Int
 | [],s,went=>(s,went)
 | p :: ps,s,went=>if (zcN c s).length=0 then (s,went) else zk8 c ps (zbV c s (zcO c s p)) (went++[zcO c s p])
theorem zjz {c:DCode} {l:List Int} {s:DState} {went:List Int} (h:(zcN c s).length=0):zk8 c l s went=(s,went):=by
 cases l with
 | nil=>rfl
 | cons p ps=>rw [zk8,if_pos h]
theorem zjA {c:DCode} {l:List Int} {k:Nat} {s:DState} {went:List Int} (hk:k<l.length) (h:¬(zcN c s).length=0):zk8 c (l.drop k) s went=zk8 c (l.drop (k+1)) (zbV c s (zcO c s l[k])) (went++[zcO c s l[k]]):=by
 rw [List.drop_eq_getElem_cons hk,zk8,if_neg h]
def zdS (c:DCode) (picks:List Int):DState×List Int:=if CodeR c then zk8 c (picks.take 400) (zbD c) [] else (⟨[],[],[]⟩,[])
def zpP {α β:Type} [Rep α] [Rep β] (w w':World) (r:Value) (x:α) (y:β):Prop:=∃ a b lo hi lo2 hi2,r=.tuple #[a,b]∧OwnI lo hi w' a x∧OwnI lo2 hi2 w' b y∧w.heap.size≤lo∧w.heap.size≤lo2∧hi≤w'.heap.size∧hi2≤w'.heap.size∧(hi≤lo2∨hi2≤lo)
def F23 (a0 a1:Value) (w:World) (R:VW):Prop:=
 oP (Instr.box 28 a0) w fun x2 w=>
 oP (Instr.alloc 33 true (.tuple #[])) w fun x4 w=>
 rL 28 x2 w fun x12=>
 cL 72 [x12] w fun x13 w=>
 rD (Op.unary .not x13) w fun x14=>
 BR x14
 (rD (Instr.build 33 #[]) w fun x15=>
 oS 33 x4 x15 w fun w=>
 rD (zaq 33 x4) w fun r4=>R (Value.tuple #[r4,(Value.slice none 0 0)]) w)
 (rL 28 x2 w fun x16=>
 cL 73 [x16] w fun x17 w=>
 oP (Instr.alloc 33 true (.tuple #[])) w fun x6 w=>
 oS 33 x6 x17 w fun w=>
 rN 25 3 a1 w fun x20=>
 rD (Builtin.min_ #[3,3] 3 [x20,(iV 400)].toArray) w fun x21=>
 rD (Instr.sliceAt 25 a1 none (some x21) none) w fun x22=>
 rN 25 3 x22 w fun x23=>
 LOOPI [7,24] [(Value.slice none 0 0),(iV 0)] w fun u6 w next6=>
 rC (u6 24) x23 w fun x25=>
 BR x25
 (rX 25 x22 (u6 24) w fun x26=>
 rL 3 x26 w fun x27=>
 rL 28 x2 w fun x28=>
 rL 33 x6 w fun x29=>
 cL 77 [x28,x29] w fun x30 w=>
 rN 25 3 x30 w fun x32=>
 rB .eql 3 T0 U0 x32 (iV 0) w fun x33=>
 BR x33
 (rL 33 x6 w fun x51=>
 oS 33 x4 x51 w fun w=>
 rD (zaq 33 x4) w fun r4=>R (Value.tuple #[r4,(u6 7)]) w)
 (rD (Builtin.max_ #[3,3] 3 [x27,(iV 0)].toArray) w fun x36=>
 rN 25 3 x30 w fun x38=>
 rB .rem 3 T0 T0 x36 x38 w fun x39=>
 rX 25 x30 x39 w fun x40=>
 rL 3 x40 w fun x41=>
 rL 28 x2 w fun x42=>
 rL 33 x6 w fun x43=>
 cL 80 [x42,x43,x41] w fun x45 w=>
 oS 33 x6 x45 w fun w=>
 oP (Instr.buildSlice 25 1 #[(0,x41)]) w fun x48 w=>
 oP (Builtin.append_ #[25,25] 25 [(u6 7),x48].toArray) w fun x49 w=>
 rA (u6 24) (iV 1) w fun x50=>
 next6 [x49,x50] w))
 (rL 33 x6 w fun x51=>
 oS 33 x4 x51 w fun w=>
 rD (zaq 33 x4) w fun r4=>R (Value.tuple #[r4,(u6 7)]) w))
def cfg23:Cfg:=⟨extL,[],[(6,2251799796911744,[7,24])],[],[],[],[]⟩
theorem F23_call {a0 a1:Value} {w:World} {R:VW} (h:F23 a0 a1 w R):cL 23 [a0,a1] w R:=co (g:=cfg23) Tryz.func23 (by kernel_rfl) (by kernel_rfl) (by kernel_rfl) h
theorem zgr {w:World} {v0:Value} {W0:World} {c:DCode} {v1:Value} {W1:World} {picks:(List Int)}  (h0:Is W0 v0 c) (e0:Ext W0 w) (h1:Is W1 v1 picks) (e1:Ext W1 w) (hw:zi3 c≤1048576) :
   CALL Tryz.prog 23 [v0,v1] w fun r w'=>Ext w w'∧(zpP w w' r (zdS c picks).1 (zdS c picks).2):=by
 refine F23_call ?_
 unfold F23
 have hs_e0:=e0.size
 have hs_e1:=e1.size
 refine zap zdn rfl h0 e0 fun w1_ hx1_ hA2 hV2=>?_
 have hs_hx1_:=hx1_.size
 refine zcz (α:=DState) zo3 fun w2_ hx2_ hv4=>?_
 have hg4:=hv4.lt
 have hs_hx2_:=hx2_.size
 refine zay hV2 hx2_ ?_
 refine (zfq h0 (e0.trans (hx1_.trans hx2_))).mono ?_
 rintro _ w3_ ⟨hx3_,rfl⟩
 have hs_hx3_:=hx3_.size
 refine zau ?_
 refine br (fun c1=>?_) (fun c1=>?_)
 · refine zaQ (cells:=#[.slice none 0 0,.slice none 0 0,.slice none 0 0]) (by kernel_rfl) ?_
   have o15:OwnI (α:=DState) w3_.heap.size w3_.heap.size w3_ (.agg #[.slice none 0 0,.slice none 0 0,.slice none 0 0]) RepZ.zv:=zjl
   refine zaA zbq (hv4.ext hx3_) (o15.ext (Ext.refl w3_)) (by omega) fun w4_ hc4_ hv4_s4=>?_
   have hs_hc4_:=hc4_.size
   have o15_c4:=(o15.ext (Ext.refl w3_)).chg hc4_ (by omega)
   refine zaV zbq hv4_s4 (Ext.refl w4_) fun r4 hr4=>?_
   replace hr4:=hr4.ext (Ext.refl w4_)
   refine ⟨(Ext.chgI ((hx1_.trans hx2_).trans hx3_) hc4_ (by omega)),?_⟩
   rw [show zdS c picks=(⟨[],[],[]⟩,[]) from if_neg c1]
   exact ⟨_,_,_,_,_,_,rfl,hr4,zbZ (lo:=w4_.heap.size) (hi:=w4_.heap.size) none,by omega,by omega,by omega,by omega,by omega⟩
 have hc:CodeR c:=Decidable.not_not.1 c1
 refine zay hV2 (hx2_.trans hx3_) ?_
 refine (zlJ h0 (e0.trans (hx1_.trans (hx2_.trans hx3_))) (by omega) (by assumption)).mono ?_
 rintro r17 w5_ ⟨hx5_,o17⟩
 have o17:=o17.toI
 have hs_hx5_:=hx5_.size
 refine zcz (α:=DState) zo3 fun w6_ hx6_ hv6=>?_
 have hg6:=hv6.lt
 have hs_hx6_:=hx6_.size
 refine zaA zbq (hv6.ext (Ext.refl w6_)) (o17.ext hx6_) (by omega) fun w7_ hc7_ hv6_s7=>?_
 have hs_hc7_:=hc7_.size
 have hv4_c7:=(hv4.ext (hx3_.trans (hx5_.trans hx6_))).chg hc7_ (by omega) (by omega)
 have o17_c7:=(o17.ext hx6_).chg hc7_ (by omega)
 have hln20:=zaf h1
 refine zad u25 h1 ?_
 refine zo9 ?_
 refine zeW u25 ty3 h1 (by omega) (by omega) fun v22 h22=>?_
 have ht:picks.take (min (picks.length:Int) 400).toNat=picks.take 400:=by
   rw [show (min (picks.length:Int) 400).toNat=min 400 picks.length by omega,←List.take_eq_take_min]
 rw [ht] at h22
 have hln23:=zaf h22
 refine zad u25 h22 ?_
 refine zaO ((picks.take 400).length) (fun k us w'=>∃ (s:DState) (went:List Int) (v:Value) (lo hi lo2 hi2:Nat),us=[v,.int .i64 (k:Int)]∧Ext w5_ w'∧(k≤(picks.take 400).length∧zk8 c (picks.take 400) (zbD c) []=zk8 c ((picks.take 400).drop k) s went∧zaH c s∧went.length=k∧VarI lo hi w' w5_.heap.size s∧RowI lo2 hi2 3 w' v went∧(w2_.heap.size≤lo∧(hi≤w5_.heap.size∨w5_.heap.size<lo)∧w5_.heap.size<lo2∧lo≤hi∧lo2≤hi2∧hi≤w'.heap.size∧hi2≤w'.heap.size∧(hi≤lo2∨hi2≤lo)))) (0) (by omega) ⟨zbD c,[],_,_,_,_,_,rfl,(Ext.chgI hx6_ hc7_ (by omega)),by omega,rfl,ze6 hc,rfl,(hv6_s7.ext (Ext.refl w7_)),zc0 w7_.heap.size w7_.heap.size _ _,by omega⟩ ?_
 rintro k m6 uu6 w8_ hk6 ⟨s,went,v7,lo,hi,lo2,hi2,hu,hx8_,hkl,hrun,hs,hwl,hst,hrow,hbd⟩
 have hs_hx8_:=hx8_.size
 obtain ⟨hu0,hu1⟩:=zjE hu
 try rw [hu0]
 try rw [hu1]
 try clear hu0 hu1
 have hk4:(picks.take 400).length≤400:=List.length_take_le _ _
 refine zaj ?_
 refine br (fun c2=>?_) (fun c2=>?_)
 · refine zae u25 ty3 h22 (by omega) fun b26 o26 h26=>?_
   refine zac ty3 h26 (e1.trans (hx1_.trans (hx2_.trans (hx3_.trans (hx5_.trans hx8_))))) fun hI27=>?_
   refine zay hV2 (hx2_.trans (hx3_.trans (hx5_.trans hx8_))) ?_
   refine zbo zbq hst (Ext.refl w8_) fun v29 o29=>?_
   refine (zhQ h0 (e0.trans (hx1_.trans (hx2_.trans (hx3_.trans (hx5_.trans hx8_))))) o29.is (Ext.refl w8_) (by assumption) (by assumption)).mono ?_
   rintro r30 w9_ ⟨hx9_,o30⟩
   have o30:=o30.toI
   have hs_hx9_:=hx9_.size
   have hln32:=zaf o30.is
   refine zad u25 o30.is ?_
   refine zag ?_
   refine br (fun c3=>?_) (fun c3=>?_)
   · refine zbo zbq hst hx9_ fun v51 o51=>?_
     refine zaA zbq (hv4.ext (hx3_.trans (hx5_.trans (hx8_.trans hx9_)))) (o51.ext hx9_) (by omega) fun w10_ hc10_ hv4_s10=>?_
     have hs_hc10_:=hc10_.size
     have o17_c10:=(o17.ext (hx8_.trans hx9_)).chg hc10_ (by omega)
     have hst_c10:=(hst.ext hx9_).chg hc10_ (by omega) (by omega)
     have hrow_c10:=(hrow.ext hx9_).chg hc10_ (by omega)
     have o30_c10:=(o30.ext (Ext.refl w9_)).chg hc10_ (by omega)
     have o29_c10:=(o29.ext hx9_).chg hc10_ (by omega)
     have o51_c10:=(o51.ext hx9_).chg hc10_ (by omega)
     refine zaV zbq hv4_s10 (Ext.refl w10_) fun r4 hr4=>?_
     replace hr4:=hr4.ext (Ext.refl w10_)
     refine ⟨(Ext.chgI (((((hx1_.trans hx2_).trans hx3_).trans hx5_).trans hx8_).trans hx9_) hc10_ (by omega)),?_⟩
     have hR:zdS c picks=(s,went):=by unfold zdS;rw [if_pos hc,hrun,zjz (by omega)]
     rw [hR]
     exact ⟨_,_,_,_,_,_,rfl,hr4,(hrow_c10.ext (Ext.refl w10_)).own,by omega,by omega,by omega,by omega,by omega⟩
   refine znT ?_
   have hln38:=zaf o30.is
   refine zad u25 o30.is ?_
   refine zgN (by omega) ?_
   refine zar u25 ty3 o30.is (zhn (by omega)).1 (zhn (by omega)).2 fun b40 o40 h40=>?_
   refine zac ty3 h40 (Ext.refl w9_) fun hI41=>?_
   have hgo:=ziG (c:=c) (s:=s) (p:=(picks.take 400)[k]) (by omega)
   rw [zfF] at hI41
   rw [zfF]
   refine zay hV2 (hx2_.trans (hx3_.trans (hx5_.trans (hx8_.trans hx9_)))) ?_
   refine zbo zbq hst hx9_ fun v43 o43=>?_
   refine (zhS h0 (e0.trans (hx1_.trans (hx2_.trans (hx3_.trans (hx5_.trans (hx8_.trans hx9_)))))) o43.is hx9_ (by assumption) (by assumption) (by assumption)).mono ?_
   rintro r45 w11_ ⟨hx11_,o45⟩
   have o45:=o45.toI
   have hs_hx11_:=hx11_.size
   refine zaA zbq (hst.ext (hx9_.trans hx11_)) (o45.ext (Ext.refl w11_)) (by omega) fun w12_ hc12_ hst_s12=>?_
   have hs_hc12_:=hc12_.size
   have hv4_c12:=(hv4.ext (hx3_.trans (hx5_.trans (hx8_.trans (hx9_.trans hx11_))))).chg hc12_ (by omega) (by omega)
   have o17_c12:=(o17.ext (hx8_.trans (hx9_.trans hx11_))).chg hc12_ (by omega)
   have hrow_c12:=(hrow.ext (hx9_.trans hx11_)).chg hc12_ (by omega)
   have o30_c12:=(o30.ext hx11_).chg hc12_ (by omega)
   have o29_c12:=(o29.ext (hx9_.trans hx11_)).chg hc12_ (by omega)
   have o43_c12:=(o43.ext (hx9_.trans hx11_)).chg hc12_ (by omega)
   have o45_c12:=(o45.ext (Ext.refl w11_)).chg hc12_ (by omega)
   refine zjm (α:=Int) u25 ty3 z3 zc3 (by decide) (hrow_c12.ext (Ext.refl w12_)) (ownI_int (lo:=w12_.heap.size) (hi:=w12_.heap.size) (by first | assumption | (unfold I64 at *;omega))) (by rw [zak];omega) (by omega) fun v49 w13_ lo49 hi49 hc13_ o49 hd49=>?_
   have hs_hc13_:=hc13_.size
   have hv4_c13:=(hv4_c12.ext (Ext.refl w12_)).chg hc13_ (by omega) (by omega)
   have o17_c13:=(o17_c12.ext (Ext.refl w12_)).chg hc13_ (by omega)
   have hst_s12_c13:=(hst_s12.ext (Ext.refl w12_)).chg hc13_ (by omega) (by omega)
   have o30_c13:=(o30_c12.ext (Ext.refl w12_)).chg hc13_ (by omega)
   have o29_c13:=(o29_c12.ext (Ext.refl w12_)).chg hc13_ (by omega)
   have o43_c13:=(o43_c12.ext (Ext.refl w12_)).chg hc13_ (by omega)
   have o45_c13:=(o45_c12.ext (Ext.refl w12_)).chg hc13_ (by omega)
   refine zal (by omega) ?_
   refine ⟨m6-1,by omega,k+1,by omega,zbV c s (zcO c s (picks.take 400)[k]),went++[zcO c s (picks.take 400)[k]],_,(w9_.heap.size),(w11_.heap.size),(lo49),(hi49),rfl,(Ext.chgI (Ext.chgI ((hx8_.trans hx9_).trans hx11_) hc12_ (by omega)) hc13_ (by omega)),?_⟩
   refine ⟨by omega,?_,zeK hc hs hgo,by simp;omega,(hst_s12_c13.ext (Ext.refl w13_)),(o49.ext (Ext.refl w13_)),?_⟩
   · rw [hrun,zjA (by omega) (by omega)]
   omega
 refine zbo zbq hst (Ext.refl w8_) fun v51 o51=>?_
 refine zaA zbq (hv4.ext (hx3_.trans (hx5_.trans hx8_))) (o51.ext (Ext.refl w8_)) (by omega) fun w14_ hc14_ hv4_s14=>?_
 have hs_hc14_:=hc14_.size
 have o17_c14:=(o17.ext hx8_).chg hc14_ (by omega)
 have hst_c14:=(hst.ext (Ext.refl w8_)).chg hc14_ (by omega) (by omega)
 have hrow_c14:=(hrow.ext (Ext.refl w8_)).chg hc14_ (by omega)
 have o51_c14:=(o51.ext (Ext.refl w8_)).chg hc14_ (by omega)
 refine zaV zbq hv4_s14 (Ext.refl w14_) fun r4 hr4=>?_
 replace hr4:=hr4.ext (Ext.refl w14_)
 refine ⟨(Ext.chgI ((((hx1_.trans hx2_).trans hx3_).trans hx5_).trans hx8_) hc14_ (by omega)),?_⟩
 have hR:zdS c picks=(s,went):=by unfold zdS;rw [if_pos hc,hrun,List.drop_eq_nil_of_le (by omega)];rfl
 rw [hR]
 exact ⟨_,_,_,_,_,_,rfl,hr4,(hrow_c14.ext (Ext.refl w14_)).own,by omega,by omega,by omega,by omega,by omega⟩
def F24 (a0 a1:Value) (w:World) (R:VW):Prop:=
 oP (Instr.box 28 a0) w fun x2 w=>
 oP (Instr.alloc 33 true (.tuple #[])) w fun x4 w=>
 oP (Instr.buildSlice 25 0 #[]) w fun x12 w=>
 rL 28 x2 w fun x13=>
 cL 31 [x13] w fun x14 w=>
 oP (Instr.alloc 33 true (.tuple #[])) w fun x7 w=>
 oS 33 x7 x14 w fun w=>
 rL 28 x2 w fun x15=>
 cL 81 [x15] w fun x16 w=>
 rD (Op.unary .not x16) w fun x17=>
 BR x17
 (rL 33 x7 w fun x18=>
 oS 33 x4 x18 w fun w=>
 rD (zaq 33 x4) w fun r4=>R (Value.tuple #[r4,x12]) w)
 (LOOPI [6,8] [x12,(iV 0)] w fun u6 w next6=>
 rN 25 3 a1 w fun x22=>
 rC (u6 8) x22 w fun x23=>
 BR x23
 (rB .lss 3 T0 U0 (u6 8) (iV 400) w fun x26=>
 BR x26
 (rL 28 x2 w fun x30=>
 rL 33 x7 w fun x31=>
 cL 75 [x30,x31] w fun x32 w=>
 rN 25 3 x32 w fun x34=>
 rB .eql 3 T0 U0 x34 (iV 0) w fun x35=>
 BR x35
 (rL 33 x7 w fun x57=>
 oS 33 x4 x57 w fun w=>
 rD (zaq 33 x4) w fun r4=>R (Value.tuple #[r4,(u6 6)]) w)
 (rX 25 a1 (u6 8) w fun x38=>
 rL 3 x38 w fun x39=>
 JOIN [10] (fun J13=>
 rB .lss 3 T0 U0 x39 (iV 0) w fun x41=>
 BR x41
 (J13 [(iV 0)] w)
 (J13 [x39] w)) (fun u13 w=>
 rN 25 3 x32 w fun x45=>
 rB .rem 3 T0 T0 (u13 10) x45 w fun x46=>
 rX 25 x32 x46 w fun x47=>
 rL 3 x47 w fun x48=>
 rL 28 x2 w fun x49=>
 rL 33 x7 w fun x50=>
 cL 82 [x49,x50,x48] w fun x52 w=>
 oS 33 x7 x52 w fun w=>
 oP (Instr.buildSlice 25 1 #[(0,x48)]) w fun x55 w=>
 oP (Builtin.append_ #[25,25] 25 [(u6 6),x55].toArray) w fun x56 w=>
 rA (u6 8) (iV 1) w fun x29=>
 next6 [x56,x29] w)))
 (rL 33 x7 w fun x57=>
 oS 33 x4 x57 w fun w=>
 rD (zaq 33 x4) w fun r4=>R (Value.tuple #[r4,(u6 6)]) w))
 (rL 33 x7 w fun x57=>
 oS 33 x4 x57 w fun w=>
 rD (zaq 33 x4) w fun r4=>R (Value.tuple #[r4,(u6 6)]) w))
def cfg24:Cfg:=⟨extL,[(13,3298534884352,[10])],[(6,144115188074811200,[6,8])],[],[],[],[]⟩
theorem F24_call {a0 a1:Value} {w:World} {R:VW} (h:F24 a0 a1 w R):cL 24 [a0,a1] w R:=co (g:=cfg24) Tryz.func24 (by kernel_rfl) (by kernel_rfl) (by kernel_rfl) h
set_option maxRecDepth 20000 in
theorem zjB {w:World} {v0:Value} {W0:World} {c:DCode} {v1:Value} {W1:World} {picks:(List Int)}  (h0:Is W0 v0 c) (e0:Ext W0 w) (h1:Is W1 v1 picks) (e1:Ext W1 w) (hw:zi3 c≤1048576) :
    CALL Tryz.prog 24 [v0,v1] w fun r w'=>Ext w w'∧(zpP w w' r (zdS c picks).1 (zdS c picks).2):=by
  refine F24_call ?_
  unfold F24
  have hs_e0:=e0.size
  have hs_e1:=e1.size
  refine zap zdn rfl h0 e0 fun w1_ hx1_ hA2 hV2=>?_
  have hs_hx1_:=hx1_.size
  refine zcz (α:=DState) zo3 fun w2_ hx2_ hv4=>?_
  have hg4:=hv4.lt
  have hs_hx2_:=hx2_.size
  refine zbj (α:=Int) u25 ty3 fun v12 w3_ hx3_ o12=>?_
  have hs_hx3_:=hx3_.size
  refine zay hV2 (hx2_.trans hx3_) ?_
  refine (zhv h0 (e0.trans (hx1_.trans (hx2_.trans hx3_))) (by omega)).mono ?_
  rintro r14 w4_ ⟨hx4_,o14⟩
  have o14:=o14.toI
  have hs_hx4_:=hx4_.size
  refine zcz (α:=DState) zo3 fun w5_ hx5_ hv7=>?_
  have hg7:=hv7.lt
  have hs_hx5_:=hx5_.size
  refine zaA zbq (hv7.ext (Ext.refl w5_)) (o14.ext hx5_) (by omega) fun w6_ hc6_ hv7_s6=>?_
  have hs_hc6_:=hc6_.size
  have hv4_c6:=(hv4.ext (hx3_.trans (hx4_.trans hx5_))).chg hc6_ (by omega) (by omega)
  have o12_c6:=(o12.ext (hx4_.trans hx5_)).chg hc6_ (by omega)
  have o14_c6:=(o14.ext hx5_).chg hc6_ (by omega)
  refine zay hV2 (Ext.chgI (((hx2_.trans hx3_).trans hx4_).trans hx5_) hc6_ (by omega)) ?_
  refine (zfp h0 (Ext.chgI (((((e0.trans hx1_).trans hx2_).trans hx3_).trans hx4_).trans hx5_) hc6_ (by omega))).mono ?_
  rintro _ w7_ ⟨hx7_,rfl⟩
  have hs_hx7_:=hx7_.size
  refine zau ?_
  refine br (fun c1=>?_) (fun c1=>?_)
  · refine zbo zbq hv7_s6 hx7_ fun v18 o18=>?_
    refine zaA zbq (hv4_c6.ext hx7_) (o18.ext hx7_) (by omega) fun w8_ hc8_ hv4_s8=>?_
    have hs_hc8_:=hc8_.size
    have o12_c8:=(o12_c6.ext hx7_).chg hc8_ (by omega)
    have o14_c8:=(o14_c6.ext hx7_).chg hc8_ (by omega)
    have hv7_s6_c8:=(hv7_s6.ext hx7_).chg hc8_ (by omega) (by omega)
    have o18_c8:=(o18.ext hx7_).chg hc8_ (by omega)
    refine zaV zbq hv4_s8 (Ext.refl w8_) fun r4 hr4=>?_
    replace hr4:=hr4.ext (Ext.refl w8_)
    refine ⟨(Ext.chgI ((Ext.chgI ((((hx1_.trans hx2_).trans hx3_).trans hx4_).trans hx5_) hc6_ (by omega)).trans hx7_) hc8_ (by omega)),?_⟩
    rw [show zdS c picks=(⟨[],[],[]⟩,[]) from if_neg c1]
    rw [show zes c=⟨[],[],[]⟩ from if_neg c1] at hr4
    exact ⟨_,_,_,_,_,_,rfl,hr4,(o12_c8.ext (Ext.refl w8_)).own,by omega,by omega,by omega,by omega,by omega⟩
  refine zaO ((picks.take 400).length) (fun k us w'=>∃ (s:DState) (went:List Int) (v:Value) (lo hi lo2 hi2:Nat),us=[v,.int .i64 (k:Int)]∧Ext w4_ w'∧(k≤(picks.take 400).length∧zk8 c (picks.take 400) (zbD c) []=zk8 c ((picks.take 400).drop k) s went∧zaH c s∧went.length=k∧VarI lo hi w' w4_.heap.size s∧RowI lo2 hi2 3 w' v went∧(w2_.heap.size≤lo∧(hi≤w4_.heap.size∨w4_.heap.size<lo)∧w4_.heap.size<lo2∧lo≤hi∧lo2≤hi2∧hi≤w'.heap.size∧hi2≤w'.heap.size∧(hi≤lo2∨hi2≤lo)))) (0) (by omega) ⟨zes c,[],_,_,_,_,_,rfl,((Ext.chgI hx5_ hc6_ (by omega)).trans hx7_),by omega,by rw [show zes c=zbD c from if_pos (Decidable.not_not.1 c1)];rfl,by rw [show zes c=zbD c from if_pos (Decidable.not_not.1 c1)];exact ze6 (Decidable.not_not.1 c1),rfl,(hv7_s6.ext hx7_),zdc w7_.heap.size w7_.heap.size _ _ _,by omega⟩ ?_
  rintro k m6 uu6 w9_ hk6 ⟨s,went,v7,lo,hi,lo2,hi2,hu,hx9_,hkl,hrun,hs,hwl,hst,hrow,hbd⟩
  have hs_hx9_:=hx9_.size
  obtain ⟨hu0,hu1⟩:=zjE hu;clear hu
  try rw [hu0]
  try rw [hu1]
  try clear hu0 hu1
  have hk5:(picks.take 400).length=min 400 picks.length:=List.length_take
  have hc:CodeR c:=Decidable.not_not.1 c1
  have hsd:zes c=zbD c:=if_pos hc
  have hln22:=zaf h1
  refine zad u25 h1 ?_
  refine zaj ?_
  refine br (fun c2=>?_) (fun c2=>?_)
  · refine zaj ?_
    refine br (fun c3=>?_) (fun c3=>?_)
    · refine zay hV2 (hx2_.trans (hx3_.trans (hx4_.trans hx9_))) ?_
      refine zbo zbq hst (Ext.refl w9_) fun v31 o31=>?_
      refine (zkn h0 (e0.trans (hx1_.trans (hx2_.trans (hx3_.trans (hx4_.trans hx9_))))) o31.is (Ext.refl w9_) (by assumption) (by assumption)).mono ?_
      rintro r32 w10_ ⟨hx10_,o32⟩
      have o32:=o32.toI
      have hs_hx10_:=hx10_.size
      have hln34:=zaf o32.is
      refine zad u25 o32.is ?_
      refine zag ?_
      refine br (fun c4=>?_) (fun c4=>?_)
      · refine zbo zbq hst hx10_ fun v57 o57=>?_
        refine zaA zbq (hv4.ext (hx3_.trans (hx4_.trans (hx9_.trans hx10_)))) (o57.ext hx10_) (by omega) fun w11_ hc11_ hv4_s11=>?_
        have hs_hc11_:=hc11_.size
        have o12_c11:=(o12.ext (hx4_.trans (hx9_.trans hx10_))).chg hc11_ (by omega)
        have hrow_c11:=(hrow.ext hx10_).chg hc11_ (by omega)
        have o14_c11:=(o14.ext (hx9_.trans hx10_)).chg hc11_ (by omega)
        have hst_c11:=(hst.ext hx10_).chg hc11_ (by omega) (by omega)
        have o32_c11:=(o32.ext (Ext.refl w10_)).chg hc11_ (by omega)
        have o31_c11:=(o31.ext hx10_).chg hc11_ (by omega)
        have o57_c11:=(o57.ext hx10_).chg hc11_ (by omega)
        refine zaV zbq hv4_s11 (Ext.refl w11_) fun r4 hr4=>?_
        replace hr4:=hr4.ext (Ext.refl w11_)
        refine ⟨(Ext.chgI (((((hx1_.trans hx2_).trans hx3_).trans hx4_).trans hx9_).trans hx10_) hc11_ (by omega)),?_⟩
        have hR:zdS c picks=(s,went):=by unfold zdS;rw [if_pos hc,hrun,zjz (by omega)]
        rw [hR]
        exact ⟨_,_,_,_,_,_,rfl,hr4,(hrow_c11.ext (Ext.refl w11_)).own,by omega,by omega,by omega,by omega,by omega⟩
      refine zae u25 ty3 h1 (by omega) fun b38 o38 h38=>?_
      refine zac ty3 h38 (e1.trans (hx1_.trans (hx2_.trans (hx3_.trans (hx4_.trans (hx9_.trans hx10_)))))) fun hI39=>?_
      refine JOIN.mk (fun us w'=>us=[.int .i64 (max picks[k] 0)]∧Ext w10_ w'∧(True)) ?_ ?_
      · refine zaj ?_
        refine br (fun c5=>?_) (fun c5=>?_)
        · refine ⟨by rw [show max picks[k] 0=0 by omega],Ext.refl w10_,?_⟩
          trivial
        refine ⟨by rw [show max picks[k] 0=picks[k] by omega],Ext.refl w10_,?_⟩
        trivial
      rintro uj13 w12_ ⟨hu,hx12_,hinv⟩
      have hs_hx12_:=hx12_.size
      simp only [List.map_cons,List.map_nil,List.cons.injEq,and_true] at hu
      try rw [hu]
      try clear hu
      have hln45:=zaf o32.is
      refine zad u25 o32.is ?_
      refine zgN (by omega) ?_
      refine zar u25 ty3 o32.is (zhn (by omega)).1 (zhn (by omega)).2 fun b47 o47 h47=>?_
      refine zac ty3 h47 hx12_ fun hI48=>?_
      have hgo:=ziG (c:=c) (s:=s) (p:=picks[k]) (by omega)
      rw [zfF] at hI48
      rw [zfF]
      refine zay hV2 (hx2_.trans (hx3_.trans (hx4_.trans (hx9_.trans (hx10_.trans hx12_))))) ?_
      refine zbo zbq hst (hx10_.trans hx12_) fun v50 o50=>?_
      refine (zlP h0 (e0.trans (hx1_.trans (hx2_.trans (hx3_.trans (hx4_.trans (hx9_.trans (hx10_.trans hx12_))))))) o50.is (hx10_.trans hx12_) (by assumption) (by assumption) (by assumption)).mono ?_
      rintro r52 w13_ ⟨hx13_,o52⟩
      have o52:=o52.toI
      have hs_hx13_:=hx13_.size
      refine zaA zbq (hst.ext (hx10_.trans (hx12_.trans hx13_))) (o52.ext (Ext.refl w13_)) (by omega) fun w14_ hc14_ hst_s14=>?_
      have hs_hc14_:=hc14_.size
      have hv4_c14:=(hv4.ext (hx3_.trans (hx4_.trans (hx9_.trans (hx10_.trans (hx12_.trans hx13_)))))).chg hc14_ (by omega) (by omega)
      have o12_c14:=(o12.ext (hx4_.trans (hx9_.trans (hx10_.trans (hx12_.trans hx13_))))).chg hc14_ (by omega)
      have hrow_c14:=(hrow.ext (hx10_.trans (hx12_.trans hx13_))).chg hc14_ (by omega)
      have o14_c14:=(o14.ext (hx9_.trans (hx10_.trans (hx12_.trans hx13_)))).chg hc14_ (by omega)
      have o32_c14:=(o32.ext (hx12_.trans hx13_)).chg hc14_ (by omega)
      have o31_c14:=(o31.ext (hx10_.trans (hx12_.trans hx13_))).chg hc14_ (by omega)
      have o50_c14:=(o50.ext (hx10_.trans (hx12_.trans hx13_))).chg hc14_ (by omega)
      have o52_c14:=(o52.ext (Ext.refl w13_)).chg hc14_ (by omega)
      refine zjm (α:=Int) u25 ty3 z3 zc3 (by decide) (hrow_c14.ext (Ext.refl w14_)) (ownI_int (lo:=w14_.heap.size) (hi:=w14_.heap.size) (by first | assumption | (unfold I64 at *;omega))) (by rw [zak];omega) (by omega) fun v56 w15_ lo56 hi56 hc15_ o56 hd56=>?_
      have hs_hc15_:=hc15_.size
      have hv4_c15:=(hv4_c14.ext (Ext.refl w14_)).chg hc15_ (by omega) (by omega)
      have o12_c15:=(o12_c14.ext (Ext.refl w14_)).chg hc15_ (by omega)
      have o14_c15:=(o14_c14.ext (Ext.refl w14_)).chg hc15_ (by omega)
      have hst_s14_c15:=(hst_s14.ext (Ext.refl w14_)).chg hc15_ (by omega) (by omega)
      have o32_c15:=(o32_c14.ext (Ext.refl w14_)).chg hc15_ (by omega)
      have o31_c15:=(o31_c14.ext (Ext.refl w14_)).chg hc15_ (by omega)
      have o50_c15:=(o50_c14.ext (Ext.refl w14_)).chg hc15_ (by omega)
      have o52_c15:=(o52_c14.ext (Ext.refl w14_)).chg hc15_ (by omega)
      refine zal (by omega) ?_
      refine ⟨m6-1,by omega,k+1,by omega,zbV c s (zcO c s picks[k]),went++[zcO c s picks[k]],_,(w12_.heap.size),(w13_.heap.size),(lo56),(hi56),rfl,(Ext.chgI (Ext.chgI (((hx9_.trans hx10_).trans hx12_).trans hx13_) hc14_ (by omega)) hc15_ (by omega)),?_⟩
      refine ⟨by omega,?_,zeK hc hs hgo,by simp;omega,(hst_s14_c15.ext (Ext.refl w15_)),(o56.ext (Ext.refl w15_)),?_⟩
      · rw [hrun,zjA (by omega) (by omega),List.getElem_take]
      omega
    refine zbo zbq hst (Ext.refl w9_) fun v57 o57=>?_
    refine zaA zbq (hv4.ext (hx3_.trans (hx4_.trans hx9_))) (o57.ext (Ext.refl w9_)) (by omega) fun w16_ hc16_ hv4_s16=>?_
    have hs_hc16_:=hc16_.size
    have o12_c16:=(o12.ext (hx4_.trans hx9_)).chg hc16_ (by omega)
    have hrow_c16:=(hrow.ext (Ext.refl w9_)).chg hc16_ (by omega)
    have o14_c16:=(o14.ext hx9_).chg hc16_ (by omega)
    have hst_c16:=(hst.ext (Ext.refl w9_)).chg hc16_ (by omega) (by omega)
    have o57_c16:=(o57.ext (Ext.refl w9_)).chg hc16_ (by omega)
    refine zaV zbq hv4_s16 (Ext.refl w16_) fun r4 hr4=>?_
    replace hr4:=hr4.ext (Ext.refl w16_)
    refine ⟨(Ext.chgI ((((hx1_.trans hx2_).trans hx3_).trans hx4_).trans hx9_) hc16_ (by omega)),?_⟩
    have hR:zdS c picks=(s,went):=by unfold zdS;rw [if_pos hc,hrun,List.drop_eq_nil_of_le (by omega)];rfl
    rw [hR]
    exact ⟨_,_,_,_,_,_,rfl,hr4,(hrow_c16.ext (Ext.refl w16_)).own,by omega,by omega,by omega,by omega,by omega⟩
  refine zbo zbq hst (Ext.refl w9_) fun v57 o57=>?_
  refine zaA zbq (hv4.ext (hx3_.trans (hx4_.trans hx9_))) (o57.ext (Ext.refl w9_)) (by omega) fun w17_ hc17_ hv4_s17=>?_
  have hs_hc17_:=hc17_.size
  have o12_c17:=(o12.ext (hx4_.trans hx9_)).chg hc17_ (by omega)
  have hrow_c17:=(hrow.ext (Ext.refl w9_)).chg hc17_ (by omega)
  have o14_c17:=(o14.ext hx9_).chg hc17_ (by omega)
  have hst_c17:=(hst.ext (Ext.refl w9_)).chg hc17_ (by omega) (by omega)
  have o57_c17:=(o57.ext (Ext.refl w9_)).chg hc17_ (by omega)
  refine zaV zbq hv4_s17 (Ext.refl w17_) fun r4 hr4=>?_
  replace hr4:=hr4.ext (Ext.refl w17_)
  refine ⟨(Ext.chgI ((((hx1_.trans hx2_).trans hx3_).trans hx4_).trans hx9_) hc17_ (by omega)),?_⟩
  have hR:zdS c picks=(s,went):=by unfold zdS;rw [if_pos hc,hrun,List.drop_eq_nil_of_le (by omega)];rfl
  rw [hR]
  exact ⟨_,_,_,_,_,_,rfl,hr4,(hrow_c17.ext (Ext.refl w17_)).own,by omega,by omega,by omega,by omega,by omega⟩
def zce (c:DCode):List Int→DState→List Int
 | [],_=>[]
 | p :: ps,s=>if (zcN c s).length=0 then [] else zcO c s p :: zce c ps (zbV c s (zcO c s p))
theorem zku (c:DCode):∀ (l:List Int) (s:DState) (w:List Int),zk8 c l s w=((zce c l s).foldl (zbV c) s,w++zce c l s)
 | [],s,w=>by simp [zk8,zce]
 | p :: l,s,w=>by
   rw [zk8,zce]
   split
   · simp
   rw [zku c l];simp
theorem zho (c:DCode):∀ (l:List Int) (s:DState),(zce c l s).length≤l.length∧((zce c l s).length<l.length→zcN c ((zce c l s).foldl (zbV c) s)=[])
 | [],s=>by simp [zce]
 | p :: l,s=>by
   rw [zce]
   split
   · rename_i h;exact ⟨Nat.zero_le _,fun _=>List.eq_nil_of_length_eq_zero h⟩
   have:=zho c l (zbV c s (zcO c s p))
   simp only [List.length_cons,List.foldl_cons]
   exact ⟨by omega,fun h=>this.2 (by omega)⟩
theorem zhV (c:DCode):∀ (l:List Int) (s:DState) (m:Nat),m≤(zce c l s).length→zce c (l.take m) s=(zce c l s).take m
 | [],s,m,h=>by simp [zce]
 | p :: l,s,0,h=>by simp [zce]
 | p :: l,s,m+1,h=>by
   rw [zce] at h
   rw [List.take_succ_cons,zce,zce]
   split
   · rename_i h0;rw [if_pos h0] at h;simp at h
   rename_i h0
   rw [if_neg h0] at h
   rw [List.take_succ_cons,zhV c l _ m (by simpa using h)]
theorem zk9 {c:DCode} (hc:CodeR c):∀ (l:List Int) (s:DState) (m:Nat) (hm:m<(zce c l s).length),zaH c s→zaH c (((zce c l s).take m).foldl (zbV c) s)∧GoR c (((zce c l s).take m).foldl (zbV c) s) (zce c l s)[m]
 | [],s,m,h,_=>by simp [zce] at h
 | p :: l,s,m,h,hs=>by
   by_cases h0:(zcN c s).length=0
   · rw [zce,if_pos h0] at h;simp at h
   have e:zce c (p :: l) s=zcO c s p :: zce c l (zbV c s (zcO c s p)):=by rw [zce,if_neg h0]
   have hg:=ziG (p:=p) h0
   cases m with
   | zero=>
     simp only [e,List.take_zero,List.foldl_nil,List.getElem_cons_zero]
     exact ⟨hs,hg⟩
   | succ m=>
     have h':m<(zce c l (zbV c s (zcO c s p))).length:=by rw [e] at h;simpa using h
     simp only [e,List.take_succ_cons,List.foldl_cons,List.getElem_cons_succ]
     exact zk9 hc l _ m h' (zeK hc hs hg)
theorem zhp {c:DCode} (hc:CodeR c):∀ (l:List Int) (s:DState),zaH c s→zaH c ((zce c l s).foldl (zbV c) s)
 | [],s,hs=>by simpa [zce] using hs
 | p :: l,s,hs=>by
   rw [zce]
   split
   · exact hs
   rename_i h0
   rw [List.foldl_cons]
   exact zhp hc l _ (zeK hc hs (ziG h0))
theorem zlQ {α β:Type} (f:β→α→β) (b:β) {l:List α} {k:Nat} (hk:k<l.length):(l.take (k+1)).foldl f b=f ((l.take k).foldl f b) l[k]:=by
 rw [List.take_succ_eq_append_getElem hk,List.foldl_append];rfl
theorem zfG {w W:World} {v:Value} {s:DState} (h:Is W v s) (e:Ext W w) (hsz:zpe s) :
   CALL Tryz.prog 79 [v] w fun r w'=>Ext w w'∧Own w.heap.size w' r s:=
 (zgl h e hsz).mono fun r w' ⟨hx,z,ho,hz⟩=>⟨hx,hz▸(zoC ho).own⟩
def zhW (c:DCode) (s:DState) (t:Int):DState:=if (CodeR c∧zaH c s)∧GoR c s t then zbV c s t else s
def F19 (a0 a1 a2:Value) (w:World) (R:VW):Prop:=
 oP (Instr.box 28 a0) w fun x3 w=>
 oP (Instr.box 33 a1) w fun x4 w=>
 oP (Instr.alloc 33 true (.tuple #[])) w fun x6 w=>
 rL 28 x3 w fun x8=>
 rL 33 x4 w fun x9=>
 cL 14 [x8,x9] w fun x10 w=>
 rD (Op.unary .not x10) w fun x11=>
 BR x11
 (rL 33 x4 w fun x19=>
 cL 79 [x19] w fun x20 w=>
 oS 33 x6 x20 w fun w=>
 rD (zaq 33 x6) w fun r6=>R (Value.tuple #[r6,(Value.bool false)]) w)
 (rL 28 x3 w fun x13=>
 rL 33 x4 w fun x14=>
 cL 78 [x13,x14,a2] w fun x16 w=>
 rD (Op.unary .not x16) w fun x17=>
 BR x17
 (rL 33 x4 w fun x19=>
 cL 79 [x19] w fun x20 w=>
 oS 33 x6 x20 w fun w=>
 rD (zaq 33 x6) w fun r6=>R (Value.tuple #[r6,(Value.bool false)]) w)
 (rL 28 x3 w fun x21=>
 rL 33 x4 w fun x22=>
 cL 80 [x21,x22,a2] w fun x24 w=>
 oS 33 x6 x24 w fun w=>
 rD (zaq 33 x6) w fun r6=>R (Value.tuple #[r6,(Value.bool true)]) w))
def cfg19:Cfg:=⟨extL,[],[],[],[],[],[]⟩
theorem F19_call {a0 a1 a2:Value} {w:World} {R:VW} (h:F19 a0 a1 a2 w R):cL 19 [a0,a1,a2] w R:=co (g:=cfg19) Tryz.func19 (by kernel_rfl) (by kernel_rfl) (by kernel_rfl) h
theorem ziH {w:World} {v0:Value} {W0:World} {c:DCode} {v1:Value} {W1:World} {s:DState} {t:Int}  (h0:Is W0 v0 c) (e0:Ext W0 w) (h1:Is W1 v1 s) (e1:Ext W1 w) (hz:zpe s) :
   CALL Tryz.prog 19 [v0,v1,.int .i64 t] w fun r w'=>Ext w w'∧(∃ a,r=.tuple #[a,.bool (decide ((CodeR c∧zaH c s)∧GoR c s t))]∧Own w.heap.size w' a (zhW c s t)):=by
 refine F19_call ?_
 unfold F19
 have hs_e0:=e0.size
 have hs_e1:=e1.size
 refine zap zdn rfl h0 e0 fun w1_ hx1_ hA3 hV3=>?_
 have hs_hx1_:=hx1_.size
 refine zap zbq rfl h1 (e1.trans hx1_) fun w2_ hx2_ hA4 hV4=>?_
 have hs_hx2_:=hx2_.size
 refine zcz (α:=DState) zo3 fun w3_ hx3_ hv6=>?_
 have hg6:=hv6.lt
 have hs_hx3_:=hx3_.size
 refine zay hV3 (hx2_.trans hx3_) ?_
 refine zay hV4 hx3_ ?_
 refine (zeQ h0 (e0.trans (hx1_.trans (hx2_.trans hx3_))) h1 (e1.trans (hx1_.trans (hx2_.trans hx3_)))).mono ?_
 rintro _ w4_ ⟨hx4_,rfl⟩
 have hs_hx4_:=hx4_.size
 refine zau ?_
 refine br (fun c1=>?_) (fun c1=>?_)
 · refine zay hV4 (hx3_.trans hx4_) ?_
   refine (zfG h1 (e1.trans (hx1_.trans (hx2_.trans (hx3_.trans hx4_)))) (by assumption)).mono ?_
   rintro r20 w5_ ⟨hx5_,o20⟩
   have o20:=o20.toI
   have hs_hx5_:=hx5_.size
   refine zaA zbq (hv6.ext (hx4_.trans hx5_)) (o20.ext (Ext.refl w5_)) (by omega) fun w6_ hc6_ hv6_s6=>?_
   have hs_hc6_:=hc6_.size
   have o20_c6:=(o20.ext (Ext.refl w5_)).chg hc6_ (by omega)
   refine zaV zbq hv6_s6 (Ext.refl w6_) fun r6 hr6=>?_
   replace hr6:=hr6.ext (Ext.refl w6_)
   refine ⟨(Ext.chgI ((((hx1_.trans hx2_).trans hx3_).trans hx4_).trans hx5_) hc6_ (by omega)),?_⟩
   rw [decide_eq_false fun h=>c1 h.1,show zhW c s t=s from if_neg fun h=>c1 h.1]
   exact ⟨_,rfl,hr6.own.mono (by omega)⟩
 have hcs:=Decidable.not_not.1 c1
 have hc:=hcs.1
 have hs:=hcs.2
 refine zay hV3 (hx2_.trans (hx3_.trans hx4_)) ?_
 refine zay hV4 (hx3_.trans hx4_) ?_
 refine (zmV h0 (e0.trans (hx1_.trans (hx2_.trans (hx3_.trans hx4_)))) h1 (e1.trans (hx1_.trans (hx2_.trans (hx3_.trans hx4_)))) (by assumption) (by assumption)).mono ?_
 rintro _ w7_ ⟨hx7_,rfl⟩
 have hs_hx7_:=hx7_.size
 refine zau ?_
 refine br (fun c2=>?_) (fun c2=>?_)
 · refine zay hV4 (hx3_.trans (hx4_.trans hx7_)) ?_
   refine (zfG h1 (e1.trans (hx1_.trans (hx2_.trans (hx3_.trans (hx4_.trans hx7_))))) (by assumption)).mono ?_
   rintro r20 w8_ ⟨hx8_,o20⟩
   have o20:=o20.toI
   have hs_hx8_:=hx8_.size
   refine zaA zbq (hv6.ext (hx4_.trans (hx7_.trans hx8_))) (o20.ext (Ext.refl w8_)) (by omega) fun w9_ hc9_ hv6_s9=>?_
   have hs_hc9_:=hc9_.size
   have o20_c9:=(o20.ext (Ext.refl w8_)).chg hc9_ (by omega)
   refine zaV zbq hv6_s9 (Ext.refl w9_) fun r6 hr6=>?_
   replace hr6:=hr6.ext (Ext.refl w9_)
   refine ⟨(Ext.chgI (((((hx1_.trans hx2_).trans hx3_).trans hx4_).trans hx7_).trans hx8_) hc9_ (by omega)),?_⟩
   rw [decide_eq_false fun h=>c2 h.2,show zhW c s t=s from if_neg fun h=>c2 h.2]
   exact ⟨_,rfl,hr6.own.mono (by omega)⟩
 have hgo:=Decidable.not_not.1 c2
 refine zay hV3 (hx2_.trans (hx3_.trans (hx4_.trans hx7_))) ?_
 refine zay hV4 (hx3_.trans (hx4_.trans hx7_)) ?_
 refine (zhS h0 (e0.trans (hx1_.trans (hx2_.trans (hx3_.trans (hx4_.trans hx7_))))) h1 (e1.trans (hx1_.trans (hx2_.trans (hx3_.trans (hx4_.trans hx7_))))) (by assumption) (by assumption) (by assumption)).mono ?_
 rintro r24 w10_ ⟨hx10_,o24⟩
 have o24:=o24.toI
 have hs_hx10_:=hx10_.size
 refine zaA zbq (hv6.ext (hx4_.trans (hx7_.trans hx10_))) (o24.ext (Ext.refl w10_)) (by omega) fun w11_ hc11_ hv6_s11=>?_
 have hs_hc11_:=hc11_.size
 have o24_c11:=(o24.ext (Ext.refl w10_)).chg hc11_ (by omega)
 refine zaV zbq hv6_s11 (Ext.refl w11_) fun r6 hr6=>?_
 replace hr6:=hr6.ext (Ext.refl w11_)
 refine ⟨(Ext.chgI (((((hx1_.trans hx2_).trans hx3_).trans hx4_).trans hx7_).trans hx10_) hc11_ (by omega)),?_⟩
 rw [decide_eq_true ⟨hcs,hgo⟩,show zhW c s t=zbV c s t from if_pos ⟨hcs,hgo⟩]
 exact ⟨_,rfl,hr6.own.mono (by omega)⟩
def F4 (a0:Value) (w:World) (R:VW):Prop:=
 cL 9 [a0] w fun x15 w=>
 BR x15
 (R (Value.bool true) w)
 (cL 10 [a0] w fun x17 w=>
 oP (Instr.alloc 28 true (.tuple #[])) w fun x3 w=>
 oS 28 x3 x17 w fun w=>
 cL 10 [a0] w fun x19 w=>
 oP (Instr.alloc 28 true (.tuple #[])) w fun x4 w=>
 oS 28 x4 x19 w fun w=>
 cL 11 [a0] w fun x21 w=>
 (fun w0=>PAR w0 [[(0,23)],[(1,24)],[(2,25)],[(3,26),(1,24),(2,25)],[(4,27),(0,23),(3,26),(3,26)],[(5,22),(4,27)],[(6,28),(5,22)],[(7,29),(5,22)],[(8,6)]] (fun Q=>
 (∀ (u6:Env) (T:Nat→Nat×Nat) (w:World),Ext w0 w→zaG [] w0.heap.size w.heap.size T→(True)→(fun w1=>rL 28 x3 w fun x23=>
 Ext w1 w∧Q 0 (upd u6 23 x23) (zbE T 0 (w1.heap.size,w.heap.size)) w) w) ∧
 (∀ (u6:Env) (T:Nat→Nat×Nat) (w:World),Ext w0 w→zaG [] w0.heap.size w.heap.size T→(True)→(fun w1=>oP (Instr.buildSlice 25 0 #[]) w fun x24 w=>
 Ext w1 w∧Q 1 (upd u6 24 x24) (zbE T 1 (w1.heap.size,w.heap.size)) w) w) ∧
 (∀ (u6:Env) (T:Nat→Nat×Nat) (w:World),Ext w0 w→zaG [] w0.heap.size w.heap.size T→(True)→(fun w1=>Ext w1 w∧Q 2 (upd u6 25 x21) (zbE T 2 (w1.heap.size,w.heap.size)) w) w) ∧
 (∀ (u6:Env) (T:Nat→Nat×Nat) (w:World),Ext w0 w→zaG [1,2] w0.heap.size w.heap.size T→(Q 1 u6 T w∧Q 2 u6 T w∧True)→(fun w1=>oP (Builtin.append_ #[25,25] 25 [(u6 24),(u6 25)].toArray) w fun x26 w=>
 Ext w1 w∧Q 3 (upd u6 26 x26) (zbE T 3 (w1.heap.size,w.heap.size)) w) w) ∧
 (∀ (u6:Env) (T:Nat→Nat×Nat) (w:World),Ext w0 w→zaG [0,3,3] w0.heap.size w.heap.size T→(Q 0 u6 T w∧Q 3 u6 T w∧Q 3 u6 T w∧True)→(fun w1=>cL 23 [(u6 23),(u6 26)] w fun x27 w=>
 Ext w1 w∧Q 4 (upd u6 27 x27) (zbE T 4 (w1.heap.size,w.heap.size)) w) w) ∧
 (∀ (u6:Env) (T:Nat→Nat×Nat) (w:World),Ext w0 w→zaG [4] w0.heap.size w.heap.size T→(Q 4 u6 T w∧True)→(fun w1=>Ext w1 w∧Q 5 (upd u6 22 (u6 27)) (zbE T 5 (w1.heap.size,w.heap.size)) w) w) ∧
 (∀ (u6:Env) (T:Nat→Nat×Nat) (w:World),Ext w0 w→zaG [5] w0.heap.size w.heap.size T→(Q 5 u6 T w∧True)→(fun w1=>rE (u6 22) 0 w fun x28=>
 Ext w1 w∧Q 6 (upd u6 28 x28) (zbE T 6 (w1.heap.size,w.heap.size)) w) w) ∧
 (∀ (u6:Env) (T:Nat→Nat×Nat) (w:World),Ext w0 w→zaG [5] w0.heap.size w.heap.size T→(Q 5 u6 T w∧True)→(fun w1=>rE (u6 22) 1 w fun x29=>
 Ext w1 w∧Q 7 (upd u6 29 x29) (zbE T 7 (w1.heap.size,w.heap.size)) w) w) ∧
 (∀ (u6:Env) (T:Nat→Nat×Nat) (w:World),Ext w0 w→zaG [] w0.heap.size w.heap.size T→(True)→(fun w1=>oP (Instr.alloc 33 true (.tuple #[])) w fun x6 w=>
 Ext w1 w∧Q 8 (upd u6 6 x6) (zbE T 8 (w1.heap.size,w.heap.size)) w) w) ∧
 True)
 (fun Q=>∀ (u6:Env) (T:Nat→Nat×Nat) (w:World),Ext w0 w→zaG [0,1,2,3,4,5,6,7,8] w0.heap.size w.heap.size T→(Q 0 u6 T w∧Q 1 u6 T w∧Q 2 u6 T w∧Q 3 u6 T w∧Q 4 u6 T w∧Q 5 u6 T w∧Q 6 u6 T w∧Q 7 u6 T w∧Q 8 u6 T w∧True) →
 oS 33 (u6 6) (u6 28) w fun w=>
 rL 28 x4 w fun x31=>
 cL 24 [x31,x21] w fun x33 w=>
 rE x33 0 w fun x34=>
 rE x33 1 w fun x35=>
 oP (Instr.alloc 33 true (.tuple #[])) w fun x8 w=>
 oS 33 x8 x34 w fun w=>
 JOIN [] (fun J10=>
 rL 33 (u6 6) w fun x36=>
 rL 33 x8 w fun x37=>
 cL 25 [x36,x37] w fun x38 w=>
 rD (Op.unary .not x38) w fun x39=>
 BR x39
 (R (Value.bool false) w)
 (cL 15 [(u6 29),x35] w fun x43 w=>
 rD (Op.unary .not x43) w fun x44=>
 BR x44
 (R (Value.bool false) w)
 (rL 33 (u6 6) w fun x47=>
 rL 33 x8 w fun x48=>
 cL 26 [x47,x48] w fun x49 w=>
 rD (Op.unary .not x49) w fun x50=>
 BR x50
 (R (Value.bool false) w)
 (rN 25 3 (u6 29) w fun x54=>
 rN 25 3 x21 w fun x56=>
 rC x54 x56 w fun x57=>
 GBR x57
 (rL 28 x3 w fun x59=>
 rL 33 (u6 6) w fun x60=>
 cL 16 [x59,x60] w fun x61 w=>
 rN 25 3 x61 w fun x62=>
 rB .gtr 3 T0 U0 x62 (iV 0) w fun x63=>
 BR x63
 (R (Value.bool false) w)
 (J10 [] w))
 (J10 [] w)
 (BR undef
 (BR undef
 (R (Value.bool false) w)
 (J10 [] w))
 (J10 [] w)))))) (fun u10 w=>
 (fun w0=>PAR w0 [[(0,67)],[(1,68)],[(2,69)],[(3,70),(2,69)],[(4,71),(3,70)],[(5,72),(1,68),(4,71)],[(6,73),(0,67),(5,72)],[(7,66),(6,73)],[(8,74),(7,66)],[(9,75),(7,66)],[(10,10)]] (fun Q=>
 (∀ (u10:Env) (T:Nat→Nat×Nat) (w:World),Ext w0 w→zaG [] w0.heap.size w.heap.size T→(True)→(fun w1=>rL 28 x3 w fun x67=>
 Ext w1 w∧Q 0 (upd u10 67 x67) (zbE T 0 (w1.heap.size,w.heap.size)) w) w) ∧
 (∀ (u10:Env) (T:Nat→Nat×Nat) (w:World),Ext w0 w→zaG [] w0.heap.size w.heap.size T→(True)→(fun w1=>Ext w1 w∧Q 1 (upd u10 68 x21) (zbE T 1 (w1.heap.size,w.heap.size)) w) w) ∧
 (∀ (u10:Env) (T:Nat→Nat×Nat) (w:World),Ext w0 w→zaG [] w0.heap.size w.heap.size T→(True)→(fun w1=>Ext w1 w∧Q 2 (upd u10 69 (u6 29)) (zbE T 2 (w1.heap.size,w.heap.size)) w) w) ∧
 (∀ (u10:Env) (T:Nat→Nat×Nat) (w:World),Ext w0 w→zaG [2] w0.heap.size w.heap.size T→(Q 2 u10 T w∧True)→(fun w1=>rN 25 3 (u10 69) w fun x70=>
 Ext w1 w∧Q 3 (upd u10 70 x70) (zbE T 3 (w1.heap.size,w.heap.size)) w) w) ∧
 (∀ (u10:Env) (T:Nat→Nat×Nat) (w:World),Ext w0 w→zaG [3] w0.heap.size w.heap.size T→(Q 3 u10 T w∧True)→(fun w1=>rB .quo 3 T0 U0 (u10 70) (iV 2) w fun x71=>
 Ext w1 w∧Q 4 (upd u10 71 x71) (zbE T 4 (w1.heap.size,w.heap.size)) w) w) ∧
 (∀ (u10:Env) (T:Nat→Nat×Nat) (w:World),Ext w0 w→zaG [1,4] w0.heap.size w.heap.size T→(Q 1 u10 T w∧Q 4 u10 T w∧True)→(fun w1=>rD (Instr.sliceAt 25 (u10 68) none (some (u10 71)) none) w fun x72=>
 Ext w1 w∧Q 5 (upd u10 72 x72) (zbE T 5 (w1.heap.size,w.heap.size)) w) w) ∧
 (∀ (u10:Env) (T:Nat→Nat×Nat) (w:World),Ext w0 w→zaG [0,5] w0.heap.size w.heap.size T→(Q 0 u10 T w∧Q 5 u10 T w∧True)→(fun w1=>cL 23 [(u10 67),(u10 72)] w fun x73 w=>
 Ext w1 w∧Q 6 (upd u10 73 x73) (zbE T 6 (w1.heap.size,w.heap.size)) w) w) ∧
 (∀ (u10:Env) (T:Nat→Nat×Nat) (w:World),Ext w0 w→zaG [6] w0.heap.size w.heap.size T→(Q 6 u10 T w∧True)→(fun w1=>Ext w1 w∧Q 7 (upd u10 66 (u10 73)) (zbE T 7 (w1.heap.size,w.heap.size)) w) w) ∧
 (∀ (u10:Env) (T:Nat→Nat×Nat) (w:World),Ext w0 w→zaG [7] w0.heap.size w.heap.size T→(Q 7 u10 T w∧True)→(fun w1=>rE (u10 66) 0 w fun x74=>
 Ext w1 w∧Q 8 (upd u10 74 x74) (zbE T 8 (w1.heap.size,w.heap.size)) w) w) ∧
 (∀ (u10:Env) (T:Nat→Nat×Nat) (w:World),Ext w0 w→zaG [7] w0.heap.size w.heap.size T→(Q 7 u10 T w∧True)→(fun w1=>rE (u10 66) 1 w fun x75=>
 Ext w1 w∧Q 9 (upd u10 75 x75) (zbE T 9 (w1.heap.size,w.heap.size)) w) w) ∧
 (∀ (u10:Env) (T:Nat→Nat×Nat) (w:World),Ext w0 w→zaG [] w0.heap.size w.heap.size T→(True)→(fun w1=>oP (Instr.alloc 33 true (.tuple #[])) w fun x10 w=>
 Ext w1 w∧Q 10 (upd u10 10 x10) (zbE T 10 (w1.heap.size,w.heap.size)) w) w) ∧
 True)
 (fun Q=>∀ (u10:Env) (T:Nat→Nat×Nat) (w:World),Ext w0 w→zaG [0,1,2,3,4,5,6,7,8,9,10] w0.heap.size w.heap.size T→(Q 0 u10 T w∧Q 1 u10 T w∧Q 2 u10 T w∧Q 3 u10 T w∧Q 4 u10 T w∧Q 5 u10 T w∧Q 6 u10 T w∧Q 7 u10 T w∧Q 8 u10 T w∧Q 9 u10 T w∧Q 10 u10 T w∧True) →
 oS 33 (u10 10) (u10 74) w fun w=>
 rN 25 3 (u6 29) w fun x77=>
 rB .quo 3 T0 U0 x77 (iV 2) w fun x78=>
 LOOPI [12] [x78] w fun u12 w next12=>
 rN 25 3 (u6 29) w fun x81=>
 rC (u12 12) x81 w fun x82=>
 BR x82
 ((fun w=>rL 28 x3 w fun x86=>
 rL 33 (u10 10) w fun x87=>
 rX 25 x35 (u12 12) w fun x90=>
 rL 3 x90 w fun x91=>
 cL 19 [x86,x87,x91] w fun x92 w=>
 rE x92 0 w fun x93=>
 rE x92 1 w fun x94=>
 oS 33 (u10 10) x93 w fun w=>
 rD (Op.unary .not x94) w fun x96=>
 BR x96
 (R (Value.bool false) w)
 (rA (u12 12) (iV 1) w fun x84=>
 next12 [x84] w)) (World.drew1 w))
 (rL 33 (u10 10) w fun x97=>
 rL 33 (u6 6) w fun x98=>
 cL 26 [x97,x98] w fun x99 w=>
 R x99 w))) (World.drew1 w)))) (World.drew1 w))
def cfg4:Cfg:=⟨extL,[(10,73786976226118729732,[])],[(12,158455720565618867872500559876,[12])],[(15,[0,1,2,3,4,5,6,7,8,9,10,11],0)],[(6,1069547712,9),(10,75484076749619485215744,11)],[],[]⟩
theorem F4_call {a0:Value} {w:World} {R:VW} (h:F4 a0 w R):cL 4 [a0] w R:=co (g:=cfg4) Tryz.func4 (by kernel_rfl) (by kernel_rfl) (by kernel_rfl) h
def rnQ (c:DCode) (ps:List Int) (v21:Value) (x:DState) (y:List Int) (w0:World):ParQ:=fun i u T w=>match i with
 | 0=>Is w0 (u 23) c
 | 1=>∃ a,u 24=.slice (some a) 0 0
 | 2=>u 25=v21
 | 3=>Is w (u 26) ps
 | 4=>∃ a b,u 27=.tuple #[a,b]∧OwnI (T 4).1 (T 4).2 w a x∧OwnI (T 4).1 (T 4).2 w b y
 | 5=>∃ a b,u 22=.tuple #[a,b]∧OwnI (T 4).1 (T 4).2 w a x∧OwnI (T 4).1 (T 4).2 w b y
 | 6=>∃ b,u 22=.tuple #[u 28,b]
 | 7=>∃ a,u 22=.tuple #[a,u 29]
 | 8=>∃ g,u 6=.pointer (some ⟨g,0,none⟩)∧(T 8).1≤g∧g<(T 8).2∧VarI (T 8).1 (T 8).2 w g (RepZ.zv:DState)
 | _=>True
def rhQ (c:DCode) (qs:List Int) (n:Nat) (v21 v29:Value) (x:DState) (w0:World):ParQ:=fun i u T w=>match i with
 | 0=>Is w0 (u 67) c
 | 1=>u 68=v21
 | 2=>u 69=v29
 | 3=>u 70=.int .i64 (n:Int)
 | 4=>u 71=.int .i64 ((n / 2:Nat):Int)
 | 5=>Is w0 (u 72) qs
 | 6=>∃ a b,u 73=.tuple #[a,b]∧OwnI (T 6).1 (T 6).2 w a x
 | 7=>∃ a b,u 66=.tuple #[a,b]∧OwnI (T 6).1 (T 6).2 w a x
 | 8=>∃ b,u 66=.tuple #[u 74,b]
 | 10=>∃ g,u 10=.pointer (some ⟨g,0,none⟩)∧(T 10).1≤g∧g<(T 10).2∧VarI (T 10).1 (T 10).2 w g (RepZ.zv:DState)
 | _=>True
theorem zpH {a b c d:Value} (h:Value.tuple #[a,b]=.tuple #[c,d]):a=c∧b=d:=by
 simpa using h
theorem zfH (n:Nat):(n:Int).tdiv 2=((n / 2:Nat):Int):=by
 rw [Int.tdiv_eq_ediv_of_nonneg (by omega)];omega
set_option maxRecDepth 20000 in
theorem zoE {w W:World} {v0:Value} {bs:List UInt8} (h0:Is W v0 bs) (e0:Ext W w):CALL Tryz.prog 4 [v0] w fun r w'=>Ext w w'∧(r=.bool true):=by
  refine F4_call ?_
  unfold F4
  refine (zpm h0 e0).mono ?_
  rintro _ w1 ⟨hx1,rfl⟩
  refine br (fun _=>⟨hx1,rfl⟩) (fun hb=>?_)
  have hlen:bs.length≤1048576:=by omega
  have hc:=(zhU bs).1
  have hw:=zlO bs
  have hd:=fun {w2:World} (hx:Ext w w2)=>zkt h0 (e0.trans hx) hlen
  generalize zch bs=c at *
  have hpl:(zk7 bs).length=70:=zgq bs 12 70 _
  have hdp:=fun {w2:World} (hx:Ext w w2)=>zjw h0 (e0.trans hx) hlen
  generalize zk7 bs=ps at *
  have hsr:=ze6 hc
  obtain ⟨G,hG⟩:∃ G,G=zce c ps (zbD c):=⟨_,rfl⟩
  obtain ⟨E,hE⟩:∃ E,E=G.foldl (zbV c) (zbD c):=⟨_,rfl⟩
  obtain ⟨H,hH⟩:∃ H,H=(G.take (G.length / 2)).foldl (zbV c) (zbD c):=⟨_,rfl⟩
  have hrun:zdS c ps=(E,G):=by
    unfold zdS;rw [if_pos hc,List.take_of_length_le (by omega),zku,hE,hG];rfl
  have hGl:=(zho c ps (zbD c)).1
  have hGs:=(zho c ps (zbD c)).2
  have hGg:=fun m hm=>zk9 hc ps (zbD c) m hm hsr
  rw [←hG] at hGl hGs
  simp only [←hG] at hGg
  have hEr:zaH c E:=by rw [hE,hG];exact zhp hc ps _ hsr
  have hhalf:(zdS c (ps.take (G.length / 2))).1=H:=by
    have e1:=zhV c ps (zbD c) (G.length / 2) (by rw [←hG];omega)
    rw [←hG] at e1
    unfold zdS
    rw [if_pos hc,List.take_of_length_le (by simp;omega),zku,e1,hH]
  refine (hd hx1).mono ?_
  rintro v16 w2 ⟨hx2,o16⟩
  refine zee zoj rfl zdn rfl o16.is (Ext.refl _) fun w3 hx3 hA3 hV3=>?_
  have hx13:=hx1.trans (hx2.trans hx3)
  refine (hd hx13).mono ?_
  rintro v18 w4 ⟨hx4,o18⟩
  refine zee zoj rfl zdn rfl o18.is (Ext.refl _) fun w5 hx5 hA4 hV4=>?_
  have hx35:=hx4.trans hx5
  refine (hdp (hx13.trans hx35)).mono ?_
  rintro v21 w6 ⟨hx6,o21⟩
  have h21:=o21.is
  have hxd:=zai w6
  have hsd:=hxd.size
  have hx36:=hx35.trans (hx6.trans hxd)
  refine PAR.mk (rnQ c ps v21 E G (World.drew1 w6)) ?_ ?_ ?_
  · intro i u u' T T' wa wb hxa hxb hd hq
    match i,hd,hq with
    | 0,hd,hq=>have e1:=(hd (0,23) (by decide)).1;show Is _ (u' 23) _;simp only [e1];exact hq
    | 1,hd,hq=>have e1:=(hd (1,24) (by decide)).1;show ∃ a,u' 24=_;simp only [e1];exact hq
    | 2,hd,hq=>exact (hd (2,25) (by decide)).1.trans hq
    | 3,hd,hq=>have e1:=(hd (3,26) (by decide)).1;show Is _ (u' 26) _;simp only [e1];exact Is.ext hq hxb
    | 4,hd,⟨a,b,q1,q2,q3⟩=>
      obtain ⟨e1,e2⟩:=hd (4,27) (by decide)
      simp only at e1 e2
      exact ⟨a,b,e1.trans q1,by rw [e2];exact q2.ext hxb,by rw [e2];exact q3.ext hxb⟩
    | 5,hd,⟨a,b,q1,q2,q3⟩=>
      have e1:=(hd (5,22) (by decide)).1
      have e2:=(hd (4,27) (by decide)).2
      simp only at e1 e2
      exact ⟨a,b,e1.trans q1,by rw [e2];exact q2.ext hxb,by rw [e2];exact q3.ext hxb⟩
    | 6,hd,⟨b,q1⟩=>
      have e1:=(hd (6,28) (by decide)).1
      have e2:=(hd (5,22) (by decide)).1
      simp only at e1 e2
      exact ⟨b,by rw [e1,e2];exact q1⟩
    | 7,hd,⟨b,q1⟩=>
      have e1:=(hd (7,29) (by decide)).1
      have e2:=(hd (5,22) (by decide)).1
      simp only at e1 e2
      exact ⟨b,by rw [e1,e2];exact q1⟩
    | 8,hd,⟨g,q1,q2,q3,q4⟩=>
      obtain ⟨e1,e2⟩:=hd (8,6) (by decide)
      simp only at e1 e2
      exact ⟨g,e1.trans q1,by rw [e2];exact q2,by rw [e2];exact q3,by rw [e2];exact q4.ext hxb⟩
    | n+9,_,_=>trivial
  · refine ⟨fun u T w' hx _ _=>?_,fun u T w' hx _ _=>?_,fun u T w' hx _ _=>?_,fun u T w' hx _ hp=>?_,fun u T w' hx _ hp=>?_,fun u T w' hx _ hp=>?_,fun u T w' hx _ hp=>?_,fun u T w' hx _ hp=>?_,fun u T w' hx _ _=>?_,trivial⟩
    · exact zab zdn hA3 (hx36.trans hx) fun v h=>⟨Ext.refl _,(h.ext hx36:Is _ v c)⟩
    · exact zbj (α:=Int) zh9 zjV fun a1 w7 hx7 _=>⟨hx7,⟨a1,rfl⟩⟩
    · exact ⟨Ext.refl _,rfl⟩
    · obtain ⟨a1,q1⟩:=(hp.1:∃ a,u 24=.slice (some a) 0 0)
      have q2:u 25=v21:=hp.2.1
      rw [q1,q2]
      exact zcG (α:=Int) zh9 zjV zoi h21 (hxd.trans hx) (by rw [zak];omega) (by omega) fun v2 w7 hx7 hr7=>⟨hx7,(hr7.own.is:Is _ v2 ps)⟩
    · have q0:Is _ (u 23) c:=hp.1
      have q3:Is _ (u 26) ps:=hp.2.1
      refine (zgr q0 hx q3 (Ext.refl _) hw).mono ?_
      rintro r w7 ⟨hx7,a,b,lo,hi,lo2,hi2,rfl,oa,ob,b1,b2,b3,b4,-⟩
      rw [hrun] at oa ob
      exact ⟨hx7,⟨a,b,rfl,oa.mono b1 b3,ob.mono b2 b4⟩⟩
    · exact ⟨Ext.refl _,hp.1⟩
    · obtain ⟨a,b,q1,q2,q3⟩:=(hp.1:∃ a b,u 22=.tuple #[a,b]∧OwnI (T 4).1 (T 4).2 w' a E∧OwnI (T 4).1 (T 4).2 w' b G)
      rw [q1]
      exact zbL rfl ⟨Ext.refl _,⟨b,q1⟩⟩
    · obtain ⟨a,b,q1,q2,q3⟩:=(hp.1:∃ a b,u 22=.tuple #[a,b]∧OwnI (T 4).1 (T 4).2 w' a E∧OwnI (T 4).1 (T 4).2 w' b G)
      rw [q1]
      exact zbL rfl ⟨Ext.refl _,⟨a,q1⟩⟩
    refine zcz (α:=DState) zj0 fun w7 hx7 hv7=>⟨hx7,⟨w'.heap.size,rfl,Nat.le_refl _,hv7.lt,hv7.mono hx7.size (Nat.le_refl _)⟩⟩
  rintro u6 T w7 hx7 hap ⟨-,-,-,-,-,⟨a,b,e5,oa,ob⟩,⟨b',e6⟩,⟨a',e7⟩,⟨g6,e8,hg0,hg1,hvz⟩,-⟩
  have t4:=hap.1 4 (by decide)
  have t8:=hap.1 8 (by decide)
  have d48:=hap.2 4 (by decide) 8 (by decide) (by decide)
  have f1:=(zpH (e5.symm.trans e6)).1
  have f2:=(zpH (e5.symm.trans e7)).2
  rw [←f1,e8]
  generalize u6 29=v29 at *
  subst f2
  refine zaA zbq hvz oa (by omega) fun w8 hc8 hv6=>?_
  have ob':=ob.chg hc8 (by omega)
  have h29:=ob'.is
  have hx68:Ext w6 w8:=hxd.trans (hx7.chgI hc8 (by omega))
  have hx58:Ext w5 w8:=hx6.trans hx68
  refine zab zdn hA4 hx58 fun v31 h31=>?_
  refine (zjB h31 hx58 h21 hx68 hw).mono ?_
  rintro _ w9 ⟨hx9,v34,v35,lo,hi,lo2,hi2,rfl,o34,o35,hb1,hb2,hb3,hb4,-⟩
  rw [hrun] at o34 o35
  refine zbL rfl ?_
  refine zbL rfl ?_
  refine zcz (α:=DState) zj0 fun w10 hx10 hv10=>?_
  refine zaA zbq hv10 (o34.ext hx10) (.inr hb3) fun w11 hc11 hv8=>?_
  have hx911:Ext w9 w11:=hx10.chgI hc11 (Nat.le_refl _)
  have hx811:=hx9.trans hx911
  have hx311:=hx35.trans (hx58.trans hx811)
  have hx111:=hx13.trans hx311
  refine JOIN.mk (fun us w'=>us=[]∧Ext w11 w') ?_ ?_
  · refine zbo zbq hv6 hx811 fun v36 h36=>?_
    refine zbo zbq hv8 (Ext.refl _) fun v37 h37=>?_
    refine (zjy h36.is hx811 h37.is (Ext.refl _)).mono ?_
    rintro _ w12 ⟨hx12,rfl⟩
    refine zau ?_
    refine br (fun h=>absurd rfl h) (fun _=>?_)
    refine (zdu h29 (hx811.trans hx12) o35.is (hx911.trans hx12)).mono ?_
    rintro _ w13 ⟨hx13',rfl⟩
    refine zau ?_
    refine br (fun h=>absurd rfl h) (fun _=>?_)
    have hx1113:=hx12.trans hx13'
    refine zbo zbq hv6 (hx811.trans hx1113) fun v47 h47=>?_
    refine zbo zbq hv8 hx1113 fun v48 h48=>?_
    refine (zd8 h47.is (hx811.trans hx1113) h48.is hx1113).mono ?_
    rintro _ w14 ⟨hx14,rfl⟩
    refine zau ?_
    refine br (fun h=>absurd rfl h) (fun _=>?_)
    have hx1114:=hx1113.trans hx14
    refine zad u25 h29 ?_
    refine zad u25 h21 ?_
    refine zaj ?_
    refine gbr (fun hl=>?_) (fun _=>⟨rfl,hx1114⟩)
    refine zab zdn hA3 (hx311.trans hx1114) fun v59 h59=>?_
    refine zbo zbq hv6 (hx811.trans hx1114) fun v60 h60=>?_
    refine (zhu h59 (hx311.trans hx1114) h60.is (hx811.trans hx1114)).mono ?_
    rintro v61 w15 ⟨hx15,o61⟩
    have hnil:zhi c E=[]:=by
      unfold zhi;rw [if_pos ⟨hc,hEr⟩,hE];exact hGs (by omega)
    refine zad u25 o61.is ?_
    refine zcm ?_
    refine br (fun h=>absurd h (by rw [hnil];decide)) (fun _=>⟨rfl,hx1114.trans hx15⟩)
  rintro u14 w14 ⟨-,hx14⟩
  have hxd2:=zai w14
  have hsd2:=hxd2.size
  have hx1115:=hx14.trans hxd2
  have hx315:=hx311.trans hx1115
  have hx615:=hx68.trans (hx811.trans hx1115)
  have hx815:=hx811.trans hx1115
  refine PAR.mk (rhQ c (ps.take (G.length / 2)) G.length v21 b H (World.drew1 w14)) ?_ ?_ ?_
  · intro i u u' T T' wa wb hxa hxb hd hq
    match i,hd,hq with
    | 0,hd,hq=>have e1:=(hd (0,67) (by decide)).1;show Is _ (u' 67) _;simp only [e1];exact hq
    | 1,hd,hq=>exact (hd (1,68) (by decide)).1.trans hq
    | 2,hd,hq=>exact (hd (2,69) (by decide)).1.trans hq
    | 3,hd,hq=>exact (hd (3,70) (by decide)).1.trans hq
    | 4,hd,hq=>exact (hd (4,71) (by decide)).1.trans hq
    | 5,hd,hq=>have e1:=(hd (5,72) (by decide)).1;show Is _ (u' 72) _;simp only [e1];exact hq
    | 6,hd,⟨a,b,q1,q2⟩=>
      obtain ⟨e1,e2⟩:=hd (6,73) (by decide)
      simp only at e1 e2
      exact ⟨a,b,e1.trans q1,by rw [e2];exact q2.ext hxb⟩
    | 7,hd,⟨a,b,q1,q2⟩=>
      have e1:=(hd (7,66) (by decide)).1
      have e2:=(hd (6,73) (by decide)).2
      simp only at e1 e2
      exact ⟨a,b,e1.trans q1,by rw [e2];exact q2.ext hxb⟩
    | 8,hd,⟨b,q1⟩=>
      have e1:=(hd (8,74) (by decide)).1
      have e2:=(hd (7,66) (by decide)).1
      simp only at e1 e2
      exact ⟨b,by rw [e1,e2];exact q1⟩
    | 9,_,_=>trivial
    | 10,hd,⟨g,q1,q2,q3,q4⟩=>
      obtain ⟨e1,e2⟩:=hd (10,10) (by decide)
      simp only at e1 e2
      exact ⟨g,e1.trans q1,by rw [e2];exact q2,by rw [e2];exact q3,by rw [e2];exact q4.ext hxb⟩
    | n+11,_,_=>trivial
  · refine ⟨fun u T w' hx _ _=>?_,fun u T w' hx _ _=>?_,fun u T w' hx _ _=>?_,fun u T w' hx _ hp=>?_,fun u T w' hx _ hp=>?_,fun u T w' hx _ hp=>?_,fun u T w' hx _ hp=>?_,fun u T w' hx _ hp=>?_,fun u T w' hx _ hp=>?_,fun u T w' hx _ hp=>?_,fun u T w' hx _ _=>?_,trivial⟩
    · exact zab zdn hA3 (hx315.trans hx) fun v h=>⟨Ext.refl _,(h.ext hx315:Is _ v c)⟩
    · exact ⟨Ext.refl _,rfl⟩
    · exact ⟨Ext.refl _,rfl⟩
    · have q2:u 69=b:=hp.1
      rw [q2]
      exact zad u25 h29 ⟨Ext.refl _,rfl⟩
    · have q3:u 70=.int .i64 (G.length:Int):=hp.1
      rw [q3]
      refine znU (by omega) (by rw [zfH];unfold I64;omega) ?_
      rw [zfH]
      exact ⟨Ext.refl _,rfl⟩
    · have q1:u 68=v21:=hp.1
      have q4:u 71=.int .i64 ((G.length / 2:Nat):Int):=hp.2.1
      rw [q1,q4]
      refine zeW zh9 zjV (h21.ext hx615) (Int.natCast_nonneg _) (by omega) fun v' h'=>⟨Ext.refl _,?_⟩
      rw [Int.toNat_natCast] at h'
      exact h'
    · have q0:Is _ (u 67) c:=hp.1
      have q5:Is _ (u 72) (ps.take (G.length / 2)):=hp.2.1
      refine (zgr q0 hx q5 hx hw).mono ?_
      rintro r w17 ⟨hx17,a,b,lo,hi,lo2,hi2,rfl,oa,ob,b1,b2,b3,b4,-⟩
      rw [hhalf] at oa
      exact ⟨hx17,⟨a,b,rfl,oa.mono b1 b3⟩⟩
    · exact ⟨Ext.refl _,hp.1⟩
    · obtain ⟨a,b,q1,q2⟩:=(hp.1:∃ a b,u 66=.tuple #[a,b]∧OwnI (T 6).1 (T 6).2 w' a H)
      rw [q1]
      exact zbL rfl ⟨Ext.refl _,⟨b,q1⟩⟩
    · obtain ⟨a,b,q1,q2⟩:=(hp.1:∃ a b,u 66=.tuple #[a,b]∧OwnI (T 6).1 (T 6).2 w' a H)
      rw [q1]
      exact zbL rfl ⟨Ext.refl _,trivial⟩
    refine zcz (α:=DState) zj0 fun w7 hx7 hv7=>⟨hx7,⟨w'.heap.size,rfl,Nat.le_refl _,hv7.lt,hv7.mono hx7.size (Nat.le_refl _)⟩⟩
  rintro u10 T2 w17 hx17 hap2 ⟨-,-,-,-,-,-,-,⟨a2,b2,e27,oa2⟩,⟨b2',e28⟩,-,⟨g10,e210,hh0,hh1,hvz2⟩,-⟩
  have s6:=hap2.1 6 (by decide)
  have s10:=hap2.1 10 (by decide)
  have d610:=hap2.2 6 (by decide) 10 (by decide) (by decide)
  have f3:=(zpH (e27.symm.trans e28)).1
  rw [←f3,e210]
  refine zaA zbq hvz2 oa2 (by omega) fun w18 hc18 hv18=>?_
  have hx1518:Ext (World.drew1 w14) w18:=hx17.chgI hc18 (by omega)
  have hx818:=hx815.trans hx1518
  refine zad u25 h29 ?_
  refine znU (by omega) (by rw [zfH];unfold I64;omega) ?_
  rw [zfH]
  refine zaO G.length (fun k us w'=>us=[.int .i64 (k:Int)]∧k≤G.length∧Ext (World.drew1 w14) w'∧∃ lo hi,VarI lo hi w' g10 ((G.take k).foldl (zbV c) (zbD c))) (G.length / 2) (by omega) ⟨rfl,by omega,hx1518,_,_,by rw [hH] at hv18;exact hv18⟩ ?_
  rintro k m u w19 hkm ⟨hu,hkl,hx19,lo,hi,hv⟩
  have hg10:=hv.lt
  simp only [List.map_cons,List.map_nil,List.cons.injEq,and_true] at hu
  rw [hu]
  have hx1119:=hx1115.trans hx19
  have hx819:=hx815.trans hx19
  refine zad u25 h29 ?_
  refine zaj ?_
  refine br (fun hlt=>?_) (fun hge=>?_)
  · have hk:k<G.length:=by omega
    obtain ⟨hkr,hkg⟩:=hGg k hk
    have hx20:=zai w19
    have hx1120:=hx1119.trans hx20
    refine zab zdn hA3 (hx311.trans hx1120) fun v86 h86=>?_
    refine zbo zbq hv hx20 fun v87 h87=>?_
    refine zae u25 ty3 o35.is hk fun b90 o90 hA90=>?_
    refine zac ty3 hA90 (hx911.trans hx1120) fun hI91=>?_
    refine (ziH h86 (hx311.trans hx1120) h87.is hx20 (zko hc hkr)).mono ?_
    rintro _ w21 ⟨hx21,v93,rfl,o93⟩
    have hso:zhW c ((G.take k).foldl (zbV c) (zbD c)) G[k]=(G.take (k+1)).foldl (zbV c) (zbD c):=by
      unfold zhW;rw [if_pos ⟨⟨hc,hkr⟩,hkg⟩,zlQ _ _ hk]
    rw [hso] at o93
    refine zbL rfl ?_
    refine zbL rfl ?_
    have hs20:=hx20.size
    refine zaA zbq (hv.ext (hx20.trans hx21)) o93.toI (.inl (by omega)) fun w22 hc22 hv22=>?_
    refine zau ?_
    refine br (fun h=>absurd ⟨⟨hc,hkr⟩,hkg⟩ h) (fun _=>?_)
    refine zal (by omega) ?_
    exact ⟨m-1,by omega,k+1,by omega,rfl,by omega,(hx19.trans (hx20.trans hx21)).chgI hc22 (by omega),_,_,hv22⟩
  have hk:k=G.length:=by omega
  rw [hk,List.take_length,←hE] at hv
  refine zbo zbq hv (Ext.refl _) fun v97 h97=>?_
  refine zbo zbq hv6 hx819 fun v98 h98=>?_
  refine (zd8 h97.is (Ext.refl _) h98.is hx819).mono ?_
  rintro _ w23 ⟨hx23,rfl⟩
  exact ⟨hx111.trans (hx1119.trans hx23),by simp⟩
theorem znI {P:Program} {t:TypeId} (ht:P.underlying t=some (.int .u8)) (n:Nat):ziQ P t UInt8 n:=by
 intro H enc w spare held cs y h
 obtain ⟨m,rfl,_,hw⟩:=DataW.trod_int ht h
 have hm:0≤m∧m≤255:=by simpa [Lit.wf,IntKind.min,IntKind.max,IntKind.signed,IntKind.bits] using hw
 refine ⟨[],UInt8.ofNat m.toNat,rfl,?_⟩
 have:((UInt8.ofNat m.toNat).toNat:Int)=m:=by
   have:(UInt8.ofNat m.toNat).toNat=m.toNat:=by simp;omega
   omega
 rw [this]
theorem zoF:∀ n,ziQ Tryz.prog 22 (List UInt8) n:=zgP u22 (by kernel_rfl) (znI u5)
end Go.Proofs.YtbnjpfjjmhodnaaGreat
namespace Go.Proofs.YtbnjpfjjmhodnaaGreat
open Go
theorem zbl {a b:Bool} (h:a=true) (k:b=true):(a&&b)=true:=by rw [h,k];rfl
theorem zoG:laidOutB Tryz.prog=true:=by kernel_rfl
theorem zoH:mapsRowed Tryz.prog=true:=by kernel_rfl
theorem znJ:(Rows.fnMachinesRow.plainKeys == Tryz.prog.plainKeys)=true:=by kernel_rfl
theorem znK:Tryz.prog.stopsHeard=true:=by kernel_rfl
theorem zpn:Tryz.prog.mayEnter=true:=by kernel_rfl
theorem zoI:(Rows.fnMachinesRow.lifted == Tryz.prog.liftsFinal)=true:=by kernel_rfl
theorem zoJ:(Tryz.prog.make == some Rows.fnMachinesRow.make)=true:=by kernel_rfl
end Go.Proofs.YtbnjpfjjmhodnaaGreat
namespace Go.Proofs.YtbnjpfjjmhodnaaGreat.fnRuns
open Go.ChangeShapes Go.WideShapes Go.ChangeAt Go.RowKit Go.Sh
theorem own:ownKnob Tryz.prog.godebug=none:=by kernel_rfl
theorem zoK:laidOutB Tryz.prog=true:=by kernel_rfl
set_option maxRecDepth 100000 in
theorem lifted (os:Os) (started:os.Started) (H:Type) (enc:TypeId×Value→H) :
    ReturnsInHanded {} Tryz.checked os 4 .any (Rows.fnRunsSpec.pre6 enc Tryz.prog Tryz.f4 Rows.fnRunsRow.domain false) (Rows.fnRunsSpec.post enc Tryz.prog Tryz.f4 false true false false):=by
  refine returnsInHanded_of_change (C:=Tryz.checked) own started (by kernel_rfl) Tryz.func4
    (ChangeSpec.witness6 (enc:=enc) (C:=Tryz.checked) false ⟨#[],#[.slice none 0 0],[]⟩ 8 (by kernel_rfl) (by kernel_rfl) (by kernel_rfl) (by kernel_rfl)) ?_
  intro W base args ds gs before hval0 hW hcnd _
  have hval:∀ (j:Nat) t v,Tryz.f4.params[j]?=some t→args[j]?=some v→Value.okWide Tryz.prog W .any base t v:=hval0
  have hW':=hW
  obtain ⟨p,q,hA0,hV,rfl,hfz,hnd⟩:=hW
  have hA:DataW.TrodAll enc Tryz.prog W 0 (fun _=>true) true Tryz.f4.params.toList args.toList ds p:=hA0
  rw [Tryz.params4] at hA hval
  obtain ⟨v0,vs0,d0,ds0,p0,q0,hargs,rfl,rfl,h0,r0⟩:=trodAll_cons hA
  obtain ⟨rfl,rfl,rfl⟩:=trodAll_nil r0
  obtain rfl:args=#[v0]:=by cases args;simp_all
  obtain ⟨rfl,rfl⟩:=trodVars_none hV
  have lt0:∀ x∈p0,x.block<W.heap.size:=by obtain ⟨m,hm⟩:=h0;exact DataW.trod_lt m _ _ _ hm
  obtain ⟨x0,i0⟩:=zjR (α:=UInt8) u22 zoF (hval 0 22 v0 rfl rfl) h0
  clear hA0 hval0
  obtain ⟨hcall⟩:=zoE i0 (Ext.refl W)
  refine hcall.mono fun e W' ⟨v,he,bel,hv⟩=>?_
  subst he hv
  exact ⟨_,rfl,_,_,_,[],_,[],hW',trodAll_mk1 (shut_bool Tryz.underlying4 _),(trodAll_cons_mk (Below.trod zoK (by kernel_rfl) (of_decide_eq_true (by kernel_rfl)) h0 bel lt0) trodAll_mk0),rfl,bel.frame _,fun h=>by cases h⟩
theorem zm7:(Rows.fnRunsRow.inPlace == Tryz.prog.inPlace 4)=true:=by kernel_rfl
theorem zjC:(Rows.fnRunsRow.unfollowed == Tryz.prog.unfollowed 4)=true:=by kernel_rfl
theorem zlR:(Rows.fnRunsRow.recurses == Tryz.prog.recurses 4)=true:=by kernel_rfl
theorem zoL:(Rows.fnRunsRow.named == Tryz.prog.varsNamed 4)=true:=by kernel_rfl
theorem closed:joinedFacts Tryz.prog 4 Tryz.f4 Rows.fnRunsSpec Rows.fnRunsRow=true:=by
 unfold joinedFacts
 exact (zbl (zbl (zbl (zbl (zbl (zbl (zbl (zbl (zbl (zbl (zbl (zbl (zbl (zbl (zbl (zbl (zbl (zbl (zbl (zbl (zbl (zbl (zbl (zbl (zbl (zbl (zbl (zbl (zbl (zbl (zbl (by kernel_rfl) zoG) zoH) (by kernel_rfl)) (by kernel_rfl)) (by kernel_rfl)) (by kernel_rfl)) (by kernel_rfl)) (by kernel_rfl)) zm7) zjC) zlR) zoL) (by kernel_rfl)) (by kernel_rfl)) (by kernel_rfl)) (by kernel_rfl)) (by kernel_rfl)) (by kernel_rfl)) (by kernel_rfl)) (by kernel_rfl)) (by kernel_rfl)) znJ) (by kernel_rfl)) znK) zpn) zoI) zoJ) (by kernel_rfl)) (by kernel_rfl)) (by kernel_rfl)) (by kernel_rfl))
theorem over:Rows.fnRunsRow.holds Tryz.pinned (OpenSpec.ofChange Rows.fnRunsSpec):=
 OpenClaim.holds_of_wide 4 Tryz.f4 rfl rfl rfl rfl rfl rfl rfl ⟨rfl,rfl,rfl,rfl,rfl⟩ rfl rfl rfl rfl rfl (by kernel_rfl) Tryz.func4 closed
   (of_decide_eq_true (by kernel_rfl)) (by unfold Func.isWrapper;first | (rw [if_pos (by decide +kernel)];kernel_rfl) | (rw [if_neg (by decide +kernel)];exact ⟨rfl,rfl⟩))
   (fun os started H enc _=>lifted os started H enc)
theorem proved:Rows.FnRunsSaid:=over
end Go.Proofs.YtbnjpfjjmhodnaaGreat.fnRuns
